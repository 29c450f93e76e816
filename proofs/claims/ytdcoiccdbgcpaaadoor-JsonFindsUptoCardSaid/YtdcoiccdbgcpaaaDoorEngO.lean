/-
  Nil slices handed to a callee count as rows without elements; a block's pointer to itself, or nil, as one. No program.
-/
import Derived.Test.YtdcoiccdbgcpaaaDoorEngN
namespace Go.Eng
set_option linter.unusedVariables false
set_option linter.unusedSimpArgs false

def prep1 (i : Nat) (off : Option Nat) (w : Option (ET × Nat)) (args : List SV) (hp : List SB) : Option (List SV × List SB) :=
  match args[i]?, off, w with
  | some (.c (.o (.hd h 0))), some k, w => match hp[h]? with
    | some (.cells e' l) => match l[k]? with
      | some x => match w with
        | some (t, e) => bif nilB x then some (args, hp.set h (.cells e' (l.set k (.own hp.length))) ++ [.row t e []]) else some (args, hp)
        | none => (selfP h x).bind fun y => some (args, hp.set h (.cells e' (l.set k y)))
      | none => none
    | _ => none
  | some (.c (.o x)), none, some (t, e) => bif nilB x then some (args.set i (.c (.o (.own hp.length))), hp ++ [.row t e []]) else some (args, hp)
  | some (.c (.agg l)), some k, some (t, e) => match l[k]? with
    | some x => bif nilB x then some (args.set i (.c (.agg (l.set k (.own hp.length)))), hp ++ [.row t e []]) else some (args, hp)
    | none => none
  | _, _, _ => none
def prepA : List (Nat × Option Nat × Option (ET × Nat)) → List SV → List SB → Option (List SV × List SB)
  | [], args, hp => some (args, hp)
  | (i, off, w) :: r, args, hp => match prep1 i off w args hp with
    | some (args', hp') => prepA r args' hp'
    | none => none
/-- A word behind such a preparation. -/
def prepQ (pre : List (Nat × Option Nat × Option (ET × Nat))) : CQ → CQ
  | .quiet C => .quiet fun args hp R k => match prepA pre args hp with
    | some (args', hp') => C args' hp' R k
    | none => none
  | .loud C => .loud fun args hp R k => match prepA pre args hp with
    | some (args', hp') => C args' hp' R k
    | none => none
  | .any C => .any fun args hp => match prepA pre args hp with
    | some (args', hp') => C args' hp'
    | none => none

def LtH (hp : List SB) : Prop := ∀ (h : Nat) (sb : SB), hp[h]? = some sb → sb.lt hp.length
def PrepOK (args : List SV) (hp : List SB) (args' : List SV) (hp' : List SB) : Prop :=
  (∀ v ∈ args', v.lt hp'.length) ∧ hp.length ≤ hp'.length ∧ ∀ (X : Nat → Prop) (w0 w : World) (ρ : Nat → Value), HpSat X w0 w ρ hp → ∃ ρ', (∀ i < hp.length, ρ' i = ρ i) ∧ args'.map (SV.den ρ') = args.map (SV.den ρ) ∧ HpSat X w0 w ρ' hp' ∧ ∀ w1, HpSat X w0 w1 ρ' hp' → HpSat X w0 w1 ρ hp
theorem PrepOK.refl {args : List SV} {hp : List SB} (h : ∀ v ∈ args, v.lt hp.length) : PrepOK args hp args hp :=
  ⟨h, Nat.le_refl _, fun X w0 w ρ hh => ⟨ρ, fun _ _ => rfl, rfl, hh, fun _ h => h⟩⟩
theorem PrepOK.trans {a b c : List SV} {hp hp' hp'' : List SB} (h : PrepOK a hp b hp') (h' : PrepOK b hp' c hp'') : PrepOK a hp c hp'' := by
  obtain ⟨_, h2, h3⟩ := h
  obtain ⟨h4, h5, h6⟩ := h'
  refine ⟨h4, by omega, fun X w0 w ρ hh => ?_⟩
  obtain ⟨ρ', a1, a2, a3, a4⟩ := h3 X w0 w ρ hh
  obtain ⟨ρ'', b1, b2, b3, b4⟩ := h6 X w0 w ρ' a3
  exact ⟨ρ'', fun i hi => (b1 i (by omega)).trans (a1 i hi), b2.trans a2, b3, fun w1 h => a4 w1 (b4 w1 h)⟩
theorem map_set_den {ρ ρ' : Nat → Value} {args : List SV} {i n : Nat} {v u : SV} (hi : args[i]? = some v) (hd : u.den ρ' = v.den ρ) (hl : ∀ x ∈ args, x.lt n) (ha : ∀ j < n, ρ' j = ρ j) : (args.set i u).map (SV.den ρ') = args.map (SV.den ρ) := by
  apply List.ext_getElem?
  intro j
  rw [List.getElem?_map, List.getElem?_map]
  by_cases hj : j = i
  · subst hj
    rw [List.getElem?_set_self (List.getElem?_eq_some_iff.1 hi).1, hi]
    simp only [Option.map_some, hd]
  · rw [List.getElem?_set_ne (Ne.symm hj)]
    cases h : args[j]? with
    | none => rfl
    | some y =>
      simp only [Option.map_some]
      rw [SV.den_congr ha (hl y (List.mem_of_getElem? h))]
theorem map_den_congr {ρ ρ' : Nat → Value} {args : List SV} {n : Nat} (hl : ∀ x ∈ args, x.lt n) (ha : ∀ j < n, ρ' j = ρ j) : args.map (SV.den ρ') = args.map (SV.den ρ) :=
  List.map_congr_left fun y hy => SV.den_congr ha (hl y hy)
theorem prep1_ok {i : Nat} {off : Option Nat} {w : Option (ET × Nat)} {args args' : List SV} {hp hp' : List SB} (h : prep1 i off w args hp = some (args', hp')) (hl : ∀ v ∈ args, v.lt hp.length) : PrepOK args hp args' hp' := by
  have stay : ∀ {x : Option (List SV × List SB)}, x = some (args, hp) → x = some (args', hp') → PrepOK args hp args' hp' := fun h1 h2 => by
    rw [h1] at h2
    simp only [Option.some.injEq, Prod.mk.injEq] at h2
    obtain ⟨rfl, rfl⟩ := h2
    exact .refl hl
  have lt1 : ∀ v ∈ args, v.lt (hp.length + 1) := fun v hv => SV.lt_mono (Nat.le_succ _) (hl v hv)
  have back : ∀ (X : Nat → Prop) (w0 w1 : World) (ρ : Nat → Value) (t : ET) (e : Nat), LtH hp → HpSat X w0 w1 (nilρ hp.length ρ) (hp ++ [.row t e []]) → HpSat X w0 w1 ρ hp := fun X w0 w1 ρ t e hlt hh =>
    hh.init hlt fun i hi => nilρ_lt i hi
  unfold prep1 at h
  split at h
  · rename_i hh k hi
    have hiL := hl _ (List.mem_of_getElem? hi)
    split at h
    · rename_i e' l hsb
      split at h
      · rename_i x hx
        have hhl := (List.getElem?_eq_some_iff.1 hsb).1
        split at h
        · rename_i t e
          cases hn : nilB x with
          | false => rw [hn] at h; exact stay rfl h
          | true =>
            rw [hn] at h
            simp only [cond_true, Option.some.injEq, Prod.mk.injEq] at h
            obtain ⟨rfl, rfl⟩ := h
            have hnil := nilB_eq hn
            refine ⟨by simpa using lt1, by simp, fun X w0 w ρ hs => ?_⟩
            have hlt := hs.lt hh _ hsb
            have hsb' : (hp ++ [SB.row t e []])[hh]? = some (.cells e' l) := by rw [List.getElem?_append_left hhl]; exact hsb
            have fwd : ∀ w1, HpSat X w0 w1 (nilρ hp.length ρ) (hp ++ [.row t e []]) → HpSat X w0 w1 (nilρ hp.length ρ) (hp.set hh (.cells e' (l.set k (.own hp.length))) ++ [.row t e []]) := fun w1 h1 => by
              have := heap_respell h1 hsb' (l' := l.set k (.own hp.length)) (by
                rw [set_nil_den hx hnil hlt]
                exact (List.map_congr_left fun y hy => S0.den_congr nilρ_lt (hlt y hy)).symm) (by
                have := set_nil_lt (k := k) hlt
                simpa using this)
              rwa [List.set_append_left _ _ hhl] at this
            refine ⟨nilρ hp.length ρ, nilρ_lt, map_den_congr hl nilρ_lt, fwd w (heap_nil hs t e), fun w1 h1 => ?_⟩
            have h2 : (hp.set hh (.cells e' (l.set k (.own hp.length))) ++ [SB.row t e []])[hh]? = some (.cells e' (l.set k (.own hp.length))) := by
              rw [List.getElem?_append_left (by simpa using hhl), List.getElem?_set_self hhl]
            have h3 := heap_respell h1 h2 (l' := l) (by
              rw [set_nil_den hx hnil hlt]
              exact List.map_congr_left fun y hy => S0.den_congr nilρ_lt (hlt y hy)) (fun y hy => S0.lt_mono (by simp) (hlt y hy))
            rw [List.set_append_left _ _ (by simpa using hhl), List.set_set, (by
              apply List.ext_getElem?
              intro j
              by_cases hj : j = hh
              · subst hj; rw [List.getElem?_set_self hhl, hsb]
              · rw [List.getElem?_set_ne (Ne.symm hj)] : hp.set hh (.cells e' l) = hp)] at h3
            exact back X w0 w1 ρ t e hs.lt h3
        · obtain ⟨y, hy, h⟩ := Option.bind_eq_some_iff.1 h
          simp only [Option.some.injEq, Prod.mk.injEq] at h
          obtain ⟨rfl, rfl⟩ := h
          refine ⟨by simpa using hl, by simp, fun X w0 w ρ hs => ?_⟩
          obtain ⟨hd, hyl⟩ := selfP_den (ρ := ρ) hy
          have hlt := hs.lt hh _ hsb
          refine ⟨ρ, fun _ _ => rfl, rfl, heap_respell hs hsb (set_den hx hd) (set_lt hlt (hyl _ hhl)), fun w1 h1 => ?_⟩
          have h2 : (hp.set hh (.cells e' (l.set k y)))[hh]? = some (.cells e' (l.set k y)) := List.getElem?_set_self hhl
          have h3 := heap_respell h1 h2 (l' := l) (set_den hx hd).symm (fun y hy => by simpa using hlt y hy)
          rwa [List.set_set, (by
            apply List.ext_getElem?
            intro j
            by_cases hj : j = hh
            · subst hj; rw [List.getElem?_set_self hhl, hsb]
            · rw [List.getElem?_set_ne (Ne.symm hj)] : hp.set hh (.cells e' l) = hp)] at h3
      · cases h
    · cases h
  · rename_i x t e hi
    cases hn : nilB x with
    | false => rw [hn] at h; exact stay rfl h
    | true =>
      rw [hn] at h
      simp only [cond_true, Option.some.injEq, Prod.mk.injEq] at h
      obtain ⟨rfl, rfl⟩ := h
      refine ⟨fun v hv => ?_, by simp, fun X w0 w ρ hs => ⟨nilρ hp.length ρ, nilρ_lt, ?_, heap_nil hs t e, fun w1 h1 => back X w0 w1 ρ t e hs.lt h1⟩⟩
      · rcases List.mem_or_eq_of_mem_set hv with h | rfl
        · simpa using lt1 v h
        · simp [SV.lt, SC.lt, S0.lt]
      · refine map_set_den hi ?_ hl nilρ_lt
        rw [nilB_eq hn]
        simp only [SV.den, SC.den, S0.den, nilρ_at]
  · rename_i l k t e hi
    split at h
    · rename_i x hx
      cases hn : nilB x with
      | false => rw [hn] at h; exact stay rfl h
      | true =>
        rw [hn] at h
        simp only [cond_true, Option.some.injEq, Prod.mk.injEq] at h
        obtain ⟨rfl, rfl⟩ := h
        have hlt := hl _ (List.mem_of_getElem? hi)
        refine ⟨fun v hv => ?_, by simp, fun X w0 w ρ hs => ⟨nilρ hp.length ρ, nilρ_lt, ?_, heap_nil hs t e, fun w1 h1 => back X w0 w1 ρ t e hs.lt h1⟩⟩
        · rcases List.mem_or_eq_of_mem_set hv with h | rfl
          · simpa using lt1 v h
          · have := set_nil_lt (k := k) hlt
            show ∀ y ∈ _, S0.lt _ y
            simpa using this
        · refine map_set_den hi ?_ hl nilρ_lt
          simp only [SV.den, SC.den]
          rw [set_nil_den hx (nilB_eq hn) hlt]
    · cases h
  · cases h
theorem prepA_ok : ∀ {pre : List (Nat × Option Nat × Option (ET × Nat))} {args args' : List SV} {hp hp' : List SB}, prepA pre args hp = some (args', hp') → (∀ v ∈ args, v.lt hp.length) → PrepOK args hp args' hp'
  | [], args, args', hp, hp', h, hl => by
    simp only [prepA, Option.some.injEq, Prod.mk.injEq] at h
    obtain ⟨rfl, rfl⟩ := h
    exact .refl hl
  | (i, off, w) :: r, args, args', hp, hp', h, hl => by
    simp only [prepA] at h
    split at h
    · rename_i a1 h1 heq
      have := prep1_ok heq hl
      exact this.trans (prepA_ok h this.1)
    · cases h
theorem prep_loudG {P : Program} {f : Nat} {deep : Bool} {pre : List (Nat × Option Nat × Option (ET × Nat))} {modes : List Bool} {C : CS} (h : ValidS P f C) : ValidQ P f (prepQ pre (liftG deep modes C)) := by
  obtain ⟨hnat, hval, hany⟩ := liftG_valid (deep := deep) (modes := modes) h
  refine ⟨fun args hp R k r hr => ?_, fun args hp p r q hq hpp hl => ?_, trivial⟩
  · simp only at hr ⊢
    cases h1 : prepA pre args hp with
    | none => rw [h1] at hr; cases hr
    | some x =>
      obtain ⟨a', hp'⟩ := x
      rw [h1] at hr
      simp only at hr ⊢
      exact hnat a' hp' R k r hr
  · simp only [oldC, liftG, prepQ] at hq
    cases h1 : prepA pre args hp with
    | none => rw [h1] at hq; cases hq
    | some x =>
      obtain ⟨a', hp'⟩ := x
      rw [h1] at hq
      obtain ⟨g1, g2, g3⟩ := prepA_ok h1 hl
      have := hval a' hp' p r q hq hpp g1
      cases q with
      | none =>
        exfalso
        simp only at hq
        split at hq <;> cases hq
      | some hp2 =>
        obtain ⟨k1, k2, k3⟩ := this
        refine ⟨k1, by omega, fun X w0 w ρ hs hf => ?_⟩
        obtain ⟨ρ', a1, a2, a3, a4⟩ := g3 X w0 w ρ hs
        have := k3 X w0 w ρ' a3 hf
        rw [a2] at this
        refine this.mono ?_
        rintro e w' ⟨ρ2, b1, b2, b3, b4⟩
        exact ⟨ρ2, fun i hi => (b1 i (by omega)).trans (a1 i hi), b2, b3, b4⟩
theorem prep_loud {P : Program} {f : Nat} {pre : List (Nat × Option Nat × Option (ET × Nat))} {modes : List Bool} {C : CS} (h : ValidS P f C) : ValidQ P f (prepQ pre (liftQ modes C)) := prep_loudG h
theorem liftV_shut {deep : Bool} {modes : List Bool} {C : CS} {args : List SV} {hp : List SB} {p : Prop} {r : SV} {q : Option (List SB)} (hn : natQ (liftH deep modes C)) (hs : natS C) (h : oldC (liftH deep modes C) args hp = some (p, r, q)) : r.shut = true ∧ q = none := by
  simp only [oldC, liftH] at h
  cases ha : modes.all (fun b => bif b then false else true) with
  | false => rw [ha] at h; simp at h
  | true =>
    rw [ha] at h
    simp only [cond_true] at h
    cases h1 : lendAll deep modes args hp with
    | none => rw [h1] at h; simp at h
    | some x =>
      obtain ⟨θ, ps, args', hpv⟩ := x
      rw [h1] at h
      simp only at h
      cases h0 : gds ps (C args' hpv SV fun v hpv' => bif v.shut then some v else none) with
      | none => rw [h0] at h; simp at h
      | some y =>
        rw [h0] at h
        obtain ⟨hps, h0⟩ := gds_some.1 h0
        rw [hs] at h0
        obtain ⟨⟨v, hpv'⟩, h4, h5⟩ := Option.bind_eq_some_iff.1 h0
        simp only at h5
        cases hs : v.shut with
        | false => rw [hs] at h5; simp at h5
        | true =>
          rw [hs] at h5
          simp only [cond_true, Option.some.injEq] at h5
          subst h5
          simp only [Option.some.injEq, Prod.mk.injEq] at h
          obtain ⟨_, rfl, rfl⟩ := h
          exact ⟨hs, rfl⟩
theorem prep_quietG {P : Program} {f : Nat} {deep : Bool} {pre : List (Nat × Option Nat × Option (ET × Nat))} {modes : List Bool} {C : CS} (h : ValidS P f C) : ValidQ P f (prepQ pre (liftH deep modes C)) := by
  obtain ⟨hnat, hval, hany⟩ := liftH_valid (deep := deep) (modes := modes) h
  refine ⟨fun args hp R k r hr => ?_, fun args hp p r q hq hpp hl => ?_, trivial⟩
  · simp only at hr ⊢
    cases h1 : prepA pre args hp with
    | none => rw [h1] at hr; cases hr
    | some x =>
      obtain ⟨a', hp'⟩ := x
      rw [h1] at hr
      simp only at hr ⊢
      exact hnat a' hp' R k r hr
  · cases h1 : prepA pre args hp with
    | none => simp only [oldC, liftH, prepQ] at hq; rw [h1] at hq; cases hq
    | some x =>
      obtain ⟨a', hp'⟩ := x
      have hq' : oldC (liftH deep modes C) a' hp' = some (p, r, q) := by
        simp only [oldC, liftH, prepQ] at hq ⊢
        rw [h1] at hq
        exact hq
      obtain ⟨hsh, rfl⟩ := liftV_shut hnat h.1 hq'
      obtain ⟨g1, g2, g3⟩ := prepA_ok h1 hl
      obtain ⟨k1, k3⟩ := hval a' hp' p r none hq' hpp g1
      refine ⟨SV.shut_lt hsh _, fun X w0 w ρ hs hf => ?_⟩
      obtain ⟨ρ', a1, a2, a3, a4⟩ := g3 X w0 w ρ hs
      have := k3 X w0 w ρ' a3 hf
      rw [a2] at this
      refine this.mono ?_
      rintro e w' ⟨rfl, b2, b3⟩
      exact ⟨by rw [SV.shut_den hsh ρ' ρ], a4 w' b2, b3⟩
theorem prep_quiet {P : Program} {f : Nat} {pre : List (Nat × Option Nat × Option (ET × Nat))} {modes : List Bool} {C : CS} (h : ValidS P f C) : ValidQ P f (prepQ pre (liftV modes C)) := prep_quietG h
theorem prep_quietE {P : Program} {f : Nat} {pre : List (Nat × Option Nat × Option (ET × Nat))} {modes : List Bool} {C : CS} (h : ValidS P f C) : ValidQ P f (prepQ pre (liftE modes C)) := prep_quietG h
/-! ### a part handed over to be written: it becomes a row, and what it was a part of is given up -/
def sett1 (i : Nat) (args : List SV) (hp : List SB) : Option (List Prop × List SB) :=
  match args[i]? with
  | some (.c (.o (.own h))) => match hp[h]? with
    | some (.part k lo n sz) => match hp[k]? with
      | some (.row t e l) => bif (bif Nat.beq lo 0 then (bif Nat.beq sz t.sz then (bif Nat.beq h k then false else true) else false) else false) then some ([n ≤ l.length], (hp.set k .dead).set h (.row t e (l.take n))) else none
      | _ => none
    | _ => some ([], hp)
  | _ => some ([], hp)
def settA : List Nat → List SV → List SB → Option (List Prop × List SB)
  | [], args, hp => some ([], hp)
  | i :: r, args, hp => match sett1 i args hp with
    | some (ps, hp') => match settA r args hp' with
      | some (qs, hp'') => some (ps ++ qs, hp'')
      | none => none
    | none => none
noncomputable def settQ (pre : List Nat) : CQ → CQ
  | .loud C => .loud fun args hp R k => match settA pre args hp with
    | some (ps, hp') => gds ps (C args hp' R k)
    | none => none
  | C => C
def SettOK (ps : List Prop) (hp hp' : List SB) : Prop := hp'.length = hp.length ∧ (AllP ps → ∀ (X : Nat → Prop) (w0 w : World) (ρ : Nat → Value), HpSat X w0 w ρ hp → HpSat X w0 w ρ hp')
theorem sett1_ok {i : Nat} {args : List SV} {hp hp' : List SB} {ps : List Prop} (h : sett1 i args hp = some (ps, hp')) : SettOK ps hp hp' := by
  have stay : some (([] : List Prop), hp) = some (ps, hp') → SettOK ps hp hp' := fun h => by
    simp only [Option.some.injEq, Prod.mk.injEq] at h
    obtain ⟨rfl, rfl⟩ := h
    exact ⟨rfl, fun _ X w0 w ρ h => h⟩
  unfold sett1 at h
  split at h
  · rename_i hh hi0
    split at h
    · rename_i k lo n sz hpt
      split at h
      · rename_i t e l hsb
        cases hb : (bif Nat.beq lo 0 then (bif Nat.beq sz t.sz then (bif Nat.beq hh k then false else true) else false) else false) with
        | false => rw [hb] at h; simp at h
        | true =>
          rw [hb] at h
          simp only [cond_true, Option.some.injEq, Prod.mk.injEq] at h
          obtain ⟨rfl, rfl⟩ := h
          have h1 : lo = 0 ∧ sz = t.sz ∧ hh ≠ k := by
            cases q1 : Nat.beq lo 0 with
            | false => rw [q1] at hb; simp at hb
            | true =>
              rw [q1] at hb
              cases q2 : Nat.beq sz t.sz with
              | false => rw [q2] at hb; simp at hb
              | true =>
                rw [q2] at hb
                cases q3 : Nat.beq hh k with
                | true => rw [q3] at hb; simp at hb
                | false => exact ⟨Nat.eq_of_beq_eq_true q1, Nat.eq_of_beq_eq_true q2, fun e => by rw [e, nbeq.2 rfl] at q3; cases q3⟩
          obtain ⟨rfl, rfl, hne⟩ := h1
          refine ⟨by simp, fun hps X w0 w ρ hs => ?_⟩
          have hle : n ≤ l.length := hps.1
          obtain ⟨ad, len, cap, ad', hu, hv, hc, had, had0⟩ := hs.sat hh _ hpt
          obtain ⟨o1, o2⟩ := hs.sat k _ hsb
          have e0 := had0 rfl
          have hkill := hs.kill k
          have hlen : (l.take n).length = n := by rw [List.length_take, Nat.min_eq_left hle]
          have hval : ρ hh = .slice ad n cap := by rw [hv, e0, Nat.sub_zero]
          have hpt' : (hp.set k .dead)[hh]? = some (.part k 0 n t.sz) := by rw [List.getElem?_set_ne (Ne.symm hne)]; exact hpt
          refine ⟨fun i hi => hs.ref i (by simpa using hi), fun a sb hi => ?_, fun a sb hi => ?_, fun a j sb1 sb2 b hij hi hj e1 e2 f1 f2 => ?_, hs.tab⟩
          · by_cases hih : a = hh
            · subst hih
              rw [List.getElem?_set_self (by simpa using (List.getElem?_eq_some_iff.1 hpt).1)] at hi
              simp only [Option.some.injEq] at hi
              subst hi
              show World.ownsRow w 0 e t.sz (ρ a) (l.take n).length ((l.take n).flatMap t.enc) ∧ _
              rw [hval, hlen]
              rcases o1.2 with ⟨hn, hn0⟩ | ⟨g, cap', cur, hn, hbz, hg, hnc, hcm, hcs, htake⟩
              · rw [hu] at hn
                simp only [Value.slice.injEq] at hn
                obtain ⟨rfl, rfl, rfl⟩ := hn
                have : n = 0 := by omega
                subst this
                rw [List.take_zero]
                exact ⟨World.ownsRow_nil w 0 e t.sz, fun b hb => by simp [Value.ownBlock] at hb⟩
              · rw [hu] at hn
                simp only [Value.slice.injEq] at hn
                obtain ⟨rfl, rfl, rfl⟩ := hn
                refine ⟨⟨by rw [flatMap_len t.enc_len, hlen], .inr ⟨g, cap, cur, rfl, hbz, hg, by omega, hcm, hcs, ?_⟩⟩, fun b hb => ?_⟩
                · have hx1 := flatMap_take t.enc_len l n
                  rw [hx1, ← htake, List.take_take]
                  congr 1
                  have : n * t.sz ≤ l.length * t.sz := Nat.mul_le_mul_right _ hle
                  omega
                · simp only [Value.ownBlock, Option.some.injEq] at hb
                  subst hb
                  exact o2 g (by rw [hu]; rfl)
            · rw [List.getElem?_set_ne (Ne.symm hih)] at hi
              exact hkill.sat a sb hi
          · by_cases hih : a = hh
            · subst hih
              rw [List.getElem?_set_self (by simpa using (List.getElem?_eq_some_iff.1 hpt).1)] at hi
              simp only [Option.some.injEq] at hi
              subst hi
              trivial
            · rw [List.getElem?_set_ne (Ne.symm hih)] at hi
              have := hkill.lt a sb hi
              simpa using this
          · have fpk : ∀ b, fp (ρ hh) = some b → fp (ρ k) = some b := fun b hb => by
              rw [hval] at hb
              rw [hu]
              cases ad with
              | none => simp [fp] at hb
              | some a => simpa [fp] using hb
            by_cases hih : a = hh
            · subst hih
              rw [List.getElem?_set_ne hij] at hj
              by_cases hjk : j = k
              · subst hjk
                rw [List.getElem?_set_self (List.getElem?_eq_some_iff.1 hsb).1] at hj
                cases hj
                cases e2
              · rw [List.getElem?_set_ne (Ne.symm hjk)] at hj
                exact hs.apart k j _ sb2 b (fun e => hjk e.symm) hsb hj rfl e2 (fpk b f1) f2
            · rw [List.getElem?_set_ne (Ne.symm hih)] at hi
              by_cases hjh : j = hh
              · subst hjh
                by_cases hik : a = k
                · subst hik
                  rw [List.getElem?_set_self (List.getElem?_eq_some_iff.1 hsb).1] at hi
                  cases hi
                  cases e1
                · rw [List.getElem?_set_ne (Ne.symm hik)] at hi
                  exact hs.apart a k sb1 _ b hik hi hsb e1 rfl f1 (fpk b f2)
              · rw [List.getElem?_set_ne (Ne.symm hjh)] at hj
                exact hkill.apart a j sb1 sb2 b hij hi hj e1 e2 f1 f2
      · cases h
    · exact stay h
  · exact stay h
theorem AllP_app : ∀ {ps qs : List Prop}, AllP (ps ++ qs) ↔ AllP ps ∧ AllP qs
  | [], qs => by simp [AllP]
  | p :: r, qs => by simp only [List.cons_append, AllP, AllP_app (ps := r), and_assoc]
theorem settA_ok : ∀ {pre : List Nat} {args : List SV} {hp hp' : List SB} {ps : List Prop}, settA pre args hp = some (ps, hp') → SettOK ps hp hp'
  | [], args, hp, hp', ps, h => by
    simp only [settA, Option.some.injEq, Prod.mk.injEq] at h
    obtain ⟨rfl, rfl⟩ := h
    exact ⟨rfl, fun _ X w0 w ρ h => h⟩
  | i :: r, args, hp, hp', ps, h => by
    simp only [settA] at h
    split at h
    · rename_i p1 h1 heq
      split at h
      · rename_i q1 h2 heq2
        simp only [Option.some.injEq, Prod.mk.injEq] at h
        obtain ⟨rfl, rfl⟩ := h
        obtain ⟨a1, a2⟩ := sett1_ok heq
        obtain ⟨b1, b2⟩ := settA_ok heq2
        exact ⟨b1.trans a1, fun hA X w0 w ρ hs => b2 (AllP_app.1 hA).2 X w0 w ρ (a2 (AllP_app.1 hA).1 X w0 w ρ hs)⟩
      · cases h
    · cases h
theorem sett_valid {P : Program} {f : Nat} {pre : List Nat} {D : CQ} (h : ValidQ P f D) : ValidQ P f (settQ pre D) := by
  cases D with
  | any C => exact h
  | quiet C => exact h
  | loud C =>
    obtain ⟨hnat, hval, _⟩ := h
    refine ⟨?_, ?_, trivial⟩
    · intro args hp R k r hr
      simp only at hr ⊢
      cases h1 : settA pre args hp with
      | none => rw [h1] at hr; simp at hr
      | some x =>
        obtain ⟨ps, hp'⟩ := x
        rw [h1] at hr
        simp only at hr ⊢
        obtain ⟨hps, hr⟩ := gds_some.1 hr
        obtain ⟨v, hp'', h2, h3⟩ := hnat args hp' R k r hr
        exact ⟨v, hp'', gds_some.2 ⟨hps, h2⟩, h3⟩
    · intro args hp p r q hq hp0 hlt
      simp only [oldC, settQ] at hq
      cases h1 : settA pre args hp with
      | none => rw [h1] at hq; simp at hq
      | some x =>
        obtain ⟨ps, hp'⟩ := x
        rw [h1] at hq
        simp only at hq
        obtain ⟨s1, s2⟩ := settA_ok h1
        cases h0 : gds ps (C args hp' (SV × List SB) fun v hp' => some (v, hp')) with
        | none => rw [h0] at hq; simp at hq
        | some y =>
          rw [h0] at hq
          obtain ⟨hps, h0⟩ := gds_some.1 h0
          have hq' : oldC (.loud C) args hp' = some (p, r, q) := by
            simp only [oldC]
            rw [h0]
            exact hq
          have := hval args hp' p r q hq' hp0 (by rw [s1]; exact hlt)
          cases q with
          | none =>
            obtain ⟨k1, k2⟩ := this
            refine ⟨by rw [← s1]; exact k1, fun X w0 w ρ hs hf => ?_⟩
            exfalso
            simp only [oldC] at hq'
            split at hq' <;> cases hq'
          | some hp2 =>
            obtain ⟨k1, k2, k3⟩ := this
            refine ⟨k1, by omega, fun X w0 w ρ hs hf => ?_⟩
            have := k3 X w0 w ρ (s2 hps X w0 w ρ hs) hf
            rw [s1] at this
            exact this
/-! ### where a callee answers with any number of a range: what is told is at most what is so -/
def Le {α : Type} (a b : Option α) : Prop := ∀ r, a = some r → b = some r
theorem Le.refl {α : Type} (a : Option α) : Le a a := fun _ h => h
theorem Le.trans {α : Type} {a b c : Option α} (h : Le a b) (h' : Le b c) : Le a c := fun r hr => h' r (h r hr)
end Go.Eng
