/-
 From a function's code to its calls; from a call's end to a callee's word. No program.
-/
import Derived.Test.YtekkjbomadoplaaDoorEngW
namespace Go.Eng
set_option linter.unusedVariables false
set_option linter.unusedSimpArgs false

def resSem (tmps : Array Value) : ResultVar → Sem Value
 | .tmp t => pure (tmps.getD t undef)
 | .cell a t => do loadVar t (← asAddr (tmps.getD a undef))

theorem rv_run {E : Env} {ρ : Nat → Value} {S : St} {a : Act} {w : World} (hs : Sat E ρ S a w) {r : ResultVar} {rs : List ResultVar} {x : RV} {p : Prop} {v : SC} (hx : rvs E.P [r] = some [x]) (h : rvE S x = some (p, v)) (hp : p) :
  (resSem a.tmps r).run E.P w = .ok (v.den ρ) w ∧ v.lt S.hp.length := by
 cases r with
 | tmp t =>
  simp only [rvs, snJ, List.cons.injEq, and_true] at hx
  subst hx
  simp only [rvE] at h
  split at h
  ·rename_i c y hg
   simp only [snJ, Prod.mk.injEq] at h
   obtain ⟨rfl, rfl⟩ := h
   obtain ⟨h1, _, h3⟩ := hs.sl t c _ hg
   refine ⟨?_, h3 hp⟩
   have := h1 hp
   simp [resSem, Array.getD_eq_getD_getElem?, this, SV.den]
  ·cases h
 | cell c t =>
  simp only [rvs] at hx
  split at hx
  ·rename_i n s hn h0
   simp only [rvs, snJ] at h0
   subst h0
   simp only [snJ, List.cons.injEq, and_true] at hx
   subst hx
   simp only [rvE] at h
   split at h
   ·rename_i cc hh off hg
    obtain ⟨h1, _, h3⟩ := hs.sl c cc _ hg
    split at h
    ·rename_i e l hsb
     obtain ⟨b, hv, hb, _⟩ := hs.hp.sat hh _ hsb
     have hlt := hs.hp.lt hh _ hsb
     have hcell : ∀ j u, (l.map (S0.den ρ))[j]? = some u → w.cell? ⟨b, j, none⟩ = some u := fun j u hu => by
      rw [cell_of_row w b j _ e (0, 0) hb]
      simpa using hu
     have key : cc → a.tmps.getD c undef = .pointer (some ⟨b, off, none⟩) := fun hcc => by
      have := h1 hcc
      simp only [SV.den, SC.den, S0.den, hv, ptrAdd_lit] at this
      simp [Array.getD_eq_getD_getElem?, this]
     cases n with
     | none =>
      simp only at h
      split at h
      ·rename_i y hy
       simp only [snJ, Prod.mk.injEq] at h
       obtain ⟨rfl, rfl⟩ := h
       refine ⟨?_, hlt y (List.mem_of_getElem? hy)⟩
       simp only [resSem, Sem.run_bind, key hp, asAddr, Sem.run_pure, Result.andThen_ok, SC.den]
       exact run_loadVar1 hn (hcell off _ (by simp [hy]))
      ·cases h
     | some m =>
      simp only at h
      cases hb' : Nat.ble (off + m) l.length with
      | false => rw [hb'] at h; cases h
      | true =>
       rw [hb'] at h
       simp only [cond_true, snJ, Prod.mk.injEq] at h
       obtain ⟨rfl, rfl⟩ := h
       have hle : off + m ≤ l.length := by simpa using hb'
       refine ⟨?_, fun y hy => hlt y (List.mem_of_mem_drop (List.mem_of_mem_take hy))⟩
       simp only [resSem, Sem.run_bind, key hp, asAddr, Sem.run_pure, Result.andThen_ok]
       have e1 : (subList l off m).map (S0.den ρ) = ((l.map (S0.den ρ)).drop off).take m := by
        unfold subList
        rw [← List.map_drop, ← List.map_take]
       have hr := run_loadVarN (P := E.P) (w := w) (t := t) (n := m) (ad := ⟨b, off, none⟩) (cs := ((l.map (S0.den ρ)).drop off).take m) hn (by simp; omega)
        (fun j v hv => by rw [← add_lit, add_add, add_lit]; exact hcell _ _ (sub_get hv))
       rw [hr, SC.den, e1]
    ·cases h
   ·cases h
  ·cases hx

theorem rvs_cons {P : Program} {r : ResultVar} {rs : List ResultVar} {xs : List RV} (h : rvs P (r :: rs) = some xs) : ∃ x s, xs = x :: s ∧ rvs P [r] = some [x] ∧ rvs P rs = some s := by
 cases r with
 | tmp t =>
  simp only [rvs] at h
  split at h
  ·rename_i s hs
   cases h
   exact ⟨_, _, rfl, rfl, hs⟩
  ·cases h
 | cell a t =>
  simp only [rvs] at h
  split at h
  ·rename_i n s hn hs
   cases h
   exact ⟨_, _, rfl, by simp [rvs, hn], hs⟩
  ·cases h

theorem rvs_run {E : Env} {ρ : Nat → Value} {S : St} {a : Act} {w : World} (hs : Sat E ρ S a w) : ∀ {rs : List ResultVar} {xs : List RV} {p : Prop} {l : List SC}, rvs E.P rs = some xs → resE S xs = some (p, l) → p →
  (rs.mapM (resSem a.tmps)).run E.P w = .ok (l.map (SC.den ρ)) w ∧ ∀ v ∈ l, v.lt S.hp.length
 | [], xs, p, l, hx, h, hp => by
  simp only [rvs, snJ] at hx
  subst hx
  simp only [resE, snJ, Prod.mk.injEq] at h
  obtain ⟨_, rfl⟩ := h
  exact ⟨by simp, fun v hv => by simp at hv⟩
 | r :: rs, xs, p, l, hx, h, hp => by
  obtain ⟨x, s, rfl, h1, h2⟩ := rvs_cons hx
  simp only [resE] at h
  split at h
  ·rename_i q v q2 l2 h3 h4
   simp only [snJ, Prod.mk.injEq] at h
   obtain ⟨rfl, rfl⟩ := h
   obtain ⟨e1, e2⟩ := rv_run (rs := []) hs h1 h3 hp.1
   obtain ⟨e3, e4⟩ := rvs_run hs h2 h4 hp.2
   refine ⟨?_, fun u hu => ?_⟩
   ·rw [List.mapM_cons, Sem.run_bind, e1]
    simp only [Result.andThen_ok, Sem.run_bind, e3, Sem.run_pure, List.map_cons]
   ·rcases List.mem_cons.1 hu with rfl | hu
    ·exact e2
    ·exact e4 u hu
  ·cases h

theorem results_run {E : Env} {ρ : Nat → Value} {S : St} {a : Act} {w : World} (hs : Sat E ρ S a w) {fn : Func} {xs : List RV} {p : Prop} {l : List SC} (hx : rvs E.P fn.results.toList = some xs) (h : resE S xs = some (p, l)) (hp : p) :
  (results fn a.tmps).run E.P w = .ok ((mkRes l).den ρ) w ∧ (mkRes l).lt S.hp.length := by
 obtain ⟨e1, e2⟩ := rvs_run hs hx h hp
 constructor
 ·have hrs : results fn a.tmps = (do let vs ← fn.results.mapM (resSem a.tmps); pure (if h : vs.size = 1 then vs[0] else .tuple vs)) := by
   unfold results
   congr 2
  rw [hrs, Array.mapM_eq_mapM_toList]
  simp only [Sem.run_bind, Sem.run_map, e1, Result.andThen_ok, Sem.run_pure]
  congr 1
  rcases l with _ | ⟨x, _ | ⟨y, r⟩⟩
  ·rfl
  ·simp [mkRes, SV.den]
  ·simp [mkRes, SV.den]
 ·rcases l with _ | ⟨x, _ | ⟨y, r⟩⟩
  ·exact fun v hv => by simp at hv
  ·exact e2 x (by simp)
  ·exact e2

def argSl : Nat → List SV → List (Nat × Prop × SV)
 | _, [] => []
 | i, v :: r => (i, True, v) :: argSl (i + 1) r
theorem argSl_get : ∀ {l : List SV} {n i : Nat} {c : Prop} {v : SV}, getE (argSl n l) i = some (c, v) → c ∧ n ≤ i ∧ l[i - n]? = some v
 | [], n, i, c, v, h => by simp [argSl, getE] at h
 | x :: r, n, i, c, v, h => by
  simp only [argSl, getE] at h
  by_cases hn : n = i
  ·subst hn
   simp only [beq_self_eq_true, cond_true, snJ, Prod.mk.injEq] at h
   obtain ⟨rfl, rfl⟩ := h
   exact ⟨trivial, Nat.le_refl _, by simp⟩
  ·have : (n == i) = false := by simpa using hn
   rw [this] at h
   obtain ⟨h1, h2, h3⟩ := argSl_get (l := r) h
   refine ⟨h1, by omega, ?_⟩
   rw [show i - n = (i - (n + 1)) + 1 by omega]
   simpa using h3

theorem Stays.refl (X : Nat → Prop) (w : World) : Stays X w w := ⟨rfl, rfl, Nat.le_refl _, fun _ _ _ => rfl⟩

/-- A function's code walked: what its call does. -/
theorem calls {P : Program} {f : Nat} {fn : Func} {c : Code} {ic : IC} {raws : List Nat} {rv : List RV} (nv : Nat) (Γ : Nat → Option Con) (hΓ : ∀ f C, Γ f = some C → Valid P f C)
  (hf : P.funcs[f]? = some fn) (hb : fn.body = some c) (hc : comp P raws c = some ic) (hr : rvs P fn.results.toList = some rv) {nt : Nat} (hnt : fn.ntmps = nt)
  (args : List SV) (hp : List SB) (hal : args.length ≤ nt) (X : Nat → Prop) (w : World) (ρ : Nat → Value) (hhp : HpSat X w w ρ hp) (hlt : ∀ v ∈ args, v.lt hp.length) (Post : SV → List SB → Prop)
  (hv : VC ⟨⟨P, nt, X, w, hp.length, ρ⟩, Γ, raws, nv, rv, Post, hΓ⟩ [.code ic] ⟨argSl 0 args, hp⟩) :
  Calls P f (args.map (SV.den ρ)).toArray w fun e w' => ∃ ρ' r hp', (∀ i < hp.length, ρ' i = ρ i) ∧ hp.length ≤ hp'.length ∧ e = .returned (r.den ρ') ∧ r.lt hp'.length ∧ Post r hp' ∧ HpSat X w w' ρ' hp' ∧ Stays X w w' := by
 refine calls_of_wp hf hb ?_
 have hs : Sat ⟨P, nt, X, w, hp.length, ρ⟩ ρ ⟨argSl 0 args, hp⟩ { tmps := (args.map (SV.den ρ)).toArray ++ Array.replicate (fn.ntmps - (args.map (SV.den ρ)).toArray.size) undef, defers := [] } w := by
  refine ⟨rfl, ?_, ?_, hhp, Stays.refl _ _, Nat.le_refl _, fun _ _ => rfl⟩
  ·simp [hnt]; omega
  ·intro i cc v hg
   obtain ⟨h1, _, h3⟩ := argSl_get hg
   simp only [Nat.sub_zero] at h3
   have hlt' : i < args.length := (List.getElem?_eq_some_iff.1 h3).1
   refine ⟨fun _ => ?_, fun hn => (hn h1).elim, fun _ => hlt v (List.mem_of_getElem? h3)⟩
   rw [Array.getElem?_append_left (by simpa using hlt')]
   simp [h3]
 refine wp_mono (hv ρ _ w hs c hc) ?_
 have fin : ∀ a w', (∃ ρ S, Sat ⟨P, nt, X, w, hp.length, ρ⟩ ρ S a w' ∧ FinOK S rv Post) → True := fun _ _ _ => trivial
 intro e a w' hq
 have main : (∃ ρ' S, Sat ⟨P, nt, X, w, hp.length, ρ⟩ ρ' S a w' ∧ FinOK S rv Post) → a.defers = [] ∧ ∃ v, (results fn a.tmps).run P w' = .ok v w' ∧ ∃ ρ' r hp', (∀ i < hp.length, ρ' i = ρ i) ∧ hp.length ≤ hp'.length ∧ Ending.returned v = .returned (r.den ρ') ∧ r.lt hp'.length ∧ Post r hp' ∧ HpSat X w w' ρ' hp' ∧ Stays X w w' := by
  rintro ⟨ρ', S, hs, hfin⟩
  unfold FinOK at hfin
  split at hfin
  ·rename_i p l hres
   obtain ⟨e1, e2⟩ := results_run hs hr hres hfin.1
   exact ⟨hs.nd, _, e1, ρ', mkRes l, S.hp, hs.ag, hs.n0, rfl, e2, hfin.2, hs.hp, hs.fr⟩
  ·exact hfin.elim
 cases e with
 | normal => exact main hq
 | ret => exact main hq
 | exit id => exact hq.elim
 | goto l => exact hq.elim
 | panic ch => exact hq.elim
 | outgrown => exact hq.elim

/-- All that the walk takes from the program of a function. -/
def chk (P : Program) (f : Nat) (raws : List Nat) : Option (IC × List RV × Nat) :=
 match P.funcs[f]? with
 | some fn => match fn.body with
  | some c => match comp P raws c, rvs P fn.results.toList with
   | some ic, some rv => some (ic, rv, fn.ntmps)
   | _, _ => none
  | none => none
 | none => none

theorem walk {P : Program} {f : Nat} {raws : List Nat} {ic : IC} {rv : List RV} {nt : Nat} (h : chk P f raws = some (ic, rv, nt)) (nv : Nat) (Γ : Nat → Option Con) (hΓ : ∀ f C, Γ f = some C → Valid P f C)
  (args : List SV) (hp : List SB) (hal : args.length ≤ nt) (X : Nat → Prop) (w : World) (ρ : Nat → Value) (hhp : HpSat X w w ρ hp) (hlt : ∀ v ∈ args, v.lt hp.length) (Post : SV → List SB → Prop)
  (hv : VC ⟨⟨P, nt, X, w, hp.length, ρ⟩, Γ, raws, nv, rv, Post, hΓ⟩ [.code ic] ⟨argSl 0 args, hp⟩) :
  Calls P f (args.map (SV.den ρ)).toArray w fun e w' => ∃ ρ' r hp', (∀ i < hp.length, ρ' i = ρ i) ∧ hp.length ≤ hp'.length ∧ e = .returned (r.den ρ') ∧ r.lt hp'.length ∧ Post r hp' ∧ HpSat X w w' ρ' hp' ∧ Stays X w w' := by
 unfold chk at h
 split at h
 ·rename_i fn hf
  split at h
  ·rename_i c hb
   split at h
   ·rename_i ic' rv' hc hr
    simp only [snJ, Prod.mk.injEq] at h
    obtain ⟨rfl, rfl, hnt⟩ := h
    exact calls nv Γ hΓ hf hb hc hr hnt args hp hal X w ρ hhp hlt Post hv
   ·cases h
  ·cases h
 ·cases h

def noX : Nat → Prop := fun _ => False
theorem HpSat.nil (X : Nat → Prop) (w : World) (ht : tabOK X w) (ρ : Nat → Value) : HpSat X w w ρ [] :=
 ⟨fun h hh => by simp at hh, fun h sb hh => by simp at hh, fun h sb hh => by simp at hh, fun h h' sb sb' b _ hh => by simp at hh, ht⟩

def valSV (v : Value) : SV := .c (.o (.val v))
/-- A function of plain values, with a plain value for its result. -/
theorem walk0 {P : Program} {f : Nat} {raws : List Nat} {ic : IC} {rv : List RV} {nt : Nat} (h : chk P f raws = some (ic, rv, nt)) (nv : Nat) (Γ : Nat → Option Con) (hΓ : ∀ f C, Γ f = some C → Valid P f C)
  (vs : List Value) (r : Value) (hal : vs.length ≤ nt) (w : World) (ht : tabOK noX w)
  (hv : VC ⟨⟨P, nt, noX, w, 0, fun _ => undef⟩, Γ, raws, nv, rv, fun x _ => x = .c (.o (.val r)), hΓ⟩ [.code ic] ⟨argSl 0 (vs.map valSV), []⟩) :
  Calls P f vs.toArray w fun e w' => e = .returned r ∧ Stays (fun _ => False) w w' := by
 have := walk h nv Γ hΓ (vs.map valSV) [] (by simpa using hal) noX w (fun _ => undef) (HpSat.nil _ _ ht _) (fun v hv => by
  simp only [List.mem_map] at hv
  obtain ⟨u, _, rfl⟩ := hv
  trivial) _ hv
 have e : (vs.map valSV).map (SV.den fun _ => undef) = vs := by
  rw [List.map_map]
  exact (List.map_congr_left fun _ _ => rfl).trans (List.map_id _)
 rw [e] at this
 refine this.mono ?_
 rintro _ w' ⟨ρ', r', hp', _, _, rfl, _, rfl, _, hf⟩
 exact ⟨rfl, hf⟩

/-- The callees' words, listed. -/
def tbl : List (Nat × Con) → Nat → Option Con
 | [], _ => none
 | (n, C) :: r, f => bif n == f then some C else tbl r f
/-! ### a callee's word -/
/-- What was known stays known behind a call that writes to nothing that was there. -/
theorem HpSat.past {X : Nat → Prop} {w0 w w' : World} {ρ : Nat → Value} {hp : List SB} (h : HpSat X w0 w ρ hp) (hf : Stays X w0 w) (hf' : Stays (fun _ => False) w w') : HpSat X w0 w' ρ hp ∧ Stays X w0 w' := by
 have hk : ∀ k, k < w.heap.size → Same w w' k := fun k hk => hf'.block k hk id
 refine ⟨⟨h.ref, fun i sb hi => SB.sat_keep (h.sat i sb hi) (fun k h1 _ => hk k (Nat.lt_of_lt_of_le h1 hf.size)) fun hx k hfp => hk k (h.fp_lt hi hx hfp).1, h.lt, h.apart, h.tab⟩, ?_⟩
 exact hf.keep hf'.os hf'.output hf'.size fun k h1 _ => hk k (Nat.lt_of_lt_of_le h1 hf.size)

/-- A word about plain values. -/
def word (f : List Value → Option (Prop × Value)) : Con := fun args _ =>
 match vals (args.filterMap fun | .c (.o x) => some x | _ => none) with
 | some vs => bif vs.length == args.length then (match f vs with
  | some (p, r) => some (p, .c (.o (.val r)), none)
  | none => none) else none
 | none => none

/-! ### several results -/
def tupSV (l : List Value) : SV := .tup (l.map fun v => .o (.val v))
theorem tupSV_den (ρ : Nat → Value) (l : List Value) : (tupSV l).den ρ = .tuple l.toArray := by
 unfold tupSV
 simp only [SV.den, List.map_map]
 congr 2
 exact (List.map_congr_left fun _ _ => rfl).trans (List.map_id _)
/-- A function of plain values, with plain values for its results. -/
theorem walkT {P : Program} {f : Nat} {raws : List Nat} {ic : IC} {rv : List RV} {nt : Nat} (h : chk P f raws = some (ic, rv, nt)) (nv : Nat) (Γ : Nat → Option Con) (hΓ : ∀ f C, Γ f = some C → Valid P f C)
  (vs rs : List Value) (hal : vs.length ≤ nt) (w : World) (ht : tabOK noX w)
  (hv : VC ⟨⟨P, nt, noX, w, 0, fun _ => undef⟩, Γ, raws, nv, rv, fun x _ => x = tupSV rs, hΓ⟩ [.code ic] ⟨argSl 0 (vs.map valSV), []⟩) :
  Calls P f vs.toArray w fun e w' => e = .returned (.tuple rs.toArray) ∧ Stays (fun _ => False) w w' := by
 have := walk h nv Γ hΓ (vs.map valSV) [] (by simpa using hal) noX w (fun _ => undef) (HpSat.nil _ _ ht _) (fun v hv => by
  simp only [List.mem_map] at hv
  obtain ⟨u, _, rfl⟩ := hv
  trivial) _ hv
 have e : (vs.map valSV).map (SV.den fun _ => undef) = vs := by
  rw [List.map_map]
  exact (List.map_congr_left fun _ _ => rfl).trans (List.map_id _)
 rw [e] at this
 refine this.mono ?_
 rintro _ w' ⟨ρ', r', hp', _, _, rfl, _, rfl, _, hf⟩
 exact ⟨by rw [tupSV_den], hf⟩
end Go.Eng
