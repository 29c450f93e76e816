/-
 A region that draws its order, walked in every order. No program.
-/
import Derived.Test.YtekkjbomadoplaaDoorEngD
namespace Go.Eng
set_option linter.unusedVariables false
set_option linter.unusedSimpArgs false

/-- One of the operations that may come up. -/
def altP (Γ : Nat → Option Con) (nv nt : Nat) (o : IOp) (S : St) (K : St → Prop) : Prop :=
 match runP Γ S True o.p with
 | .still p v => dstOk nt o.d ∧ p ∧ K (putD nv S o.d True v S.hp)
 | .quiet p v => dstOk nt o.d ∧ p ∧ K (putD nv S o.d True v S.hp)
 | .ok p v hp => bif staticB o.p then False else dstOk nt o.d ∧ p ∧ K (putD nv S o.d True v hp)
 | _ => False
def runT (Γ : Nat → Option Con) (nv nt : Nat) (hp0 : List SB) : DT → St → (St → Prop) → Prop
 | .fin, S, K => K S
 | .one o r, S, K => runDraw Γ nv nt hp0 [o] S fun S' => runT Γ nv nt hp0 r S' K
 | .wk o r, S, K => runDraw Γ nv nt (cellsH hp0) [o] S fun S' => runT Γ nv nt hp0 r S' K
 | .alt o t r, S, K => altP Γ nv nt o S (fun S' => runT Γ nv nt hp0 t S' K) ∧ runT Γ nv nt hp0 r S K
 | .stop, S, K => True

section
variable {E : Env} {Γ : Nat → Option Con} {raws : List Nat} {nv : Nat}

theorem alt_step (hΓ : ∀ f C, Γ f = some C → Valid E.P f C) {ops : Array Oper} {is0 : List IOp} (hops : opers E.P raws ops ops.toList = some is0) {Q : Exit → Act → World → Prop}
  {hp0 : List SB} {ρ0 : Nat → Value} (hlt0 : ∀ (i : Nat) (sb : SB), hp0[i]? = some sb → sb.lt hp0.length) {K : St → Prop} {k : Nat} {io : IOp} {L : Array Bool}
  (hio_k : is0[k]? = some io) (hkn : k < ops.size) (hat : altOK ops is0 L k = true) (hz : L.size = ops.size) (hcl : Closed ops L)
  (S : St) (ρ : Nat → Value) (a : Act) (w : World) (hs : Sat E ρ S a w) (hag : ∀ i < hp0.length, ρ i = ρ0 i) (hle : hp0.length ≤ S.hp.length)
  (hpre : Pre E is0 ρ0 hp0 L S.hp w) {X : Act → World → Prop}
  (hrec : Closed ops (L.setIfInBounds k true) → ∀ (S' : St) (ρ' : Nat → Value) (a' : Act) (w' : World), Sat E ρ' S' a' w' → (∀ i < hp0.length, ρ' i = ρ0 i) → hp0.length ≤ S'.hp.length →
   Pre E is0 ρ0 hp0 (L.setIfInBounds k true) S'.hp w' → K S' → X a' w')
  (hr : altP Γ nv E.nt io S K) :
  wpOp E.P ops Q k (fun a' w' => SI E is0 ρ0 hp0 (L.setIfInBounds k true) w' ∧ X a' w') a w := by
 have hkL : k < L.size := by omega
 obtain ⟨o, hok_k⟩ : ∃ o, ops[k]? = some o := ⟨_, Array.getElem?_eq_getElem hkn⟩
 have h1 : oper E.P raws ops o = some io := by
  obtain ⟨io', h3, h4⟩ := opers_at hops k o (by simpa using hok_k)
  rw [hio_k] at h3
  cases h3
  exact h4
 simp only [altOK, hio_k, Bool.and_eq_true, Bool.not_eq_true', Option.isNone_iff_eq_none, List.contains_iff_mem] at hat
 obtain ⟨⟨⟨⟨hnc0, hg⟩, hready⟩, hsub⟩, hx⟩ := hat
 have hact : actOf S io.g = some True := by rw [hg]; rfl
 obtain ⟨hw, hd⟩ := wanted_iff hs h1 hact
 obtain ⟨raw, hprim⟩ := oper_prim h1
 have hok : OpOK E ρ S a o (runP Γ S True io.p) := primB_sound (fun i hi => hs.hp.ref i hi) (fun h sb hsb => hs.hp.lt h sb hsb) hs.sl trivial hprim hΓ
 have hww := hw.2 trivial
 have hc1 : Closed ops (L.setIfInBounds k true) := hcl.set hready
 have hnc : ∀ f xs, io.p ≠ .call f xs := by
  intro f xs h
  rw [h] at hnc0
  cases hnc0
 have hsubs : brkB io.p = false → NoneL is0 subB L := by
  intro hnb j b hj hb
  rw [hnb, Bool.false_or, List.all_eq_true] at hx
  have hj' : (b, j) ∈ is0.zipIdx := by
   rw [List.mem_zipIdx_iff_getElem?]
   exact hj
  have := hx (b, j) hj'
  simp only [hb, Bool.not_true, Bool.false_or, Bool.not_eq_true'] at this
  exact this
 have hhp : ∀ (v : SV) (hp : List SB), (putD nv S io.d True v hp).hp = hp := fun v hp => by cases io.d <;> rfl
 -- what is to be shown behind it
 have next : ∀ (ρ' : Nat → Value) (w' : World) (hp' : List SB) (v : SV), dstOk E.nt io.d → (∀ i < S.hp.length, ρ' i = ρ i) → S.hp.length ≤ hp'.length → Cls E ρ' hp' w' → v.lt hp'.length → (brkB io.p = false → ∃ x, hp' = S.hp ++ x) → (cutB io.p = false → Keep S.hp hp') →
   K (putD nv S io.d True v hp') → SI E is0 ρ0 hp0 (L.setIfInBounds k true) w' ∧ X (a.put o.dst (v.den ρ')) w' := by
  intro ρ' w' hp' v hd1 hag' hlen hcls hlt hext hkeep hk
  have hgr := hpre.grow hlt0 hio_k hkL hag hle hag' hlen hcls hsubs hext hkeep
  refine ⟨hgr.si, ?_⟩
  rw [← hd]
  exact hrec hc1 _ ρ' _ w' (hs.next (nv := nv) hd1 hag' hlen hcls (fun _ => rfl) (fun h => (h trivial).elim) (fun _ => hlt)) (fun i hi => (hag' i (by omega)).trans (hag i hi))
   (by rw [hhp]; omega) (by rw [hhp]; exact hgr) hk
 unfold wpOp
 simp only [hok_k]
 rw [if_pos hww]
 refine .inl ?_
 unfold altP at hr
 split at hr
 ·rename_i p v hrp
  obtain ⟨hd1, hp, hk⟩ := hr
  rw [hrp] at hok
  have hst := hok hp
  unfold Oper.wp
  rw [hst.2 w ⟨hs.hp, hs.fr⟩ w]
  exact next ρ w S.hp v hd1 (fun _ _ => rfl) (Nat.le_refl _) ⟨hs.hp, hs.fr⟩ hst.1 (fun _ => ⟨[], by simp⟩) (fun _ => Keep.refl _) hk
 ·rename_i p v hrp
  obtain ⟨hd1, hp, hk⟩ := hr
  rw [hrp] at hok
  obtain ⟨hlt, hq⟩ := hok hp
  refine Oper.wp_of_quiet (C := Cls E ρ S.hp) (K := fun a' => a' = a.put o.dst (v.den ρ)) ⟨hs.hp, hs.fr⟩ ?_ ⟨_, hq, rfl⟩
  rintro a' w' hc rfl
  exact next ρ w' S.hp v hd1 (fun _ _ => rfl) (Nat.le_refl _) hc hlt (fun _ => ⟨[], by simp⟩) (fun _ => Keep.refl _) hk
 ·rename_i p v hp' hrp
  cases hstat : staticB io.p with
  | true => rw [hstat] at hr; exact hr.elim
  | false =>
   rw [hstat] at hr
   simp only [cond_false] at hr
   obtain ⟨hd1, hp, hk⟩ := hr
   rw [hrp] at hok
   obtain ⟨hlt, hlen, hq⟩ := hok hp
   refine hq w ⟨hs.hp, hs.fr⟩ _ Q fun ρ' w' hag' hcls => ?_
   exact next ρ' w' hp' v hd1 hag' hlen hcls hlt (fun hnb => by
    obtain ⟨x, rfl⟩ := ok_ext hrp hnb hstat hsub hnc
    exact ⟨[x], rfl⟩) (fun hct => ok_keep hrp hct hstat hnc) hk
 ·exact hr.elim

/-- A load of a cell, taken first whatever stands beside it. -/
theorem weak_step {ops : Array Oper} {is0 : List IOp} (hops : opers E.P raws ops ops.toList = some is0) (hns : Region.noSelect ops = true) {Q : Exit → Act → World → Prop} (hQ : ∀ c a w, ¬ Q (.panic c) a w)
  {hp0 : List SB} {ρ0 : Nat → Value} (hlt0 : ∀ (i : Nat) (sb : SB), hp0[i]? = some sb → sb.lt hp0.length) {K : St → Prop} {n k : Nat} {io : IOp} {L : Array Bool}
  (hio_k : is0[k]? = some io) (hkn : k < ops.size) (hat : drawWk ops is0 L k = true) (hz : L.size = ops.size) (hcl : Closed ops L)
  (S : St) (ρ : Nat → Value) (a : Act) (w : World) (hs : Sat E ρ S a w) (hag : ∀ i < hp0.length, ρ i = ρ0 i) (hle : hp0.length ≤ S.hp.length)
  (hpre : Pre E is0 ρ0 hp0 L S.hp w)
  (hrec : Closed ops (L.setIfInBounds k true) → ∀ (S' : St) (ρ' : Nat → Value) (a' : Act) (w' : World), Sat E ρ' S' a' w' → (∀ i < hp0.length, ρ' i = ρ0 i) → hp0.length ≤ S'.hp.length →
   Pre E is0 ρ0 hp0 (L.setIfInBounds k true) S'.hp w' → K S' →
   wpAnyL E.P .any ops Q (SI E is0 ρ0 hp0) n (L.setIfInBounds k true) a' w')
  (hr : runDraw Γ nv E.nt (cellsH hp0) [io] S K) :
  wpAnyL E.P .any ops Q (SI E is0 ρ0 hp0) (n + 1) L a w := by
 have hkL : k < L.size := by omega
 have hlenC : (cellsH hp0).length = hp0.length := by simp [cellsH]
 have hltC : ∀ (i : Nat) (sb : SB), (cellsH hp0)[i]? = some sb → sb.lt (cellsH hp0).length := by
  intro i sb h
  rcases cellsH_get h with rfl | ⟨t, c, rfl, h1⟩
  ·trivial
  ·rw [hlenC]; exact hlt0 i _ h1
 obtain ⟨o, hok_k⟩ : ∃ o, ops[k]? = some o := ⟨_, Array.getElem?_eq_getElem hkn⟩
 have h1 : oper E.P raws ops o = some io := by
  obtain ⟨io', h3, h4⟩ := opers_at hops k o (by simpa using hok_k)
  rw [hio_k] at h3
  cases h3
  exact h4
 simp only [drawWk, hio_k, Bool.and_eq_true, List.contains_iff_mem, List.all_eq_true] at hat
 obtain ⟨⟨⟨hlp, hready⟩, hfree⟩, hcut⟩ := hat
 have hun : L.getD k true = false := (mem_ready.1 hready).1
 obtain ⟨raw, hprim⟩ := oper_prim h1
 have hhp : ∀ (act : Prop) (v : SV), (putD nv S io.d act v S.hp).hp = S.hp := fun act v => by cases io.d <;> rfl
 cases hpr : io.p <;> rw [hpr] at hlp <;> simp only [loadP, Bool.false_eq_true] at hlp
 rename_i m y
 have hnb : brkB io.p = false := by rw [hpr]; rfl
 have hnc : cutB io.p = false := by rw [hpr]; rfl
 have hSi : ∀ (l : Array Bool) (w : World), SI E is0 ρ0 hp0 (l.setIfInBounds k true) w ↔ SI E is0 ρ0 hp0 l w := by
  intro l w
  have e1 : NoneL is0 brkB (l.setIfInBounds k true) ↔ NoneL is0 brkB l := by
   rcases Nat.lt_or_ge k l.size with hk | hk
   ·exact ⟨fun h => h.of_set hk, fun h => h.to_set hio_k hnb⟩
   ·rw [show l.setIfInBounds k true = l by simp [Array.setIfInBounds, Nat.not_lt.2 hk]]
  have e2 : NoneL is0 cutB (l.setIfInBounds k true) ↔ NoneL is0 cutB l := by
   rcases Nat.lt_or_ge k l.size with hk | hk
   ·exact ⟨fun h => h.of_set hk, fun h => h.to_set hio_k hnc⟩
   ·rw [show l.setIfInBounds k true = l by simp [Array.setIfInBounds, Nat.not_lt.2 hk]]
  unfold SI
  rw [e1, e2]
 simp only [runDraw, hpr] at hr
 split at hr
 ·rename_i act hact
  obtain ⟨hw, hd⟩ := wanted_iff hs h1 hact
  split at hr
  ·rename_i p s harg
   split at hr
   ·rename_i p' v hrp
    obtain ⟨hd1, hsl, hp, hr⟩ := hr
    rw [hpr] at hprim
    obtain ⟨t, x, hop, hcn, hx⟩ := prim_load hprim
    have hpp : p' → p ∧ ∃ q, loadR (cellsH hp0) m s = .quiet q v ∧ (act → q) := by
     cases hlr : loadR (cellsH hp0) m s with
     | no => rw [hlr] at hrp; cases hrp
     | still q u => rw [hlr] at hrp; cases hrp
     | any q u => rw [hlr] at hrp; cases hrp
     | ok q u z => rw [hlr] at hrp; cases hrp
     | quiet q u =>
      rw [hlr] at hrp
      simp only [owe, RR.quiet.injEq] at hrp
      obtain ⟨rfl, rfl⟩ := hrp
      exact fun h => ⟨h.1, q, rfl, h.2⟩
    obtain ⟨hpa, q, hlr, hq⟩ := hpp hp
    have hagC : ∀ i < (cellsH hp0).length, ρ i = ρ0 i := fun i hi => hag i (by omega)
    have hload : act → v.lt (cellsH hp0).length ∧ ∀ w, Cls E ρ0 (cellsH hp0) w → (execOp a.eval o).run E.P w = .ok (.value (v.den ρ0)) w := fun ha => by
     obtain ⟨e1, _⟩ := argE_sound hs.sl ha hx harg hpa
     have e2 : a.eval x = s.den ρ0 := by
      rw [e1]
      exact S0.den_congr (ρ := ρ0) (ρ' := ρ) hagC (S0.lt_of hsl)
     have := load_ok (E := E) (ρ := ρ0) (S := ⟨[], cellsH hp0⟩) (a := a) (o := o) hltC hcn e2 hop
     simp only [hlr] at this
     obtain ⟨h3, h4⟩ := this (hq ha)
     exact ⟨h3, fun w hw => load_run hop (h4 w hw)⟩
    have fin : ∀ u : Value, (act → u = v.den ρ) → (¬ act → u = undef) → wpAnyL E.P .any ops Q (SI E is0 ρ0 hp0) n (L.setIfInBounds k true) (a.put o.dst u) w := by
     intro u hu1 hu2
     rw [← hd]
     exact hrec (hcl.set hready) _ ρ _ w (hs.next (nv := nv) hd1 (fun _ _ => rfl) (Nat.le_refl _) ⟨hs.hp, hs.fr⟩ hu1 hu2 (fun ha => SV.lt_mono (by omega) (hload ha).1)) hag (by rw [hhp]; exact hle) (by rw [hhp]; exact hpre.stay hkL) hr
    by_cases ha : act
    ·refine wpAnyL_first (v := v.den ρ) hok_k (Region.noSelect_spec hns) (fun c a w h => (hQ _ _ _ h).elim) (fun l => Closed ops l ∧ l.getD k true = false)
      (fun l j hT hj hjk => ⟨hT.1.set hj, by rw [getD_set_ne true hjk]; exact hT.2⟩) hSi n _ a w ⟨hcl, hun⟩ (Region.free_spec hok_k hfree) hready (.inl ⟨hw.2 ha, ?_⟩) hpre.si (fin _ (fun _ => rfl) fun h => (h ha).elim)
     rintro w' ⟨l, ⟨hcl', hun'⟩, hSl⟩
     have hden : v.den ρ = v.den ρ0 := SV.den_congr hagC (hload ha).1
     rw [hden]
     exact (hload ha).2 w' (hSl.2 (NoneL.out hcl' hun' fun x hx => by have := hcut x hx; simpa using this))
    ·have hnw : Region.wanted o (yielded ops a.tmps) = false := by
      cases hh : Region.wanted o (yielded ops a.tmps) with
      | false => rfl
      | true => exact (ha (hw.1 hh)).elim
     exact wpAnyL_first (v := undef) hok_k (Region.noSelect_spec hns) (fun c a w h => (hQ _ _ _ h).elim) (fun l => Closed ops l ∧ l.getD k true = false)
      (fun l j hT hj hjk => ⟨hT.1.set hj, by rw [getD_set_ne true hjk]; exact hT.2⟩) hSi n _ a w ⟨hcl, hun⟩ (Region.free_spec hok_k hfree) hready (.inr ⟨hnw, rfl⟩) hpre.si (fin _ (fun h => (ha h).elim) fun _ => rfl)
   ·exact hr.elim
  ·exact hr.elim
 ·exact hr.elim

theorem drawT_sound (hΓ : ∀ f C, Γ f = some C → Valid E.P f C) {ops : Array Oper} {is0 : List IOp} (hops : opers E.P raws ops ops.toList = some is0) (hns : Region.noSelect ops = true) {Q : Exit → Act → World → Prop} (hQ : ∀ c a w, ¬ Q (.panic c) a w) {K : St → Prop}
  {hp0 : List SB} {ρ0 : Nat → Value} (hlt0 : ∀ (i : Nat) (sb : SB), hp0[i]? = some sb → sb.lt hp0.length)
  (hK : ∀ S' ρ' a' w', Sat E ρ' S' a' w' → K S' → Q .normal a' w') :
  ∀ (t : KT) (dt : DT) (m : Bool) (L : Array Bool), pickT is0 t = some dt → L.size = ops.size → drawT ops is0 t m L = true → Closed ops L →
   ∀ (S : St) (ρ : Nat → Value) (a : Act) (w : World), Sat E ρ S a w → (∀ i < hp0.length, ρ i = ρ0 i) → hp0.length ≤ S.hp.length → Pre E is0 ρ0 hp0 L S.hp w →
   runT Γ nv E.nt hp0 dt S K →
   if m then ∀ j ∈ t.ks, wpOp E.P ops Q j (fun a' w' => SI E is0 ρ0 hp0 (L.setIfInBounds j true) w' ∧ wpAnyL E.P .any ops Q (SI E is0 ρ0 hp0) (left (L.setIfInBounds j true)) (L.setIfInBounds j true) a' w') a w
   else wpAnyL E.P .any ops Q (SI E is0 ρ0 hp0) (left L) L a w
 | .fin, dt, m, L, hpk, hz, hall, hcl, S, ρ, a, w, hs, hag, hle, hpre, hr => by
  simp only [drawT, Bool.and_eq_true, Bool.not_eq_true'] at hall
  simp only [pickT, snJ] at hpk
  subst hpk
  obtain ⟨rfl, hall⟩ := hall
  have he := draw_end hz hall
  simp only [Bool.false_eq_true, if_false]
  cases left L with
  | zero => exact ⟨he, hK S ρ a w hs hr⟩
  | succ n => exact ⟨fun _ => hK S ρ a w hs hr, fun j hj => by rw [he] at hj; cases hj⟩
 | .one k r, dt, m, L, hpk, hz, hall, hcl, S, ρ, a, w, hs, hag, hle, hpre, hr => by
  simp only [drawT, Bool.and_eq_true, Bool.not_eq_true', decide_eq_true_eq] at hall
  obtain ⟨⟨⟨rfl, hkn⟩, hat⟩, hall⟩ := hall
  simp only [pickT] at hpk
  split at hpk
  ·rename_i io dr hio_k hpr
   simp only [snJ] at hpk
   subst hpk
   simp only [Bool.false_eq_true, if_false]
   have hkL : k < L.size := by omega
   have hun : L.getD k false = false := by
    have h := drawAt_ready hat
    have := ready_un h
    simp only [Array.getD_eq_getD_getElem?, Array.getElem?_eq_getElem hkL, Option.getD_some] at this ⊢
    exact this
   rw [← left_set hkL hun]
   refine draw_step (nv := nv) hΓ hops hns hQ hlt0 hio_k hkn hat hz hcl S ρ a w hs hag hle hpre (fun hc S' ρ' a' w' hs' hag' hle' hpre' hr' => ?_) hr
   have := drawT_sound hΓ hops hns hQ hlt0 hK r dr false _ hpr (by simpa using hz) hall hc S' ρ' a' w' hs' hag' hle' hpre' hr'
   simpa only [Bool.false_eq_true, if_false] using this
  ·cases hpk
 | .wk k r, dt, m, L, hpk, hz, hall, hcl, S, ρ, a, w, hs, hag, hle, hpre, hr => by
  simp only [drawT, Bool.and_eq_true, Bool.not_eq_true', decide_eq_true_eq] at hall
  obtain ⟨⟨⟨rfl, hkn⟩, hat⟩, hall⟩ := hall
  simp only [pickT] at hpk
  split at hpk
  ·rename_i io dr hio_k hpr
   simp only [snJ] at hpk
   subst hpk
   simp only [Bool.false_eq_true, if_false]
   have hkL : k < L.size := by omega
   have hun : L.getD k false = false := by
    have hat' := hat
    simp only [drawWk, hio_k, Bool.and_eq_true, List.contains_iff_mem] at hat'
    have := ready_un hat'.1.1.2
    simp only [Array.getD_eq_getD_getElem?, Array.getElem?_eq_getElem hkL, Option.getD_some] at this ⊢
    exact this
   rw [← left_set hkL hun]
   refine weak_step (nv := nv) (Γ := Γ) hops hns hQ hlt0 hio_k hkn hat hz hcl S ρ a w hs hag hle hpre (fun hc S' ρ' a' w' hs' hag' hle' hpre' hr' => ?_) hr
   have := drawT_sound hΓ hops hns hQ hlt0 hK r dr false _ hpr (by simpa using hz) hall hc S' ρ' a' w' hs' hag' hle' hpre' hr'
   simpa only [Bool.false_eq_true, if_false] using this
  ·cases hpk
 | .alt k t r, dt, m, L, hpk, hz, hall, hcl, S, ρ, a, w, hs, hag, hle, hpre, hr => by
  simp only [drawT, Bool.and_eq_true, Bool.or_eq_true, decide_eq_true_eq, List.all_eq_true, List.contains_iff_mem] at hall
  obtain ⟨⟨⟨⟨hcov, hkn⟩, hat⟩, hallt⟩, hallr⟩ := hall
  simp only [pickT] at hpk
  split at hpk
  ·rename_i io dt' dr hio_k hpt hpr
   simp only [snJ] at hpk
   subst hpk
   obtain ⟨hr1, hr2⟩ := hr
   have hkL : k < L.size := by omega
   have hready : k ∈ Region.ready .any ops L := by
    simp only [altOK, hio_k, Bool.and_eq_true, List.contains_iff_mem] at hat
    exact hat.1.1.2
   have hun : L.getD k false = false := by
    have := ready_un hready
    simp only [Array.getD_eq_getD_getElem?, Array.getElem?_eq_getElem hkL, Option.getD_some] at this ⊢
    exact this
   have all : ∀ j ∈ (KT.alt k t r).ks, wpOp E.P ops Q j (fun a' w' => SI E is0 ρ0 hp0 (L.setIfInBounds j true) w' ∧ wpAnyL E.P .any ops Q (SI E is0 ρ0 hp0) (left (L.setIfInBounds j true)) (L.setIfInBounds j true) a' w') a w := by
    intro j hj
    rcases List.mem_cons.1 hj with rfl | hj
    ·refine alt_step (nv := nv) hΓ hops hlt0 hio_k hkn hat hz hcl S ρ a w hs hag hle hpre (fun hc S' ρ' a' w' hs' hag' hle' hpre' hr' => ?_) hr1
     have := drawT_sound hΓ hops hns hQ hlt0 hK t dt' false _ hpt (by simpa using hz) hallt hc S' ρ' a' w' hs' hag' hle' hpre' hr'
     simpa only [Bool.false_eq_true, if_false] using this
    ·have := drawT_sound hΓ hops hns hQ hlt0 hK r dr true L hpr hz hallr hcl S ρ a w hs hag hle hpre hr2
     simp only [if_true] at this
     exact this j hj
   cases m with
   | true => simpa only [if_true] using all
   | false =>
    simp only [Bool.false_eq_true, if_false]
    rw [← left_set hkL hun]
    refine ⟨fun h0 => (by rw [h0] at hready; cases hready), fun j hj => ?_⟩
    have h := all j ((hcov.resolve_left (by simp)) j hj)
    have hjL : j < L.size := by
     have := (mem_ready.1 hj).2
     obtain ⟨oj, hoj, _⟩ := this
     have := (Array.getElem?_eq_some_iff.1 hoj).1
     omega
    have hunj : L.getD j false = false := by
     have := ready_un hj
     simp only [Array.getD_eq_getD_getElem?, Array.getElem?_eq_getElem hjL, Option.getD_some] at this ⊢
     exact this
    have e1 := left_set hkL hun
    have e2 := left_set hjL hunj
    have e3 : left (L.setIfInBounds k true) = left (L.setIfInBounds j true) := by omega
    rw [e3]
    exact h
  ·cases hpk
 | .stop, dt, m, L, hpk, hz, hall, hcl, S, ρ, a, w, hs, hag, hle, hpre, hr => by
  simp only [drawT] at hall
  subst hall
  simp only [if_true]
  intro j hj
  cases hj
end
end Go.Eng
