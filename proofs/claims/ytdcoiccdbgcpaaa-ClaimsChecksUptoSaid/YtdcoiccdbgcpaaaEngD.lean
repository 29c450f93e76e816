/-
  A region that draws its order, walked in the order of the text. No program.
-/
import Derived.Test.YtdcoiccdbgcpaaaEngV
import Derived.OrdersHeld
namespace Go.Eng
set_option linter.unusedVariables false
set_option linter.unusedSimpArgs false

section
variable {P : Program} {ops : Array Oper} {Q : Exit → Act → World → Prop} {md : Region.Mode} {S : Array Bool → World → Prop}

/-- Whatever order is picked from here on; S, of what has come up so far, holds behind every operation. -/
def wpAnyL (P : Program) (md : Region.Mode) (ops : Array Oper) (Q : Exit → Act → World → Prop) (S : Array Bool → World → Prop) : Nat → Array Bool → Act → World → Prop
  | 0, listed, a, w => Region.ready md ops listed = [] ∧ Q .normal a w
  | fuel + 1, listed, a, w =>
    (Region.ready md ops listed = [] → Q .normal a w) ∧
    ∀ i ∈ Region.ready md ops listed, wpOp P ops Q i (fun a' w' => S (listed.setIfInBounds i true) w' ∧ wpAnyL P md ops Q S fuel (listed.setIfInBounds i true) a' w') a w
theorem wpAny_of_L : ∀ (fuel : Nat) (listed : Array Bool) (a : Act) (w : World), wpAnyL P md ops Q S fuel listed a w → wpAny P md ops Q fuel listed a w
  | 0, _, _, _, h => h
  | fuel + 1, _, _, _, h => ⟨h.1, fun i hi => wpOp_mono (fun a' w' h' => wpAny_of_L fuel _ a' w' h'.2) (h.2 i hi)⟩

theorem wpAnyL_first {i : Nat} {oi : Oper} {v : Value} (hi : ops[i]? = some oi) (hsel : ∀ (j : Nat) (o : Oper) cs b, ops[j]? = some o → o.op ≠ .select cs b)
    (hQ : ∀ c a w, Q (.panic c) (a.put oi.dst v) w → Q (.panic c) a w) (T : Array Bool → Prop)
    (hT : ∀ l j, T l → j ∈ Region.ready md ops l → j ≠ i → T (l.setIfInBounds j true)) (hS : ∀ l w, S (l.setIfInBounds i true) w ↔ S l w) :
    ∀ (fuel : Nat) (listed : Array Bool) (a : Act) (w : World), T listed →
      (∀ j oj, ops[j]? = some oj → j ≠ i → listed.getD j true = false → (∀ e ∈ oj.after, Region.binds md e = true → e.on ≠ i) → oi.apart ops oj = true) →
      i ∈ Region.ready md ops listed → YieldsIf P ops (fun w => ∃ l, T l ∧ S l w) oi v a → S listed w →
      wpAnyL P md ops Q S fuel (listed.setIfInBounds i true) (a.put oi.dst v) w → wpAnyL P md ops Q S (fuel + 1) listed a w := by
  intro fuel
  induction fuel with
  | zero =>
    intro listed a w hTl _ hr hy hSw H
    refine ⟨fun h => (by rw [h] at hr; cases hr), fun j hj => ?_⟩
    by_cases hji : j = i
    · subst hji; exact hy.wpOp hi ⟨listed, hTl, hSw⟩ ⟨(hS _ _).2 hSw, H⟩
    · have := ready_mono hj hji
      rw [H.1] at this
      cases this
  | succ fuel ih =>
    intro listed a w hTl hfree hr hy hSw H
    refine ⟨fun h => (by rw [h] at hr; cases hr), fun j hj => ?_⟩
    by_cases hji : j = i
    · subst hji; exact hy.wpOp hi ⟨listed, hTl, hSw⟩ ⟨(hS _ _).2 hSw, H⟩
    · have h1 := H.2 j (ready_mono hj hji)
      obtain ⟨hjun, oj, hoj, hall⟩ := mem_ready.1 hj
      have hnot : ∀ e ∈ oj.after, Region.binds md e = true → e.on ≠ i := fun e he hb heq => by
        have h1 := hall e he hb
        have h0 := (mem_ready.1 hr).1
        rw [heq] at h1
        rcases Nat.lt_or_ge i listed.size with h' | h'
        · simp [h'] at h0 h1; rw [h0] at h1; cases h1
        · simp [Array.getElem?_eq_none h'] at h1
      have h2 := wpOp_putIf hoj (hfree j oj hoj hji hjun hnot) (fun cs b => hsel i oi cs b hi) (fun cs b => hsel j oj cs b hoj) hQ hy h1
      have hfree' : ∀ k ok, ops[k]? = some ok → k ≠ i → (listed.setIfInBounds j true).getD k true = false →
          (∀ e ∈ ok.after, Region.binds md e = true → e.on ≠ i) → oi.apart ops ok = true := fun k ok hk hki hun hno => by
        refine hfree k ok hk hki ?_ hno
        by_cases hjk : j = k
        · subst hjk; exact hjun
        · rw [getD_set_ne true hjk] at hun; exact hun
      refine wpOp_mono (fun a' w' h3 => ?_) h2
      obtain ⟨hy', hS', hW⟩ := h3
      rw [Array.setIfInBounds_comm _ _ (Ne.symm hji)] at hS'
      have hSj := (hS _ _).1 hS'
      refine ⟨hSj, ih (listed.setIfInBounds j true) a' w' (hT _ _ hTl hj hji) hfree' (ready_mono hr (Ne.symm hji)) hy' hSj ?_⟩
      rw [Array.setIfInBounds_comm _ _ hji]
      exact hW

def Closed (ops : Array Oper) (l : Array Bool) : Prop := ∀ (j : Nat) (o : Oper), l.getD j false = true → ops[j]? = some o → ∀ e ∈ o.after, Region.binds .any e = true → l.getD e.on false = true
theorem Closed.set {l : Array Bool} {j : Nat} (h : Closed ops l) (hj : j ∈ Region.ready .any ops l) : Closed ops (l.setIfInBounds j true) := by
  obtain ⟨_, oj, hoj, hall⟩ := mem_ready.1 hj
  intro k o hk ho e he hb
  by_cases hjk : j = k
  · subst hjk
    rw [hoj] at ho
    cases ho
    exact getD_set_true (hall e he hb)
  · rw [getD_set_ne false hjk] at hk
    exact getD_set_true (h k o hk ho e he hb)
theorem Closed.anc {l : Array Bool} (h : Closed ops l) : ∀ (f b i : Nat), l.getD b false = true → Eng.anc ops f b i = true → l.getD i false = true
  | 0, b, i, _, h2 => by simp [Eng.anc] at h2
  | f + 1, b, i, hb, h2 => by
    simp only [Eng.anc] at h2
    split at h2
    · rename_i o ho
      obtain ⟨e, he, hh⟩ := List.any_eq_true.1 h2
      simp only [Bool.and_eq_true, Bool.or_eq_true, beq_iff_eq] at hh
      have hl := h b o hb ho e (by simpa using he) hh.1
      rcases hh.2 with rfl | hh
      · exact hl
      · exact Closed.anc h f e.on i hl hh
    · cases h2

/-- How many have not come up. -/
def left (L : Array Bool) : Nat := L.toList.countP fun b => !b
theorem left_set {L : Array Bool} {k : Nat} (h : k < L.size) (hk : L.getD k false = false) : left (L.setIfInBounds k true) + 1 = left L := by
  unfold left
  have hk' : L.toList[k]'(by simpa using h) = false := by simpa [Array.getD_eq_getD_getElem?, h] using hk
  rw [Array.toList_setIfInBounds, List.countP_set (by simpa using h)]
  simp only [hk', Bool.not_false, if_true, Bool.not_true, Bool.false_eq_true, if_false, Nat.add_zero]
  have : 0 < L.toList.countP fun b => !b := List.countP_pos_iff.2 ⟨false, by rw [← hk']; exact List.getElem_mem _, rfl⟩
  omega
end

/-- A drawn region's operations, in the order of the text: loads from what was there at the start; calls that leave the heap. -/
def runDraw (Γ : Nat → Option Con) (nv nt : Nat) (hp0 : List SB) : List IOp → St → (St → Prop) → Prop
  | [], S, K => K S
  | o :: r, S, K => match actOf S o.g with
    | some act => match o.p with
      | .load n a => match argE S act a with
        | some (p, .c (.o s)) => match owe p act (loadR hp0 n s) with
          | .quiet p v => dstOk nt o.d ∧ s.ltB hp0.length = true ∧ p ∧ runDraw Γ nv nt hp0 r (putD nv S o.d act v S.hp) K
          | _ => False
        | _ => False
      | .call f xs => match runP Γ S act (.call f xs) with
        | .quiet p v => dstOk nt o.d ∧ p ∧ runDraw Γ nv nt hp0 r (putD nv S o.d act v S.hp) K
        | .ok p v hp => (∃ rest, hp = S.hp ++ rest) ∧ dstOk nt o.d ∧ act ∧ p ∧ runDraw Γ nv nt hp0 r (putD nv S o.d act v hp) K
        | _ => False
      | .ext .mget xs => match argsE S act xs with
        | some (p, [.c (.o s), .c (.o (.val (.string t)))]) => match mapOfQ hp0 s with
          | some (ps, m) => dstOk nt o.d ∧ s.ltB hp0.length = true ∧ (p ∧ (act → AllP ps)) ∧ runDraw Γ nv nt hp0 r (putD nv S o.d act (.c (.o (.val (.int .i64 (mget m t))))) S.hp) K
          | none => False
        | _ => False
      | pr => match runP Γ S act pr with
        | .still p v => dstOk nt o.d ∧ p ∧ runDraw Γ nv nt hp0 r (putD nv S o.d act v S.hp) K
        | .ok p v hp => bif staticB pr then False else dstOk nt o.d ∧ act ∧ p ∧ runDraw Γ nv nt hp0 r (putD nv S o.d act v hp) K
        | _ => False
    | none => False

theorem ok_ext {Γ : Nat → Option Con} {S : St} {act : Prop} {pr : Pr} {p : Prop} {v : SV} {hp : List SB} (h : runP Γ S act pr = .ok p v hp) (hb : brkB pr = false) (hs : staticB pr = false) (hsub : subB pr = false) (hc : ∀ f xs, pr ≠ .call f xs) : ∃ x, hp = S.hp ++ [x] := by
  cases pr <;> simp only [staticB, brkB, reduceCtorEq] at hs hb
  case alloc => simp only [runP, RR.ok.injEq] at h; exact ⟨_, h.2.2.symm⟩
  case box =>
    simp only [runP] at h
    split at h
    · split at h
      · simp only [RR.ok.injEq] at h; exact ⟨_, h.2.2.symm⟩
      · cases h
    · cases h
  case bslice e sz n z ps =>
    simp only [runP] at h
    split at h
    · rename_i t _
      cases hb : (sz == t.sz) with
      | false => rw [hb] at h; cases h
      | true =>
        rw [hb] at h
        simp only [cond_true] at h
        split at h
        · split at h
          · split at h
            · simp only [RR.ok.injEq] at h; exact ⟨_, h.2.2.symm⟩
            · cases h
          · cases h
        · cases h
    · rename_i hz
      exfalso
      unfold etOf at hz
      unfold flatZ at hb
      split at hb
      all_goals first | (simp at hb; done) | (simp at hz; done)
  case call f xs => exact absurd rfl (hc f xs)
  case ext x xs => rw [hs] at hb; cases hb
  case sub sz x lo hi =>
    cases sz <;> simp [staticB, subB] at hs hsub

theorem sub_never {Γ : Nat → Option Con} {S : St} {act : Prop} {pr : Pr} {p : Prop} {v : SV} (h : runP Γ S act pr = .still p v) : subB pr = false := by
  cases pr <;> try rfl
  rename_i sz x lo hi
  cases sz with
  | none => rfl
  | some sz =>
    exfalso
    simp only [runP] at h
    (repeat' split at h) <;> try cases h
    rename_i s n _ _ _ _ _ _ _
    rename_i hn _ _ _ _ _ _
    all_goals
      rcases subR_ok (hp := S.hp) (sz := sz) (x := _) (lo := _) (hi := _) with ⟨q, u, hp', he⟩ | he <;> rw [he] at h <;> cases h
theorem HpSat.init {X : Nat → Prop} {w0 w : World} {ρ ρ0 : Nat → Value} {hp0 rest : List SB} (h : HpSat X w0 w ρ (hp0 ++ rest)) (hlt : ∀ (i : Nat) (sb : SB), hp0[i]? = some sb → sb.lt hp0.length) (hag : ∀ i < hp0.length, ρ i = ρ0 i) : HpSat X w0 w ρ0 hp0 := by
  have get : ∀ (i : Nat) (sb : SB), hp0[i]? = some sb → i < hp0.length ∧ (hp0 ++ rest)[i]? = some sb := fun i sb hi => by
    have hl := (List.getElem?_eq_some_iff.1 hi).1
    exact ⟨hl, by rw [List.getElem?_append_left hl]; exact hi⟩
  refine ⟨fun i hi => by rw [← hag i hi]; exact h.ref i (by simp; omega), fun i sb hi => ?_, hlt, fun i j sb1 sb2 b hij hi hj e1 e2 f1 f2 => ?_, h.tab⟩
  · obtain ⟨hl, hi'⟩ := get i sb hi
    rw [← hag i hl]
    exact SB.sat_ren (h.sat i sb hi') (hlt i sb hi) fun k hk => (hag k hk).symm
  · obtain ⟨hl, hi'⟩ := get i sb1 hi
    obtain ⟨hl2, hj'⟩ := get j sb2 hj
    rw [← hag i hl] at f1
    rw [← hag j hl2] at f2
    exact h.apart i j sb1 sb2 b hij hi' hj' e1 e2 f1 f2

section
variable {E : Env} {Γ : Nat → Option Con} {raws : List Nat} {nv : Nat}

theorem load_run {P : Program} {o : Oper} {a : Act} {C : World → Prop} {w : World} {v : Value} {t : Nat} {x : Operand} (ho : o.op = .load t x) (h : o.quietAt P a C w v) : (execOp a.eval o).run P w = .ok (.value v) w := by
  have hr : (execOp a.eval o).run P w = ((Instr.loadAt t (a.eval x)).run P w).andThen fun v w' => .ok (.value v) w' := by
    unfold execOp
    simp [ho]
  unfold Oper.quietAt at h
  rw [hr] at h ⊢
  cases hh : (Instr.loadAt t (a.eval x)).run P w with
  | ok u w' =>
    rw [hh] at h
    simp only [Result.andThen_ok, Oper.quietUpon] at h ⊢
    rw [h.1, h.2]
  | halt e w' =>
    rw [hh] at h
    exact h.elim

theorem static_brk {pr : Pr} (h : staticB pr = true) : brkB pr = false := by
  cases pr <;> simp only [staticB, brkB, reduceCtorEq] at h ⊢
  case ext x xs => rw [h]; rfl

theorem prim_load {P : Program} {raw : Bool} {o : Op} {n : Option Nat} {y : Arg} (hB : .load n y = primB P raw o) : ∃ t x, o = .load t x ∧ cellsN P t = some n ∧ arg x = some y := by
  have h : prim P raw o = some (.load n y) := by
    unfold primB at hB
    split at hB
    · rename_i p hp
      subst hB
      unfold floP at hp
      (repeat' split at hp) <;> first | cases hp | (rename_i hb; cases hb2 : arithB _ <;> rw [hb2] at hp <;> cases hp)
    · split at hB
      · rename_i p hp
        rw [hp, hB]
      · cases hB
  cases o <;> simp only [prim, reduceCtorEq] at h
  case load t x =>
    split at h
    · rename_i n' y' h1 h2
      cases h
      exact ⟨t, x, rfl, h1, h2⟩
    · cases h
  all_goals (repeat' split at h) <;> first | (cases h; done) | simp [Option.map_eq_some_iff, callPr] at h
  all_goals (repeat' split at h) <;> first | (cases h; done) | simp [Option.map_eq_some_iff] at h


theorem prim_mget {P : Program} {raw : Bool} {o : Op} {ys : List Arg} (hB : .ext .mget ys = primB P raw o) : ∃ t x i y1 y2, o = .lookup t x i false ∧ nameMap P t = true ∧ arg x = some y1 ∧ arg i = some y2 ∧ ys = [y1, y2] := by
  have h : prim P raw o = some (.ext .mget ys) := by
    unfold primB at hB
    split at hB
    · rename_i p hp
      subst hB
      unfold floP at hp
      (repeat' split at hp) <;> first | cases hp | (rename_i hb; cases hb2 : arithB _ <;> rw [hb2] at hp <;> cases hp)
    · split at hB
      · rename_i p hp
        rw [hp, hB]
      · cases hB
  cases o <;> simp only [prim, reduceCtorEq] at h
  case lookup t x i ok =>
    split at h
    · rename_i y1 y2 h1 h2
      split at h
      · rename_i hn
        cases h
        exact ⟨t, x, i, y1, y2, rfl, hn, h1, h2, rfl⟩
      · cases h
    · cases h
  case call c =>
    unfold callPr externExt at h
    (repeat' split at h) <;> first | (cases h; done) | (simp [Option.map_eq_some_iff] at h; done) | skip
    all_goals (rename_i hx _; (repeat' split at hx) <;> cases hx <;> cases h)
  all_goals (repeat' split at h) <;> first | (cases h; done) | simp [Option.map_eq_some_iff, callPr] at h
  all_goals (repeat' split at h) <;> first | (cases h; done) | simp [Option.map_eq_some_iff] at h

theorem ready_un {ops : Array Oper} {L : Array Bool} {k : Nat} (h : k ∈ Region.ready .any ops L) : L.getD k true = false := (mem_ready.1 h).1
theorem drawAt_ready {ops : Array Oper} {is : List IOp} {L : Array Bool} {k : Nat} (h : drawAt ops is L k = true) : k ∈ Region.ready .any ops L := by
  unfold drawAt at h
  split at h
  · split at h
    · simp only [Bool.and_eq_true, List.contains_iff_mem] at h
      exact h.1.1
    · rw [Bool.and_eq_true] at h
      have : Region.ready .any ops L = [k] := by simpa using h.1
      rw [this]; simp
  · cases h
theorem drawAll_left {ops : Array Oper} {is : List IOp} : ∀ (d : List Nat) (L : Array Bool), L.size = ops.size → drawAll ops is L d = true → d.length = left L
  | [], L, hz, h => by
    simp only [drawAll, List.all_eq_true, List.mem_range] at h
    symm
    unfold left
    rw [List.length_nil, List.countP_eq_zero]
    intro b hb
    obtain ⟨i, hi, rfl⟩ := List.getElem_of_mem hb
    have hi' : i < L.size := by simpa using hi
    have := h i (by omega)
    simp only [Array.getD_eq_getD_getElem?, Array.getElem?_eq_getElem hi', Option.getD_some] at this
    simpa using this
  | k :: d, L, hz, h => by
    simp only [drawAll, Bool.and_eq_true, decide_eq_true_eq] at h
    have hun := ready_un (drawAt_ready h.1.2)
    have hk : k < L.size := by omega
    have hun' : L.getD k false = false := by
      simp only [Array.getD_eq_getD_getElem?, Array.getElem?_eq_getElem hk, Option.getD_some] at hun ⊢
      exact hun
    rw [List.length_cons, drawAll_left d (L.setIfInBounds k true) (by simpa using hz) h.2, left_set hk hun']
theorem drawAll_len {ops : Array Oper} {is : List IOp} (d : List Nat) (L : Array Bool) (hL : L = Array.replicate ops.size false) (h : drawAll ops is L d = true) : d.length = ops.size := by
  rw [drawAll_left d L (by rw [hL]; simp) h, hL]
  simp [left, List.countP_replicate]

theorem opers_at {P : Program} {ops : Array Oper} : ∀ {l : List Oper} {is : List IOp}, opers P raws ops l = some is → ∀ (k : Nat) (o : Oper), l[k]? = some o → ∃ io, is[k]? = some io ∧ oper P raws ops o = some io
  | [], is, h, k, o, hk => by simp at hk
  | x :: r, is, h, k, o, hk => by
    simp only [opers] at h
    split at h
    · rename_i y s h1 h2
      simp only [Option.some.injEq] at h
      subst h
      cases k with
      | zero => cases hk; exact ⟨y, rfl, h1⟩
      | succ k => exact opers_at h2 k o (by simpa using hk)
    · cases h

theorem sub_opPure {ρ : Nat → Value} {S : St} {a : Act} {o : Oper} {act : Prop} {raw : Bool} {pr : Pr} {p : Prop} {v : SV} {hp' : List SB} (hs : SlSat ρ S a) (ha : act) (hB : pr = primB E.P raw o.op) (hrp : runP Γ S act pr = .ok p v hp') (hsub : subB pr = true) (hp : p) :
    v.lt hp'.length ∧ S.hp.length ≤ hp'.length ∧ ∀ w, Cls E ρ S.hp w → ∃ ρ', (∀ i < S.hp.length, ρ' i = ρ i) ∧ Cls E ρ' hp' w ∧ ∀ w', (execOp a.eval o).run E.P w' = .ok (.value (v.den ρ')) w' := by
  have h : prim E.P raw o.op = some pr := by
    subst hB
    unfold primB at hsub ⊢
    split at hsub
    · rename_i p hp
      exfalso
      unfold floP at hp
      (repeat' split at hp) <;> first | (cases hp; done) | (rename_i hb; cases hb2 : arithB _ <;> rw [hb2] at hp <;> first | (cases hp; done) | (cases hp; cases hsub)) | (cases hp; cases hsub)
    · split at hsub
      · rename_i p hp
        rw [hp]
      · cases hsub
  cases ho : o.op <;> rw [ho] at h <;> simp only [prim, reduceCtorEq] at h
  case slice t x lo hi mx =>
    split at h
    · cases h
      cases hsub
    · rename_i e x' lo' hi' h1 h2 h3 h4
      split at h
      · rename_i ti h0
        cases h
        simp only [runP] at hrp
        split at hrp
        · rename_i p s h5
          split at hrp
          · rename_i n hn
            split at hrp
            · rename_i q l r hh h6 h7
              have := sub_pure (E := E) (o := o) hs ha h1 h0 (fun hp => (argE_sound hs ha h2 h5 hp).1) hn (loB_spec h3) h4 h6 h7 ho
              rw [hrp] at this
              exact this hp
            · cases hrp
          · cases hrp
        · cases hrp
      · cases h
    · cases h
  case call c =>
    exfalso
    unfold callPr at h
    revert h
    (repeat' split) <;> intro h <;> first | (cases h; done) | (cases h; cases hsub; done) | (simp only [Option.map_eq_some_iff] at h; obtain ⟨_, _, rfl⟩ := h; cases hsub; done) | skip
  all_goals
    exfalso
    revert h
    (repeat' split) <;> intro h <;> first | (cases h; done) | (cases h; cases hsub; done) | (simp only [Option.map_eq_some_iff] at h; obtain ⟨_, _, rfl⟩ := h; cases hsub; done) | skip
/-- What is known while a region goes on: the world of its start, until something breaks it. -/
def Pre (E : Env) (is0 : List IOp) (ρ0 : Nat → Value) (hp0 : List SB) (L : Array Bool) (S : St) (w : World) : Prop :=
  (∀ j b, is0[j]? = some b → brkB b.p = true → L.getD j false = false) → Cls E ρ0 hp0 w ∧ ((∀ j b, is0[j]? = some b → subB b.p = true → L.getD j false = false) → ∃ rest, S.hp = hp0 ++ rest)
/-- What holds behind every operation, whatever order is picked. -/
def SI (E : Env) (is0 : List IOp) (ρ0 : Nat → Value) (hp0 : List SB) (l : Array Bool) (w : World) : Prop :=
  (∀ j b, is0[j]? = some b → brkB b.p = true → l.getD j false = false) → Cls E ρ0 hp0 w
set_option maxHeartbeats 1600000 in
theorem draw_step (hΓ : ∀ f C, Γ f = some C → Valid E.P f C) {ops : Array Oper} {is0 : List IOp} (hops : opers E.P raws ops ops.toList = some is0) (hns : Region.noSelect ops = true) {Q : Exit → Act → World → Prop} (hQ : ∀ c a w, ¬ Q (.panic c) a w)
    {hp0 : List SB} {ρ0 : Nat → Value} (hlt0 : ∀ (i : Nat) (sb : SB), hp0[i]? = some sb → sb.lt hp0.length) {K : St → Prop} {n k : Nat} {io : IOp} {L : Array Bool}
    (hio_k : is0[k]? = some io) (hkn : k < ops.size) (hat : drawAt ops is0 L k = true) (hz : L.size = ops.size) (hcl : Closed ops L)
    (S : St) (ρ : Nat → Value) (a : Act) (w : World) (hs : Sat E ρ S a w) (hag : ∀ i < hp0.length, ρ i = ρ0 i) (hle : hp0.length ≤ S.hp.length)
    (hpre : Pre E is0 ρ0 hp0 L S w)
    (hrec : Closed ops (L.setIfInBounds k true) → ∀ (S' : St) (ρ' : Nat → Value) (a' : Act) (w' : World), Sat E ρ' S' a' w' → (∀ i < hp0.length, ρ' i = ρ0 i) → hp0.length ≤ S'.hp.length →
      Pre E is0 ρ0 hp0 (L.setIfInBounds k true) S' w' → K S' →
      wpAnyL E.P .any ops Q (SI E is0 ρ0 hp0) n (L.setIfInBounds k true) a' w')
    (hr : runDraw Γ nv E.nt hp0 [io] S K) :
    wpAnyL E.P .any ops Q (SI E is0 ρ0 hp0) (n + 1) L a w := by
      unfold SI at hrec ⊢
      unfold Pre at hpre hrec
      have hkL : k < L.size := by omega
      obtain ⟨o, hok_k⟩ : ∃ o, ops[k]? = some o := ⟨_, Array.getElem?_eq_getElem hkn⟩
      have h1 : oper E.P raws ops o = some io := by
        obtain ⟨io', h3, h4⟩ := opers_at hops k o (by simpa using hok_k)
        rw [hio_k] at h3
        cases h3
        exact h4
      simp only [drawAt, hio_k] at hat
      simp only [runDraw] at hr
      split at hr
      · rename_i act hact
        obtain ⟨hw, hd⟩ := wanted_iff hs h1 hact
        obtain ⟨raw, hprim⟩ := oper_prim h1
        have hok' : act → OpOK E ρ S a o (runP Γ S act io.p) := fun ha => primB_sound (fun i hi => hs.hp.ref i hi) (fun h sb hsb => hs.hp.lt h sb hsb) hs.sl ha hprim hΓ
        have hnb_of : staticB io.p = true → brkB io.p = false := static_brk
        have hSi : brkB io.p = false → ∀ (l : Array Bool) (w : World), ((∀ j b, is0[j]? = some b → brkB b.p = true → (l.setIfInBounds k true).getD j false = false) → Cls E ρ0 hp0 w) ↔ ((∀ j b, is0[j]? = some b → brkB b.p = true → l.getD j false = false) → Cls E ρ0 hp0 w) := by
          intro hnb l w
          have key : (∀ j b, is0[j]? = some b → brkB b.p = true → (l.setIfInBounds k true).getD j false = false) ↔ (∀ j b, is0[j]? = some b → brkB b.p = true → l.getD j false = false) := by
            constructor <;> intro h j b hj hb
            · have := h j b hj hb
              have hne : k ≠ j := by
                rintro rfl
                rw [hio_k] at hj
                cases hj
                rw [hnb] at hb
                cases hb
              rwa [getD_set_ne false hne] at this
            · have := h j b hj hb
              have hne : k ≠ j := by
                rintro rfl
                rw [hio_k] at hj
                cases hj
                rw [hnb] at hb
                cases hb
              rwa [getD_set_ne false hne]
          rw [key]
        -- the world now
        have hSnow : (∀ j b, is0[j]? = some b → brkB b.p = true → L.getD j false = false) → Cls E ρ0 hp0 w := by
          exact fun h => (hpre h).1
        have hsk : (∀ j b, is0[j]? = some b → subB b.p = true → (L.setIfInBounds k true).getD j false = false) → (∀ j b, is0[j]? = some b → subB b.p = true → L.getD j false = false) := by
          intro h j b hj hb
          have := h j b hj hb
          by_cases hjk : k = j
          · subst hjk
            rw [Array.getD_eq_getD_getElem?, Array.getElem?_setIfInBounds_self_of_lt hkL] at this
            cases this
          · rwa [getD_set_ne false hjk] at this
        have stay : (∀ j b, is0[j]? = some b → brkB b.p = true → L.getD j false = false) → Cls E ρ0 hp0 w ∧ ((∀ j b, is0[j]? = some b → subB b.p = true → (L.setIfInBounds k true).getD j false = false) → ∃ rest, S.hp = hp0 ++ rest) := fun h => ⟨(hpre h).1, fun h2 => (hpre h).2 (hsk h2)⟩
        have hpre' : ∀ T : Prop, ((∀ j b, is0[j]? = some b → brkB b.p = true → L.getD j false = false) → brkB io.p = false → T) → ((∀ j b, is0[j]? = some b → brkB b.p = true → (L.setIfInBounds k true).getD j false = false) → T) := by
          intro T h hh
          refine h (fun j b hj hb => ?_) ?_
          · have := hh j b hj hb
            by_cases hjk : k = j
            · subst hjk
              rw [Array.getD_eq_getD_getElem?, Array.getElem?_setIfInBounds_self_of_lt hkL] at this
              cases this
            · rwa [getD_set_ne false hjk] at this
          · cases hb : brkB io.p with
            | false => rfl
            | true =>
              have := hh k io hio_k hb
              rw [Array.getD_eq_getD_getElem?, Array.getElem?_setIfInBounds_self_of_lt hkL] at this
              cases this
        have hclk : k ∈ Region.ready .any ops L → Closed ops (L.setIfInBounds k true) := fun h => hcl.set h
        -- what is to be shown behind an operation
        have next : Closed ops (L.setIfInBounds k true) → ∀ (ρ' : Nat → Value) (w' : World) (hp' : List SB) (v : SV) (u : Value), dstOk E.nt io.d → (∀ i < S.hp.length, ρ' i = ρ i) → S.hp.length ≤ hp'.length → Cls E ρ' hp' w' → (act → u = v.den ρ') → (¬ act → u = undef) → (act → v.lt hp'.length) →
            ((∀ j b, is0[j]? = some b → brkB b.p = true → (L.setIfInBounds k true).getD j false = false) → Cls E ρ0 hp0 w' ∧ ((∀ j b, is0[j]? = some b → subB b.p = true → (L.setIfInBounds k true).getD j false = false) → ∃ rest, hp' = hp0 ++ rest)) → K (putD nv S io.d act v hp') →
            wpAnyL E.P .any ops Q (fun l w => (∀ j b, is0[j]? = some b → brkB b.p = true → l.getD j false = false) → Cls E ρ0 hp0 w) n (L.setIfInBounds k true) (a.put o.dst u) w' := by
          intro hc1 ρ' w' hp' v u hd1 hag' hlen' hcls hv1 hv2 hv3 hpre2 hr2
          rw [← hd]
          exact hrec hc1 _ ρ' _ w' (hs.next (nv := nv) hd1 hag' hlen' hcls hv1 hv2 hv3)
            (fun i hi => (hag' i (by omega)).trans (hag i hi)) (by
              have : (putD nv S io.d act v hp').hp = hp' := by cases io.d <;> rfl
              rw [this]; omega) (by
              have : (putD nv S io.d act v hp').hp = hp' := by cases io.d <;> rfl
              rw [this]; exact hpre2) hr2
        -- an operation that leaves the world, taken first
        have take : staticB io.p = true → ∀ (v : SV), dstOk E.nt io.d → (act → v.lt S.hp.length) →
            (act → ∀ w', (∃ l, (Closed ops l ∧ l.getD k true = false) ∧ ((∀ j b, is0[j]? = some b → brkB b.p = true → l.getD j false = false) → Cls E ρ0 hp0 w')) → (execOp a.eval o).run E.P w' = .ok (.value (v.den ρ)) w') →
            K (putD nv S io.d act v S.hp) →
            wpAnyL E.P .any ops Q (fun l w => (∀ j b, is0[j]? = some b → brkB b.p = true → l.getD j false = false) → Cls E ρ0 hp0 w) (n + 1) L a w := by
          intro hst v hd1 hv hy hr2
          rw [if_pos (by rw [hst]; rfl)] at hat
          simp only [Bool.and_eq_true, List.contains_iff_mem] at hat
          obtain ⟨⟨hready, hfree⟩, _⟩ := hat
          have hun : L.getD k true = false := (mem_ready.1 hready).1
          by_cases ha : act
          · refine wpAnyL_first (v := v.den ρ) hok_k (Region.noSelect_spec hns) (fun c a w h => (hQ _ _ _ h).elim) (fun l => Closed ops l ∧ l.getD k true = false)
              (fun l j hT hj hjk => ⟨hT.1.set hj, by rw [getD_set_ne true hjk]; exact hT.2⟩) (hSi (hnb_of hst)) n _ a w ⟨hcl, hun⟩ (Region.free_spec hok_k hfree) hready (.inl ⟨hw.2 ha, hy ha⟩) hSnow ?_
            exact next (hclk hready) ρ w S.hp v _ hd1 (fun _ _ => rfl) (Nat.le_refl _) ⟨hs.hp, hs.fr⟩ (fun _ => rfl) (fun h => (h ha).elim) hv (hpre' _ fun h _ => stay h) hr2
          · have hnw : Region.wanted o (yielded ops a.tmps) = false := by
              cases hh : Region.wanted o (yielded ops a.tmps) with
              | false => rfl
              | true => exact (ha (hw.1 hh)).elim
            refine wpAnyL_first (v := undef) hok_k (Region.noSelect_spec hns) (fun c a w h => (hQ _ _ _ h).elim) (fun l => Closed ops l ∧ l.getD k true = false)
              (fun l j hT hj hjk => ⟨hT.1.set hj, by rw [getD_set_ne true hjk]; exact hT.2⟩) (hSi (hnb_of hst)) n _ a w ⟨hcl, hun⟩ (Region.free_spec hok_k hfree) hready (.inr ⟨hnw, rfl⟩) hSnow ?_
            exact next (hclk hready) ρ w S.hp v _ hd1 (fun _ _ => rfl) (Nat.le_refl _) ⟨hs.hp, hs.fr⟩ (fun h => (ha h).elim) (fun _ => rfl) hv (hpre' _ fun h _ => stay h) hr2
        -- the one operation that may come up
        have only : staticB io.p = false → subB io.p = false → (∀ (K' : Act → World → Prop), (∀ a' w', (((∀ j b, is0[j]? = some b → brkB b.p = true → (L.setIfInBounds k true).getD j false = false) → Cls E ρ0 hp0 w') ∧ (Closed ops (L.setIfInBounds k true) → wpAnyL E.P .any ops Q (fun l w => (∀ j b, is0[j]? = some b → brkB b.p = true → l.getD j false = false) → Cls E ρ0 hp0 w) n (L.setIfInBounds k true) a' w')) → K' a' w') →
              if Region.wanted o (yielded ops a.tmps) = true then o.wp E.P a w K' Q else K' (a.put o.dst undef) w) →
            wpAnyL E.P .any ops Q (fun l w => (∀ j b, is0[j]? = some b → brkB b.p = true → l.getD j false = false) → Cls E ρ0 hp0 w) (n + 1) L a w := by
          intro hst hsb h
          rw [if_neg (by rw [hst, hsb]; simp), Bool.and_eq_true] at hat
          have hrd : Region.ready .any ops L = [k] := by simpa using hat.1
          have hmem : k ∈ Region.ready .any ops L := by rw [hrd]; simp
          refine ⟨fun h0 => (by rw [hrd] at h0; cases h0), fun j hj => ?_⟩
          rw [hrd] at hj
          simp only [List.mem_singleton] at hj
          subst hj
          have := h (fun a' w' => ((∀ i b, is0[i]? = some b → brkB b.p = true → ((L).setIfInBounds j true).getD i false = false) → Cls E ρ0 hp0 w') ∧ wpAnyL E.P .any ops Q (fun l w => (∀ j b, is0[j]? = some b → brkB b.p = true → l.getD j false = false) → Cls E ρ0 hp0 w) n ((L).setIfInBounds j true) a' w')
            (fun a' w' hh => by exact ⟨hh.1, hh.2 (hclk hmem)⟩)
          unfold wpOp
          simp only [hok_k]
          split
          · rename_i hww
            rw [if_pos hww] at this
            exact .inl this
          · rename_i hww
            rw [if_neg hww] at this
            exact this
        -- what is not sliced yet
        have ext : staticB io.p = false → subB io.p = false → (∀ j b, is0[j]? = some b → brkB b.p = true → L.getD j false = false) → brkB io.p = false → ∃ rest, S.hp = hp0 ++ rest := by
          intro hst hsb h hnb
          rw [if_neg (by rw [hst, hsb]; simp), Bool.and_eq_true, Bool.or_eq_true, List.all_eq_true] at hat
          refine (hpre h).2 fun j b hj hb => ?_
          rcases hat.2 with h1 | h1
          · rw [hnb] at h1; cases h1
          · have hj' : (b, j) ∈ is0.zipIdx := by
              rw [List.mem_zipIdx_iff_getElem?]
              exact hj
            have := h1 (b, j) hj'
            simp only [hb, Bool.not_true, Bool.false_or, Bool.not_eq_true', ] at this
            exact this
        have grown : staticB io.p = false → subB io.p = false → ∀ (ρ' : Nat → Value) (w' : World) (hp' : List SB), (∀ i < S.hp.length, ρ' i = ρ i) → Cls E ρ' hp' w' → (brkB io.p = false → ∃ x, hp' = S.hp ++ x) →
            (∀ j b, is0[j]? = some b → brkB b.p = true → (L.setIfInBounds k true).getD j false = false) → Cls E ρ0 hp0 w' ∧ ((∀ j b, is0[j]? = some b → subB b.p = true → (L.setIfInBounds k true).getD j false = false) → ∃ rest, hp' = hp0 ++ rest) := by
          intro hst hsb ρ' w' hp' hag' hcls hx
          refine hpre' _ fun h hnb => ?_
          obtain ⟨rest, hrest⟩ := ext hst hsb h hnb
          obtain ⟨x, rfl⟩ := hx hnb
          have he : S.hp ++ x = hp0 ++ (rest ++ x) := by rw [hrest, List.append_assoc]
          refine ⟨⟨?_, hcls.2⟩, fun _ => ⟨rest ++ x, he⟩⟩
          have h1 := hcls.1
          rw [he] at h1
          exact h1.init hlt0 fun i hi => (hag' i (by omega)).trans (hag i hi)
        have other : (∀ f xs, io.p ≠ .call f xs) →
            (match runP Γ S act io.p with
              | .still p v => dstOk E.nt io.d ∧ p ∧ K (putD nv S io.d act v S.hp)
              | .ok p v hp => bif staticB io.p then False else dstOk E.nt io.d ∧ act ∧ p ∧ K (putD nv S io.d act v hp)
              | _ => False) →
            wpAnyL E.P .any ops Q (fun l w => (∀ j b, is0[j]? = some b → brkB b.p = true → l.getD j false = false) → Cls E ρ0 hp0 w) (n + 1) L a w := by
          intro hnc hr
          split at hr
          · rename_i p v hrp
            obtain ⟨hd1, hp, hr⟩ := hr
            have hst : act → v.lt S.hp.length ∧ ∀ w0, Cls E ρ S.hp w0 → ∀ w, (execOp a.eval o).run E.P w = .ok (.value (v.den ρ)) w := fun ha => by
              have := hok' ha
              rw [hrp] at this
              exact this hp
            cases hstat : staticB io.p with
            | true => exact take hstat v hd1 (fun ha => (hst ha).1) (fun ha w' _ => (hst ha).2 w ⟨hs.hp, hs.fr⟩ w') hr
            | false =>
              have hsub : subB io.p = false := sub_never hrp
              have hpp := grown hstat hsub ρ w S.hp (fun _ _ => rfl) ⟨hs.hp, hs.fr⟩ fun _ => ⟨[], by simp⟩
              refine only hstat hsub fun K' hK' => ?_
              by_cases ha : act
              · rw [if_pos (hw.2 ha)]
                unfold Oper.wp
                rw [(hst ha).2 w ⟨hs.hp, hs.fr⟩ w]
                exact hK' _ _ ⟨fun h => (hpp h).1, fun hc1 => next hc1 ρ w S.hp v _ hd1 (fun _ _ => rfl) (Nat.le_refl _) ⟨hs.hp, hs.fr⟩ (fun _ => rfl) (fun h => (h ha).elim) (fun _ => (hst ha).1) hpp hr⟩
              · rw [if_neg fun h => ha (hw.1 h)]
                exact hK' _ _ ⟨fun h => (hpp h).1, fun hc1 => next hc1 ρ w S.hp v _ hd1 (fun _ _ => rfl) (Nat.le_refl _) ⟨hs.hp, hs.fr⟩ (fun h => (ha h).elim) (fun _ => rfl) (fun h => (ha h).elim) hpp hr⟩
          · rename_i p v hp' hrp
            cases hstat : staticB io.p with
            | true => rw [hstat] at hr; exact hr.elim
            | false =>
              rw [hstat] at hr
              simp only [cond_false] at hr
              obtain ⟨hd1, ha, hp, hr⟩ := hr
              have hq := hok' ha
              rw [hrp] at hq
              cases hsub : subB io.p with
              | true =>
                -- a slice expression: the world stays
                have hpu := sub_opPure (E := E) hs.sl ha hprim hrp hsub hp
                obtain ⟨hlt, hlen, hpu⟩ := hpu
                obtain ⟨ρ', hag', hcls, hrun⟩ := hpu w ⟨hs.hp, hs.fr⟩
                rw [if_pos (by rw [hsub]; simp)] at hat
                simp only [Bool.and_eq_true, List.contains_iff_mem] at hat
                obtain ⟨⟨hready, hfree⟩, _⟩ := hat
                have hun : L.getD k true = false := (mem_ready.1 hready).1
                have hnb : brkB io.p = false := by
                  cases hpp : io.p <;> rw [hpp] at hsub <;> simp only [subB, reduceCtorEq] at hsub
                  rfl
                refine wpAnyL_first (v := v.den ρ') hok_k (Region.noSelect_spec hns) (fun c a w h => (hQ _ _ _ h).elim) (fun l => Closed ops l ∧ l.getD k true = false)
                  (fun l j hT hj hjk => ⟨hT.1.set hj, by rw [getD_set_ne true hjk]; exact hT.2⟩) (hSi hnb) n _ a w ⟨hcl, hun⟩ (Region.free_spec hok_k hfree) hready (.inl ⟨hw.2 ha, fun w' _ => hrun w'⟩) hSnow ?_
                refine next (hclk hready) ρ' w hp' v _ hd1 hag' hlen hcls (fun _ => rfl) (fun h => (h ha).elim) (fun _ => hlt) (hpre' _ fun h _ => ⟨(hpre h).1, fun h2 => ?_⟩) hr
                have := h2 k io hio_k hsub
                rw [Array.getD_eq_getD_getElem?, Array.getElem?_setIfInBounds_self_of_lt hkL] at this
                cases this
              | false =>
              obtain ⟨hlt, hlen, hq⟩ := hq hp
              refine only hstat hsub fun K' hK' => ?_
              rw [if_pos (hw.2 ha)]
              refine hq w ⟨hs.hp, hs.fr⟩ K' Q fun ρ' w' hag' hcls => ?_
              have hpp := grown hstat hsub ρ' w' hp' hag' hcls fun hnb => by
                obtain ⟨x, rfl⟩ := ok_ext hrp hnb hstat hsub hnc
                exact ⟨[x], rfl⟩
              exact hK' _ _ ⟨fun h => (hpp h).1, fun hc1 => next hc1 ρ' w' hp' v _ hd1 hag' hlen hcls (fun _ => rfl) (fun h => (h ha).elim) (fun _ => hlt) hpp hr⟩
          · exact hr.elim
        split at hr
        · -- a load
          rename_i n y hpr
          split at hr
          · rename_i p s harg
            split at hr
            · rename_i p' v hrp
              obtain ⟨hd1, hsl, hp, hr⟩ := hr
              rw [hpr] at hprim
              obtain ⟨t, x, hop, hcn, hx⟩ := prim_load hprim
              have hst : staticB io.p = true := by rw [hpr]; rfl
              have hpp : p' → p ∧ ∃ q, loadR hp0 n s = .quiet q v ∧ (act → q) := by
                cases hlr : loadR hp0 n s with
                | no => rw [hlr] at hrp; cases hrp
                | still q u => rw [hlr] at hrp; cases hrp
                | any q u => rw [hlr] at hrp; cases hrp
                | ok q u z => rw [hlr] at hrp; cases hrp
                | quiet q u =>
                  rw [hlr] at hrp
                  simp only [owe, RR.quiet.injEq] at hrp
                  obtain ⟨rfl, rfl⟩ := hrp
                  exact fun h => ⟨h.1, q, rfl, h.2⟩
              obtain ⟨hpa, q, hlr, hq⟩ := hpp hp
              have hload : act → v.lt hp0.length ∧ ∀ w, Cls E ρ0 hp0 w → (execOp a.eval o).run E.P w = .ok (.value (v.den ρ0)) w := fun ha => by
                obtain ⟨e1, _⟩ := argE_sound hs.sl ha hx harg hpa
                have e2 : a.eval x = s.den ρ0 := by
                  rw [e1]
                  exact S0.den_congr (ρ := ρ0) (ρ' := ρ) hag (S0.lt_of hsl)
                have := load_ok (E := E) (ρ := ρ0) (S := ⟨[], hp0⟩) (a := a) (o := o) hlt0 hcn e2 hop
                simp only [hlr] at this
                obtain ⟨h3, h4⟩ := this (hq ha)
                exact ⟨h3, fun w hw => load_run hop (h4 w hw)⟩
              refine take hst v hd1 (fun ha => SV.lt_mono hle (hload ha).1) (fun ha w' => ?_) hr
              rintro ⟨l, ⟨hcl', hun'⟩, hSl⟩
              have hden : v.den ρ = v.den ρ0 := SV.den_congr hag (hload ha).1
              rw [hden]
              refine (hload ha).2 w' (hSl fun j b hj hb => ?_)
              cases hlj : l.getD j false with
              | false => rfl
              | true =>
                exfalso
                rw [if_pos (by rw [hst]; rfl)] at hat
                simp only [Bool.and_eq_true, Bool.or_eq_true, List.all_eq_true, hpr, loadB, Bool.not_true, Bool.false_eq_true, false_or] at hat
                have hj' : (b, j) ∈ is0.zipIdx := by
                  rw [List.mem_zipIdx_iff_getElem?]
                  exact hj
                have := hat.2 (b, j) hj'
                simp only [hb, Bool.not_true, Bool.false_eq_true, false_or] at this
                have hlk := hcl'.anc _ _ _ hlj this
                rcases Nat.lt_or_ge k l.size with h' | h'
                · simp [h'] at hun' hlk
                  rw [hun'] at hlk
                  cases hlk
                · simp [Array.getElem?_eq_none h'] at hlk
            · exact hr.elim
          · exact hr.elim
        · -- a call
          rename_i f xs hpr
          have hst : staticB io.p = false := by rw [hpr]; rfl
          have hsub : subB io.p = false := by rw [hpr]; rfl
          split at hr
          · rename_i p v hrp
            obtain ⟨hd1, hp, hr⟩ := hr
            refine only hst hsub fun K' hK' => ?_
            by_cases ha : act
            · have hq := hok' ha
              rw [hpr, hrp] at hq
              obtain ⟨hlt, hq⟩ := hq hp
              rw [if_pos (hw.2 ha)]
              refine Oper.wp_of_quiet (C := Cls E ρ S.hp) (K := fun a' => a' = a.put o.dst (v.den ρ)) ⟨hs.hp, hs.fr⟩ ?_ ⟨_, hq, rfl⟩
              rintro a' w' hc rfl
              have hpp := grown hst hsub ρ w' S.hp (fun _ _ => rfl) hc fun _ => ⟨[], by simp⟩
              exact hK' _ _ ⟨fun h => (hpp h).1, fun hc1 => next hc1 ρ w' S.hp v _ hd1 (fun _ _ => rfl) (Nat.le_refl _) hc (fun _ => rfl) (fun h => (h ha).elim) (fun _ => hlt) hpp hr⟩
            · rw [if_neg fun h => ha (hw.1 h)]
              have hpp := grown hst hsub ρ w S.hp (fun _ _ => rfl) ⟨hs.hp, hs.fr⟩ fun _ => ⟨[], by simp⟩
              exact hK' _ _ ⟨fun h => (hpp h).1, fun hc1 => next hc1 ρ w S.hp v _ hd1 (fun _ _ => rfl) (Nat.le_refl _) ⟨hs.hp, hs.fr⟩ (fun h => (ha h).elim) (fun _ => rfl) (fun h => (ha h).elim) hpp hr⟩
          · rename_i p v hp' hrp
            obtain ⟨⟨more, hmore⟩, hd1, ha, hp, hr⟩ := hr
            have hq := hok' ha
            rw [hpr, hrp] at hq
            obtain ⟨hlt, hlen, hq⟩ := hq hp
            refine only hst hsub fun K' hK' => ?_
            rw [if_pos (hw.2 ha)]
            refine hq w ⟨hs.hp, hs.fr⟩ K' Q fun ρ' w' hag' hcls => ?_
            have hpp := grown hst hsub ρ' w' hp' hag' hcls fun _ => ⟨more, hmore⟩
            exact hK' _ _ ⟨fun h => (hpp h).1, fun hc1 => next hc1 ρ' w' hp' v _ hd1 hag' hlen hcls (fun _ => rfl) (fun h => (h ha).elim) (fun _ => hlt) hpp hr⟩
          · exact hr.elim
        · -- what a map holds
          rename_i ys hpr
          split at hr
          · rename_i p s0 t0 harg
            split at hr
            · rename_i ps m hmo
              obtain ⟨hd1, hsl, hp, hr⟩ := hr
              rw [hpr] at hprim
              obtain ⟨t, x, i, y1, y2, hop, hnm, hx, hi, hys⟩ := prim_mget hprim
              subst hys
              have hst : staticB io.p = true := by rw [hpr]; rfl
              have hload : act → ∀ w, Cls E ρ0 hp0 w → (execOp a.eval o).run E.P w = .ok (.value (.int .i64 (mget m t0))) w := fun ha w hw => by
                obtain ⟨e1, _⟩ := args_sound hs.sl ha (xs := [x, i]) (by simp [args, hx, hi]) harg hp.1
                simp only [List.map_cons, List.map_nil, List.cons.injEq, and_true] at e1
                have e2 : a.eval x = s0.den ρ0 := by
                  rw [e1.1]
                  exact S0.den_congr (ρ := ρ0) (ρ' := ρ) hag (S0.lt_of hsl)
                have e3 : a.eval i = .string t0 := e1.2
                have hma := mapOf_spec hw.1 hmo (hp.2 ha)
                unfold execOp
                simp only [hop, e2, e3, Sem.run_bind, run_lookup_at hnm hma, Result.andThen_ok, Sem.run_pure]
              refine take hst (.c (.o (.val (.int .i64 (mget m t0))))) hd1 (fun _ => trivial) (fun ha w' => ?_) hr
              rintro ⟨l, ⟨hcl', hun'⟩, hSl⟩
              refine hload ha w' (hSl fun j b hj hb => ?_)
              cases hlj : l.getD j false with
              | false => rfl
              | true =>
                exfalso
                rw [if_pos (by rw [hst]; rfl)] at hat
                simp only [Bool.and_eq_true, Bool.or_eq_true, List.all_eq_true, hpr, loadB, Bool.not_true, Bool.false_eq_true, false_or] at hat
                have hj' : (b, j) ∈ is0.zipIdx := by
                  rw [List.mem_zipIdx_iff_getElem?]
                  exact hj
                have := hat.2 (b, j) hj'
                simp only [hb, Bool.not_true, Bool.false_eq_true, false_or] at this
                have hlk := hcl'.anc _ _ _ hlj this
                rcases Nat.lt_or_ge k l.size with h' | h'
                · simp [h'] at hun' hlk
                  rw [hun'] at hlk
                  cases hlk
                · simp [Array.getElem?_eq_none h'] at hlk
            · exact hr.elim
          · exact hr.elim
        · rename_i hnl hnc hnm
          exact other (fun f xs h => hnc f xs h) hr
      · exact hr.elim

theorem runDraw_cons {o : IOp} {r : List IOp} {S : St} {nt : Nat} {hp0 : List SB} {K : St → Prop} : runDraw Γ nv nt hp0 (o :: r) S K = runDraw Γ nv nt hp0 [o] S fun S' => runDraw Γ nv nt hp0 r S' K := rfl
theorem draw_end {ops : Array Oper} {L : Array Bool} (hz : L.size = ops.size) (hall : (List.range ops.size).all (fun j => L.getD j false) = true) : Region.ready .any ops L = [] := by
  simp only [List.all_eq_true, List.mem_range] at hall
  unfold Region.ready
  rw [List.filter_eq_nil_iff]
  intro i hi
  simp only [List.mem_range] at hi
  have hL := hall i (by omega)
  have hi' : i < L.size := by omega
  simp only [Array.getD_eq_getD_getElem?, Array.getElem?_eq_getElem hi', Option.getD_some] at hL ⊢
  simp [hL]
theorem draw_sound (hΓ : ∀ f C, Γ f = some C → Valid E.P f C) {ops : Array Oper} {is0 : List IOp} (hops : opers E.P raws ops ops.toList = some is0) (hns : Region.noSelect ops = true) {Q : Exit → Act → World → Prop} (hQ : ∀ c a w, ¬ Q (.panic c) a w) {K : St → Prop}
    {hp0 : List SB} {ρ0 : Nat → Value} (hlt0 : ∀ (i : Nat) (sb : SB), hp0[i]? = some sb → sb.lt hp0.length)
    (hK : ∀ S' ρ' a' w', Sat E ρ' S' a' w' → K S' → Q .normal a' w') :
    ∀ (d : List Nat) (is : List IOp) (L : Array Bool), pickO is0 d = some is → L.size = ops.size → drawAll ops is0 L d = true → Closed ops L →
      ∀ (S : St) (ρ : Nat → Value) (a : Act) (w : World), Sat E ρ S a w → (∀ i < hp0.length, ρ i = ρ0 i) → hp0.length ≤ S.hp.length → Pre E is0 ρ0 hp0 L S w →
      runDraw Γ nv E.nt hp0 is S K →
      wpAnyL E.P .any ops Q (SI E is0 ρ0 hp0) d.length L a w
  | [], is, L, hpk, hz, hall, hcl, S, ρ, a, w, hs, hag, hle, hpre, hr => by
    simp only [pickO, Option.some.injEq] at hpk
    subst hpk
    exact ⟨draw_end hz hall, hK S ρ a w hs hr⟩
  | k :: d, is, L, hpk, hz, hall, hcl, S, ρ, a, w, hs, hag, hle, hpre, hr => by
    simp only [pickO] at hpk
    split at hpk
    · rename_i io is' hio_k hpk'
      simp only [Option.some.injEq] at hpk
      subst hpk
      simp only [drawAll, Bool.and_eq_true, decide_eq_true_eq] at hall
      rw [runDraw_cons] at hr
      exact draw_step (nv := nv) hΓ hops hns hQ hlt0 hio_k hall.1.1 hall.1.2 hz hcl S ρ a w hs hag hle hpre
        (fun hc S' ρ' a' w' hs' hag' hle' hpre' hr' => draw_sound hΓ hops hns hQ hlt0 hK d is' _ hpk' (by simpa using hz) hall.2 hc S' ρ' a' w' hs' hag' hle' hpre' hr') hr
    · cases hpk
end
end Go.Eng
