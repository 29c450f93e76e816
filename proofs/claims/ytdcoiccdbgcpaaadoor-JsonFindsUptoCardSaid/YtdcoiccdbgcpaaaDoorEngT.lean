/-
  Lengths, appends, calls; all operations together. No program.
-/
import Derived.Test.YtdcoiccdbgcpaaaDoorEngR
namespace Go.Eng
set_option linter.unusedVariables false
set_option linter.unusedSimpArgs false

/-- A callee keeps its word, from whatever heap. -/
def Valid (P : Program) (f : Nat) (C : Con) : Prop :=
  ∀ (args : List SV) (hp : List SB) (p : Prop) (r : SV) (q : Option (List SB)), C args hp = some (p, r, q) → p → (∀ v ∈ args, v.lt hp.length) →
    match q with
    | none => r.lt hp.length ∧ ∀ (X : Nat → Prop) (w0 w : World) (ρ : Nat → Value), HpSat X w0 w ρ hp → Stays X w0 w →
      Calls P f (args.map (SV.den ρ)).toArray w fun e w' => e = .returned (r.den ρ) ∧ HpSat X w0 w' ρ hp ∧ Stays X w0 w'
    | some hp' => r.lt hp'.length ∧ hp.length ≤ hp'.length ∧ ∀ (X : Nat → Prop) (w0 w : World) (ρ : Nat → Value), HpSat X w0 w ρ hp → Stays X w0 w →
      Calls P f (args.map (SV.den ρ)).toArray w fun e w' => ∃ ρ', (∀ i < hp.length, ρ' i = ρ i) ∧ e = .returned (r.den ρ') ∧ HpSat X w0 w' ρ' hp' ∧ Stays X w0 w'

section
variable {E : Env} {ρ : Nat → Value} {S : St} {a : Act} {o : Oper} {act : Prop}

theorem rowLen_spec {hp : List SB} {X : Nat → Prop} {w0 w : World} (h : HpSat X w0 w ρ hp) {s : S0} {n : Nat} (hn : rowLen hp s = some n) : ∃ ad cap, s.den ρ = .slice ad n cap := by
  unfold rowLen at hn
  split at hn
  · cases hn; exact ⟨none, 0, rfl⟩
  · rename_i hh
    split at hn
    · rename_i t e l hsb
      cases hn
      obtain ⟨h1, _⟩ := h.sat hh _ hsb
      rcases h1.2 with ⟨hv, h0⟩ | ⟨g, cap, cur, hv, _⟩
      · exact ⟨none, 0, by rw [S0.den, hv, h0]⟩
      · exact ⟨_, _, hv⟩
    · rename_i t l hsb
      cases hn
      obtain ⟨ad, cap, hv, _⟩ := h.sat hh _ hsb
      exact ⟨_, _, hv⟩
    · rename_i k lo n' sz hsb
      cases hn
      obtain ⟨ad, len, cap, ad', _, hv, _⟩ := h.sat hh _ hsb
      exact ⟨_, _, hv⟩
    · cases hn
  · cases hn

theorem lenS_ok (hs : SlSat ρ S a) (hact : act) {t : Nat} {x : Operand} {y : Arg} (hu : E.P.underlying t = some .string) (hx : arg x = some y)
    (ho : o.op = .call { callee := .builtin .len, args := #[x], argTypes := #[t] }) {Γ : Nat → Option Con} : OpOK E ρ S a o (runP Γ S act (.lenS y)) := by
  simp only [runP]
  split
  · rename_i p s h
    refine still_of_run (fun _ => trivial) (fun hp w0 _ w => ?_)
    obtain ⟨e1, _⟩ := argE_sound hs hact hx h hp
    unfold execOp
    simp [ho, resolve, invoke, builtin, e1, SV.den, SC.den, S0.den, Builtin.len_, run_underlying hu, goInt]
  · trivial

theorem len_ok (hs : SlSat ρ S a) (hact : act) {t e : Nat} {x : Operand} {y : Arg} (hu : E.P.underlying t = some (.slice e)) (hx : arg x = some y)
    (ho : o.op = .call { callee := .builtin .len, args := #[x], argTypes := #[t] }) {Γ : Nat → Option Con} : OpOK E ρ S a o (runP Γ S act (.len y)) := by
  simp only [runP]
  split
  · rename_i p s h
    split
    · rename_i n hn
      refine still_of_run (fun _ => trivial) (fun hp w0 hw w => ?_)
      obtain ⟨e1, _⟩ := argE_sound hs hact hx h hp
      obtain ⟨ad, cap, hv⟩ := rowLen_spec hw.1 hn
      have e2 : a.eval x = .slice ad n cap := by rw [e1]; exact hv
      unfold execOp
      simp [ho, resolve, invoke, builtin, e2, SV.den, SC.den, S0.den, Builtin.len_, run_underlying hu, goInt]
    · trivial
  · trivial

theorem extract_ok (hs : SlSat ρ S a) (hact : act) {x : Operand} {y : Arg} {i : Nat} (hx : arg x = some y) (ho : o.op = .extract x i) {Γ : Nat → Option Con} : OpOK E ρ S a o (runP Γ S act (.extract y i)) := by
  simp only [runP]
  split
  · rename_i p l h
    split
    · rename_i z hz
      refine still_of_run (fun hp => ?_) (fun hp w0 _ w => ?_)
      · exact (argE_sound hs hact hx h hp).2 z (List.mem_of_getElem? hz)
      · obtain ⟨e1, _⟩ := argE_sound hs hact hx h hp
        unfold execOp
        simp [ho, e1, SV.den, Instr.extract, hz]
    · trivial
  · trivial

/-! ### appends -/
theorem src_spec {X : Nat → Prop} {w0 w : World} {hp : List SB} (h : HpSat X w0 w ρ hp) {t : ET} {s : S0} {m : List t.T} (hm : srcL hp t s = some m) :
    ∃ ad cap, s.den ρ = .slice ad m.length cap ∧ ∀ j u, (m.flatMap t.enc)[j]? = some u → ∃ a, ad = some a ∧ w.cell? (a.add j) = some u := by
  unfold srcL at hm
  split at hm
  · rename_i hh
    split at hm
    · rename_i t' e l hsb
      split at hm
      · rename_i ht
        subst ht
        simp only [Option.some.injEq] at hm
        subst hm
        obtain ⟨h1, _⟩ := h.sat hh _ hsb
        rcases h1.2 with ⟨hv, h0⟩ | ⟨g, cap, cur, hv, _⟩
        · have hnil : l = [] := List.eq_nil_of_length_eq_zero h0
          subst hnil
          exact ⟨none, 0, hv, fun j u hu => by simp at hu⟩
        · exact ⟨_, _, hv, fun j u hu => ⟨_, rfl, World.ownsRow.cells h1 (g := g) (by rw [hv]; rfl) j u hu⟩⟩
      · cases hm
    · rename_i t' l hsb
      split at hm
      · rename_i ht
        subst ht
        simp only [Option.some.injEq] at hm
        subst hm
        obtain ⟨ad, cap, hv, _, h1⟩ := h.sat hh _ hsb
        exact ⟨ad, cap, hv, fun j u hu => by
          obtain ⟨a, ha, hc, _⟩ := h1 j u hu
          exact ⟨a, ha, hc⟩⟩
      · cases hm
    · cases hm
  · simp only [Option.some.injEq] at hm
    subst hm
    exact ⟨none, 0, rfl, fun j u hu => by simp at hu⟩
  · cases hm

theorem run_append_any {P : Program} {w : World} {t ty e bytes : Nat} {tt : ET} {i : TypeInfo} {z : Value} (ht : P.underlying t = some (.slice e)) (hi : P.info? e = some i) (hz : i.zero = some z) (hsize : i.size = tt.sz) (hby : i.bytes = bytes) (hzs : z.cells.size = tt.sz)
    {v : Value} {l m : List tt.T} (hown : w.ownsRow 0 e tt.sz v l.length (l.flatMap tt.enc)) {ad : Option Addr} {cap : Nat}
    (hsrc : ∀ j u, (m.flatMap tt.enc)[j]? = some u → ∃ a, ad = some a ∧ w.cell? (a.add j) = some u) (h63 : l.length + m.length ≤ maxLen) (hbytes : (l.length + m.length) * bytes ≤ 140737488355328) :
    ∃ v' w', (Builtin.append_ #[t, t] ty #[v, .slice ad m.length cap]).run P w = .ok v' w' ∧ w'.ownsRow 0 e tt.sz v' (l ++ m).length ((l ++ m).flatMap tt.enc) ∧ w.grownBy w' v.ownBlock ∧ (∃ ad n c, v' = .slice ad n c) ∧ (∀ b, v'.ownBlock = some b → v.ownBlock = some b ∨ w.heap.size ≤ b) := by
  cases ad with
  | none =>
    have hm : m = [] := by
      cases m with
      | nil => rfl
      | cons x r =>
        exfalso
        have hl := tt.enc_len x
        have hp := tt.sz_pos
        have : (tt.enc x)[0]? = some ((tt.enc x)[0]'(by omega)) := by simp
        obtain ⟨a, ha, _⟩ := hsrc 0 _ (by
          rw [List.flatMap_cons, List.getElem?_append_left (by omega)]
          exact this)
        cases ha
    subst hm
    refine ⟨v, w, ?_, by simpa using hown, ⟨rfl, rfl, rfl, Nat.le_refl _, fun _ _ _ => rfl⟩, ?_, fun b hb => .inl hb⟩
    · rcases hown.2 with ⟨rfl, h0⟩ | ⟨g, cap', cur, rfl, hbg, hg, hnc, hcm, hcs, htake⟩
      · simp [Builtin.append_, run_underlying ht, sizeOf, typeInfo, hi, Builtin.lenOf, Builtin.firstCells, loadCells, loadCellsFrom]
      · have hle : l.length ≤ cap' := hnc
        simp [Builtin.append_, run_underlying ht, sizeOf, typeInfo, hi, Builtin.lenOf, Builtin.firstCells, loadCells, loadCellsFrom, hle, storeCells]
    · rcases hown.2 with ⟨rfl, h0⟩ | ⟨g, cap', cur, rfl, _⟩ <;> exact ⟨_, _, _, rfl⟩
  | some ad =>
    obtain ⟨v', w', hr, h2, h3, h4⟩ := run_append_own (P := P) w 0 t ty e i z tt.sz bytes ht hi hz hsize hby hzs tt.sz_pos v l.length _ hown ad m.length cap (m.flatMap tt.enc) (flatMap_len tt.enc_len m)
      (fun j u hu => by
        obtain ⟨a, ha, hc⟩ := hsrc j u hu
        cases ha
        exact hc)
      (fun u hu => by
        obtain ⟨x, _, hx⟩ := List.mem_flatMap.1 hu
        exact tt.enc_one x u hx) h63 hbytes (Nat.zero_le _)
    refine ⟨v', w', hr, by rw [List.length_append, List.flatMap_append]; exact h2, h3, ?_, ?_⟩
    · rcases h2.2 with ⟨rfl, h0⟩ | ⟨g, cap', cur, rfl, _⟩ <;> exact ⟨_, _, _, rfl⟩
    · intro b hb
      subst hby
      have hbnd : (l.length + m.length : Nat) ≤ 9223372036854775807 := by simp only [maxLen] at h63; omega
      have hnews : ∀ j u, (m.flatMap tt.enc)[j]? = some u → w.cell? (ad.add j) = some u := fun j u hu => by
        obtain ⟨a, ha, hc⟩ := hsrc j u hu
        cases ha
        exact hc
      have hml : (m.flatMap tt.enc).length = m.length * i.size := by rw [hsize]; exact flatMap_len tt.enc_len m
      rcases hown.2 with ⟨rfl, h0⟩ | ⟨g, cap', cur, rfl, hbg, hg, hnc, hcm, hcs, htake⟩
      · by_cases hm0 : m.length = 0
        · have hv' := h4.2 ⟨rfl, hm0⟩
          subst hv'
          simp [Value.ownBlock] at hb
        · rw [run_append_nil (P := P) w t ty e i z ht hi hz ad m.length cap _ hml hnews (by omega) (by omega) (by rw [h0] at hbytes; simp at hbytes; omega)] at hr
          simp only [Result.ok.injEq] at hr
          obtain ⟨rfl, _⟩ := hr
          simp only [Value.ownBlock, Option.some.injEq] at hb
          omega
      · by_cases hroom : l.length + m.length ≤ cap'
        · have hfit : l.length * i.size + (m.flatMap tt.enc).length ≤ cur.size := by rw [hml, hcs, hsize, ← Nat.add_mul]; exact Nat.mul_le_mul_right _ hroom
          rw [run_append_room (P := P) w t ty e i ht hi g l.length cap' cur hg ad m.length cap _ hml hnews (fun u hu => by
            obtain ⟨x, _, hx⟩ := List.mem_flatMap.1 hu
            exact tt.enc_one x u hx) hroom hfit] at hr
          simp only [Result.ok.injEq] at hr
          obtain ⟨rfl, _⟩ := hr
          exact .inl hb
        · rw [run_append_grow (P := P) w t ty e i z ht hi hz ⟨g, 0, none⟩ l.length cap' (l.flatMap tt.enc) (by rw [hsize]; exact hown.1) (hown.cells (g := g) rfl) ad m.length cap _ hml hnews (by omega) (by omega) (growslice_fits (by omega) hbytes)] at hr
          simp only [Result.ok.injEq] at hr
          obtain ⟨rfl, _⟩ := hr
          simp only [Value.ownBlock, Option.some.injEq] at hb
          omega

theorem append_core {hp0 : List SB} {tt : ET} {e : Nat} {l : List tt.T} {v v' : Value} {w w' : World} (hlen : hp0.length = S.hp.length) (hw : HpSat E.X E.w0 w ρ hp0) (hf : Stays E.X E.w0 w)
    (hown : w'.ownsRow 0 e tt.sz v' l.length (l.flatMap tt.enc)) (hgr : w.grownBy w' v.ownBlock) (href : ∃ ad n c, v' = .slice ad n c) (hblk : ∀ b, v'.ownBlock = some b → v.ownBlock = some b ∨ w.heap.size ≤ b)
    (hex : ∀ b, v.ownBlock = some b → Excl E.X E.w0 b) (hdead : ∀ b, v.ownBlock = some b → ∀ (i : Nat) (sb : SB), hp0[i]? = some sb → sb.ex = true → fp (ρ i) ≠ some b) :
    ∃ ρ', (∀ i < S.hp.length, ρ' i = ρ i) ∧ ρ' S.hp.length = v' ∧ Cls E ρ' (hp0 ++ [.row tt e l]) w' := by
  obtain ⟨ad, n, c, rfl⟩ := href
  have hk : ∀ k, k < w.heap.size → v.ownBlock ≠ some k → Same w w' k := fun k hk hne => hgr.block k hk (fun e => hne e.symm)
  have hr0 : ∀ i < hp0.length, (fun i => if i = hp0.length then Value.slice ad n c else ρ i) i = ρ i := fun i hi => by
    have : ¬ i = hp0.length := by omega
    simp [this]
  have hview : ∀ k, k < E.w0.heap.size → ¬ E.X k → Same w w' k := fun k h1 h2 => hk k (Nat.lt_of_lt_of_le h1 hf.size) fun hb => by
    rcases hex k hb with h | h
    · omega
    · exact h2 h
  refine ⟨fun i => if i = hp0.length then Value.slice ad n c else ρ i, by rw [← hlen]; exact hr0, by simp [hlen], ?_, hf.keep hgr.os hgr.output hgr.size hview⟩
  refine hw.push (.row tt e l) hr0 hview (fun i sb k hi hx hfp => hk k (hw.fp_lt hi hx hfp).1 fun hb => hdead k hb i sb hi hx hfp) ?_ trivial (by simp [isRef]) ?_
  · simp only [if_true]
    refine ⟨hown, fun b hb => ?_⟩
    rcases hblk b hb with h | h
    · exact hex b h
    · exact .inl (Nat.le_trans hf.size h)
  · intro _ b hb j sb' hj hx' hfp
    simp only [if_true] at hb
    have hlt := (hw.fp_lt hj hx' hfp).1
    have hob : (Value.slice ad n c).ownBlock = some b := by
      cases ad with
      | none => simp [fp] at hb
      | some ad => simpa [fp, Value.ownBlock] using hb
    rcases hblk b hob with h | h
    · exact hdead b h j sb' hj hx' hfp
    · omega

theorem append_ok {t e bytes : Nat} {i : TypeInfo} {zero : List Value} {x y : Operand} {s s' : S0} (hu : E.P.underlying t = some (.slice e)) (hi : E.P.info? e = some i) (hz : zeroCells E.P e = some zero) (hzl : zero.length = i.size) (hby : i.bytes = bytes)
    (hx : a.eval x = s.den ρ) (hy : a.eval y = s'.den ρ) (ho : o.op = .call { callee := .builtin .append, args := #[x, y], argTypes := #[t, t] }) : OpOK E ρ S a o (appendR S.hp e i.size bytes zero s s') := by
  obtain ⟨i', v, h1, h2, rfl⟩ := zero_of hz
  have hii : i' = i := by rw [hi] at h1; exact (Option.some.inj h1).symm
  subst hii
  have hrun : ∀ w, (execOp a.eval o).run E.P w = ((Builtin.append_ #[t, t] o.type #[s.den ρ, s'.den ρ]).run E.P w).andThen fun v w' => .ok (.value v) w' := fun w => by
    unfold execOp
    simp [ho, resolve, invoke, builtin, hx, hy]
  unfold appendR
  cases hap : apart0 s s' with
  | false => trivial
  | true =>
    simp only [cond_true]
    split
    · -- onto nil
      split
      · rename_i tt htt
        cases hsz : (i'.size == tt.sz) with
        | false => trivial
        | true =>
          simp only [cond_true]
          have hsz' : i'.size = tt.sz := by simpa using hsz
          split
          · rename_i m hm
            intro hp
            refine ⟨by simp [SV.lt, SC.lt, S0.lt], by simp, fun w hw K Q hK => ?_⟩
            obtain ⟨ad, cap, hv', hsrc⟩ := src_spec hw.1 hm
            obtain ⟨v', w', hr, hown', hgr, href, hblk⟩ := run_append_any (P := E.P) (w := w) (ty := o.type) (bytes := bytes) (cap := cap) (tt := tt) hu hi h2 hsz' hby (by rw [← hsz', ← hzl]; simp) (v := .slice none 0 0) (l := []) (m := m)
              (by exact World.ownsRow_nil w 0 e tt.sz) hsrc (by simp only [List.length_nil, Nat.zero_add, maxLen]; omega) (by simp only [List.length_nil, Nat.zero_add]; exact hp.2)
            obtain ⟨ρ', hag, hnew, hcls⟩ := append_core (S := S) (E := E) rfl hw.1 hw.2 hown' hgr href hblk (fun b hb => by simp [Value.ownBlock] at hb) (fun b hb => by simp [Value.ownBlock] at hb)
            have := hK _ w' hag (by simpa using hcls)
            simp only [SV.den, SC.den, S0.den, hnew] at this
            unfold Oper.wp
            rw [hrun w, show (S0.val (Value.slice none 0 0)).den ρ = .slice none 0 0 from rfl, hv', hr]
            exact this
          · trivial
      · trivial
    · -- onto a row
      rename_i hh
      split
      · rename_i tt e' l hsb
        cases hsz : (i'.size == tt.sz && e == e') with
        | false => trivial
        | true =>
          simp only [cond_true]
          simp only [Bool.and_eq_true, beq_iff_eq] at hsz
          obtain ⟨hsz', rfl⟩ := hsz
          split
          · rename_i m hm
            intro hp
            refine ⟨by simp [SV.lt, SC.lt, S0.lt], by simp, fun w hw K Q hK => ?_⟩
            obtain ⟨ad, cap, hv', hsrc⟩ := src_spec hw.1 hm
            obtain ⟨h1', h2'⟩ := hw.1.sat hh _ hsb
            obtain ⟨v', w', hr, hown', hgr, href, hblk⟩ := run_append_any (P := E.P) (w := w) (ty := o.type) (bytes := bytes) (cap := cap) (tt := tt) hu hi h2 hsz' hby (by rw [← hsz', ← hzl]; simp) (v := ρ hh) (l := l) (m := m)
              h1' hsrc (by simp only [maxLen]; omega) hp.2
            obtain ⟨ρ', hag, hnew, hcls⟩ := append_core (S := S) (E := E) (hp0 := S.hp.set hh .dead) (by simp) (hw.1.kill hh) hw.2 hown' hgr href hblk h2' (fun b hb j sb hj hx' hfp => by
              by_cases hjh : j = hh
              · subst hjh
                rw [List.getElem?_set_self (List.getElem?_eq_some_iff.1 hsb).1] at hj
                cases hj
                cases hx'
              · rw [List.getElem?_set_ne (Ne.symm hjh)] at hj
                exact hw.1.apart j hh sb _ b hjh hj hsb hx' rfl hfp (fp_own hb))
            have := hK _ w' hag hcls
            simp only [SV.den, SC.den, S0.den, hnew] at this
            unfold Oper.wp
            rw [hrun w, show (S0.own hh).den ρ = ρ hh from rfl, hv', hr]
            exact this
          · trivial
      · trivial
    · trivial

/-! ### calls -/
theorem args_sound (hs : SlSat ρ S a) (hact : act) : ∀ {xs : List Operand} {ys : List Arg}, args xs = some ys → ∀ {p : Prop} {l : List SV}, argsE S act ys = some (p, l) → p → xs.map a.eval = l.map (SV.den ρ) ∧ ∀ v ∈ l, v.lt S.hp.length
  | [], ys, h, p, l, h2, _ => by
    simp only [args, Option.some.injEq] at h
    subst h
    simp only [argsE, Option.some.injEq, Prod.mk.injEq] at h2
    obtain ⟨_, rfl⟩ := h2
    exact ⟨rfl, fun v hv => by simp at hv⟩
  | x :: xs, ys, h, p, l, h2, hp => by
    simp only [args] at h
    split at h
    · rename_i y s h3 h4
      simp only [Option.some.injEq] at h
      subst h
      simp only [argsE] at h2
      split at h2
      · rename_i p1 v q l2 h5 h6
        simp only [Option.some.injEq, Prod.mk.injEq] at h2
        obtain ⟨rfl, rfl⟩ := h2
        obtain ⟨e1, e2⟩ := argE_sound hs hact h3 h5 hp.1
        obtain ⟨e3, e4⟩ := args_sound hs hact h4 h6 hp.2
        refine ⟨by simp [e1, e3], fun u hu => ?_⟩
        rcases List.mem_cons.1 hu with rfl | hu
        · exact e2
        · exact e4 u hu
      · cases h2
    · cases h

theorem run_callFunc {P : Program} {f : Nat} {fn : Func} {vs : Array Value} {w : World} (hf : P.funcs[f]? = some fn) (hb : fn.body.isSome = true) (hn : fn.name ≠ "runtime.NumGoroutine") : (callFunc f vs).run P w = .ok (.enter f vs) w := by
  have hb' : fn.body.isNone = false := by
    cases h : fn.body <;> simp_all
  simp [callFunc, hf, hb', hn]
  intro h
  rw [h] at hb
  cases hb

theorem call_ok (hs : SlSat ρ S a) (hact : act) {f : Nat} {fn : Func} {c : Call} {ys : List Arg} (hf : E.P.funcs[f]? = some fn) (hb : fn.body.isSome = true) (hn : fn.name ≠ "runtime.NumGoroutine") (hc : c.callee = .value (.func f)) (hargs : args c.args.toList = some ys)
    (ho : o.op = .call c) {Γ : Nat → Option Con} (hΓ : ∀ f C, Γ f = some C → Valid E.P f C) : OpOK E ρ S a o (runP Γ S act (.call f ys)) := by
  have hrun : ∀ (l : List SV), c.args.toList.map a.eval = l.map (SV.den ρ) → ∀ w, (execOp a.eval o).run E.P w = .ok (.enter f (l.map (SV.den ρ)).toArray) w := fun l hl w => by
    have hmap : c.args.map a.eval = (l.map (SV.den ρ)).toArray := by
      rw [← hl]
      apply Array.toList_inj.1
      rw [Array.toList_map]
    unfold execOp
    simp only [ho, resolve, hc, hmap, Act.eval, Deferred.ofValue, Sem.run_bind, Sem.run_pure, Result.andThen_ok, invoke, Array.empty_append, Array.append_empty, run_callFunc hf hb hn]
  simp only [runP]
  split
  · rename_i C p l h1 h2
    have hV := hΓ f C h1
    split
    · rename_i q v h3
      intro hp
      obtain ⟨e1, e2⟩ := args_sound hs hact hargs h2 hp.1
      have hv := hV l S.hp q v none h3 (hp.2 hact) e2
      refine ⟨hv.1, fun w hw => ?_⟩
      unfold Oper.quietAt
      rw [hrun l e1 w]
      exact ⟨rfl, hv.2 E.X E.w0 w ρ hw.1 hw.2⟩
    · rename_i q v hp' h3
      intro hp
      obtain ⟨e1, e2⟩ := args_sound hs hact hargs h2 hp.1
      have hv := hV l S.hp q v (some hp') h3 (hp.2 hact) e2
      refine ⟨hv.1, hv.2.1, fun w hw K Q hK => ?_⟩
      unfold Oper.wp
      rw [hrun l e1 w]
      refine (hv.2.2 E.X E.w0 w ρ hw.1 hw.2).mono ?_
      rintro e w' ⟨ρ', hag, rfl, h4, h5⟩
      exact hK ρ' w' hag ⟨h4, h5⟩
    · trivial
  · trivial

end
end Go.Eng
