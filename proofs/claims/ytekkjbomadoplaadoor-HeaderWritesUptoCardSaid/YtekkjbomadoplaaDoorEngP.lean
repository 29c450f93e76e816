/-
 Each operation does to the state what runP says. No program.
-/
import Derived.Test.YtekkjbomadoplaaDoorEngS
import Derived.Deep.Quiet
import Derived.IntWalk
import Derived.Laws.Bits64
import Derived.Laws.Strings
namespace Go.Eng
set_option linter.unusedVariables false
set_option linter.unusedSimpArgs false

def Cls (E : Env) (ρ : Nat → Value) (hp : List SB) (w : World) : Prop := HpSat E.X E.w0 w ρ hp ∧ Stays E.X E.w0 w

def SlSat (ρ : Nat → Value) (S : St) (a : Act) : Prop :=
 ∀ i c v, getE S.sl i = some (c, v) → (c → a.tmps[i]? = some (v.den ρ)) ∧ (¬ c → a.tmps[i]? = some undef) ∧ (c → v.lt S.hp.length)

def OpOK (E : Env) (ρ : Nat → Value) (S : St) (a : Act) (o : Oper) : RR → Prop
 | .no => True
 | .quiet p v => p → v.lt S.hp.length ∧ ∀ w, Cls E ρ S.hp w → o.quietAt E.P a (Cls E ρ S.hp) w (v.den ρ)
 | .still p v => p → v.lt S.hp.length ∧ ∀ w0, Cls E ρ S.hp w0 → ∀ w, (execOp a.eval o).run E.P w = .ok (.value (v.den ρ)) w
 | .ok p v hp' => p → v.lt hp'.length ∧ S.hp.length ≤ hp'.length ∧ ∀ w, Cls E ρ S.hp w → ∀ (K : Act → World → Prop) (Q : Exit → Act → World → Prop),
   (∀ ρ' w', (∀ i < S.hp.length, ρ' i = ρ i) → Cls E ρ' hp' w' → K (a.put o.dst (v.den ρ')) w') → o.wp E.P a w K Q
 | .any p k => p → ∀ w, Cls E ρ S.hp w → ∀ (K : Act → World → Prop) (Q : Exit → Act → World → Prop), (∀ b w', Cls E ρ S.hp w' → K (a.put o.dst (.float k b)) w') → o.wp E.P a w K Q

theorem OpOK_owe {E : Env} {ρ : Nat → Value} {S : St} {a : Act} {o : Oper} {p act : Prop} (hact : act) {r : RR} (h : p → OpOK E ρ S a o r) : OpOK E ρ S a o (owe p act r) := by
 cases r with
 | no => trivial
 | ok q v hp' => exact fun hp => h hp.1 (hp.2 hact)
 | quiet q v => exact fun hp => h hp.1 (hp.2 hact)
 | still q v => exact fun hp => h hp.1 (hp.2 hact)
 | any q k => exact fun hp => h hp.1 (hp.2 hact)

section
variable {E : Env} {ρ : Nat → Value} {S : St} {a : Act} {o : Oper} {act : Prop}

theorem argE_sound (hs : SlSat ρ S a) (hact : act) {x : Operand} {y : Arg} (hx : arg x = some y) {p : Prop} {v : SV} (h : argE S act y = some (p, v)) (hp : p) :
  a.eval x = v.den ρ ∧ v.lt S.hp.length := by
 cases x with
 | tmp t =>
  simp only [arg, snJ] at hx
  subst hx
  simp only [argE] at h
  split at h
  ·rename_i c u hg
   simp only [snJ, Prod.mk.injEq] at h
   obtain ⟨rfl, rfl⟩ := h
   obtain ⟨h1, _, h3⟩ := hs t c u hg
   refine ⟨?_, h3 (hp hact)⟩
   simp only [Act.eval]
   have := h1 (hp hact)
   simp [Array.getD_eq_getD_getElem?, this]
  ·cases h
 | const c =>
  simp only [arg, snJ] at hx
  subst hx
  simp only [argE, snJ, Prod.mk.injEq] at h
  obtain ⟨_, rfl⟩ := h
  exact ⟨rfl, trivial⟩
 | global g => simp [arg] at hx
 | func f => simp [arg] at hx

theorem quiet_of_run {p : Prop} {v : SV} (hlt : p → v.lt S.hp.length) (h : p → ∀ w, Cls E ρ S.hp w → (execOp a.eval o).run E.P w = .ok (.value (v.den ρ)) w) : OpOK E ρ S a o (.quiet p v) :=
 fun hp => ⟨hlt hp, fun w hw => by unfold Oper.quietAt; rw [h hp w hw]; exact ⟨rfl, rfl⟩⟩

theorem still_of_run {p : Prop} {v : SV} (hlt : p → v.lt S.hp.length) (h : p → ∀ w0, Cls E ρ S.hp w0 → ∀ w, (execOp a.eval o).run E.P w = .ok (.value (v.den ρ)) w) : OpOK E ρ S a o (.still p v) :=
 fun hp => ⟨hlt hp, h hp⟩

/-! ### numbers, texts -/
theorem wrap_fit {raw : Bool} {k : IntKind} {x : Int} {p : Prop} {v : SV} (h : fit raw k x = .still p v) (hp : p) : v = .c (.o (.val (.int k (k.wrap x)))) := by
 unfold fit ret1 at h
 cases k <;> cases raw <;> simp only [cond_true, cond_false, RR.still.injEq, reduceCtorEq] at h <;> obtain ⟨rfl, rfl⟩ := h
 ·rw [IntWalk.i32_in _ hp]
 ·rfl
 ·rw [IntWalk.i64_in _ hp]
 ·rfl
 all_goals simp [IntKind.wrap, IntKind.bits, IntKind.signed]

theorem fit_quiet {raw : Bool} {k : IntKind} {x : Int} : (∃ p v, fit raw k x = .still p v) ∨ fit raw k x = .no := by
 unfold fit ret1
 cases k <;> cases raw <;> first | exact .inr rfl | exact .inl ⟨_, _, rfl⟩

theorem fit_ok {raw : Bool} {k : IntKind} {x : Int} (h : ∀ w, (execOp a.eval o).run E.P w = .ok (.value (.int k (k.wrap x))) w) : OpOK E ρ S a o (fit raw k x) := by
 rcases fit_quiet (raw := raw) (k := k) (x := x) with ⟨p, v, hf⟩ | hf
 ·rw [hf]
  refine still_of_run (fun hp => ?_) (fun hp w0 _ w => ?_)
  ·rw [wrap_fit hf hp]; trivial
  ·rw [wrap_fit hf hp]; exact h w
 ·rw [hf]; trivial

theorem run_binInt (w : World) (op : BinOp) (t ty : TypeId) (x y : Operand) (k : IntKind) (m n : Int) (hx : a.eval x = .int k m) (hy : a.eval y = .int k n) (ho : o.op = .binOp op t x y ty)
  (h1 : op ≠ .shl) (h2 : op ≠ .shr) :
  (execOp a.eval o).run E.P w = ((match op with
   | .add | .sub | .mul => Op.intArith op k m n
   | .quo | .rem => Op.intDiv op k m n
   | .and | .or | .xor | .andNot => Op.intBits op k m n
   | _ => Op.intCmp op m n).run E.P w).andThen fun v w' => .ok (.value v) w' := by
 unfold execOp
 simp only [ho, hx, hy]
 cases op <;> simp_all [eqGuard, binOp]

theorem ret1_ok {p : Prop} {v : Value} (h : p → ∀ w, (execOp a.eval o).run E.P w = .ok (.value v) w) : OpOK E ρ S a o (ret1 p v) :=
 still_of_run (fun _ => trivial) (fun hp w0 _ w => h hp w)

theorem binInt_ok (raw : Bool) (op : BinOp) (t ty : TypeId) (x y : Operand) (k k' : IntKind) (m n : Int) (hx : a.eval x = .int k m) (hy : a.eval y = .int k' n) (ho : o.op = .binOp op t x y ty) :
  OpOK E ρ S a o (binR raw op (.int k m) (.int k' n)) := by
 by_cases hs : op = .shl
 ·subst hs
  simp only [binR]
  rcases fit_quiet (raw := raw) (k := k) (x := m * 2 ^ (min n.toNat k.bits)) with ⟨p, v, hf⟩ | hf
  ·rw [hf]
   refine still_of_run (fun hp => ?_) (fun hp w0 _ w => ?_)
   ·rw [wrap_fit hf hp.2]; trivial
   ·rw [wrap_fit hf hp.2]
    have : ¬ n < 0 := by omega
    unfold execOp
    simp [ho, hx, hy, eqGuard, binOp, Op.shift, this, SV.den, SC.den, S0.den]
  ·rw [hf]; trivial
 by_cases hs' : op = .shr
 ·subst hs'
  simp only [binR]
  refine ret1_ok fun hp w => ?_
  have : ¬ n < 0 := by omega
  unfold execOp
  simp only [ho, hx, hy, eqGuard, binOp, Op.shift, this]
  have hpos : (0 : Int) ≤ 2 ^ min n.toNat k.bits := Int.pow_nonneg (by omega)
  simp [Int.fdiv_eq_ediv_of_nonneg _ hpos]
 by_cases hk : k = k'
 ·subst hk
  have hr := fun w => run_binInt (E := E) w op t ty x y k m n hx hy ho hs hs'
  cases op <;> simp only [binR, decide_true, cond_true] <;> first | exact absurd rfl hs | exact absurd rfl hs' | skip
  case add => exact fit_ok fun w => by rw [hr w]; simp [Op.intArith]
  case sub => exact fit_ok fun w => by rw [hr w]; simp [Op.intArith]
  case mul => exact fit_ok fun w => by rw [hr w]; simp [Op.intArith]
  case quo =>
   unfold quot
   cases k <;> try trivial
   case i64 =>
    cases raw
    ·exact ret1_ok fun hp w => by
      rw [hr w]
      have h0 : ¬ n = 0 := by omega
      simp [Op.intDiv, h0, IntWalk.i64_quo m n hp]
    ·exact ret1_ok fun hp w => by
      rw [hr w]
      simp [Op.intDiv, hp.1, IntWalk.i64_in _ hp.2]
   case u8 =>
    exact ret1_ok fun hp w => by
      rw [hr w]
      have h0 : ¬ n = 0 := by omega
      simp [Op.intDiv, h0, IntWalk.u8_quo m n hp]
   case u32 =>
    exact ret1_ok fun hp w => by
      rw [hr w]
      have h0 : ¬ n = 0 := by omega
      simp [Op.intDiv, h0, IntWalk.u32_quo m n hp]
   case u64 =>
    exact ret1_ok fun hp w => by
      rw [hr w]
      have h0 : ¬ n = 0 := by omega
      simp [Op.intDiv, h0, IntWalk.u64_quo m n hp]
  case rem =>
   unfold remd
   cases raw
   ·exact ret1_ok fun hp w => by
     rw [hr w]
     have h0 : ¬ n = 0 := by omega
     simp [Op.intDiv, h0, Int.tmod_eq_emod_of_nonneg hp.1]
   ·exact ret1_ok fun hp w => by
     rw [hr w]
     simp [Op.intDiv, hp]
  case and => exact ret1_ok fun _ w => by rw [hr w]; simp [Op.intBits, bitAnd]
  case or => exact ret1_ok fun _ w => by rw [hr w]; simp [Op.intBits, bitOr]
  case xor => exact ret1_ok fun _ w => by rw [hr w]; simp [Op.intBits, bitXor]
  case andNot => exact ret1_ok fun _ w => by rw [hr w]; simp [Op.intBits, bitNot]
  case eql => exact ret1_ok fun _ w => by rw [hr w]; simp [Op.intCmp]; rfl
  case neq => exact ret1_ok fun _ w => by rw [hr w]; simp [Op.intCmp]; rfl
  case lss => exact ret1_ok fun _ w => by rw [hr w]; simp [Op.intCmp]
  case leq => exact ret1_ok fun _ w => by rw [hr w]; simp [Op.intCmp]
  case gtr => exact ret1_ok fun _ w => by rw [hr w]; simp [Op.intCmp]
  case geq => exact ret1_ok fun _ w => by rw [hr w]; simp [Op.intCmp]
 ·cases op <;> simp only [binR, decide_eq_false hk, cond_false] <;> first | trivial | exact absurd rfl hs | exact absurd rfl hs'

theorem str_beq (x y : ByteArray) : (x.toList == y.toList) = decide (x = y) := by
 have e : ∀ z : ByteArray, z.toList = z.data.toList := fun z => ByteArray.toList_eq z
 rw [Bool.eq_iff_iff]
 simp only [beq_iff_eq, decide_eq_true_eq, e]
 constructor
 ·intro h
  have : x.data = y.data := Array.toList_inj.1 h
  cases x; cases y; simp_all
 ·rintro rfl; rfl

theorem binStr_ok (raw : Bool) (op : BinOp) (t ty : TypeId) (x y : Operand) (m n : ByteArray) (hx : a.eval x = .string m) (hy : a.eval y = .string n) (ho : o.op = .binOp op t x y ty) :
  OpOK E ρ S a o (binR raw op (.string m) (.string n)) := by
 have hr : ∀ w, (execOp a.eval o).run E.P w = ((Op.stringOp op m n).run E.P w).andThen fun v w' => .ok (.value v) w' := fun w => by
  unfold execOp
  simp only [ho, hx, hy]
  cases op <;> simp [eqGuard, binOp]
 cases op <;> simp only [binR] <;> first | trivial | skip
 case add =>
  refine ret1_ok fun hp w => ?_
  rw [hr w]
  have : ¬ (IntKind.i64.max < ((m.size + n.size : Nat) : Int)) := by simp only [IntKind.max, IntKind.signed, IntKind.bits]; simp; omega
  simp only [Op.stringOp, gt_iff_lt, this]
  simp
 all_goals
  refine ret1_ok fun hp w => ?_
  rw [hr w]
  simp [Op.stringOp, str_beq, sLt]

theorem bin_ok (raw : Bool) (op : BinOp) (t ty : TypeId) (x y : Operand) (u v : Value) (hx : a.eval x = u) (hy : a.eval y = v) (ho : o.op = .binOp op t x y ty) :
  OpOK E ρ S a o (binR raw op u v) := by
 unfold binR
 split
 ·exact binInt_ok raw op t ty x y _ _ _ _ hx hy ho
 ·exact binStr_ok raw op t ty x y _ _ hx hy ho
 ·trivial

theorem mm_ok (mx : Bool) {c : Call} {x y : Operand} (u v : Value) (hc : c.callee = .builtin (bif mx then .max else .min)) (ha : c.args = #[x, y]) (hx : a.eval x = u) (hy : a.eval y = v) (ho : o.op = .call c) : OpOK E ρ S a o (mmR mx u v) := by
 unfold mmR
 split
 ·rename_i k m k' n
  refine ret1_ok fun _ w => ?_
  unfold execOp
  simp only [ho, resolve, hc]
  cases mx <;> simp [invoke, builtin, ha, hx, hy, Builtin.min_, Builtin.max_, Builtin.min2, Builtin.max2]
 ·trivial
theorem run_equal_bool {P : Program} (w : World) {t : TypeId} (m n : Bool) (h : P.underlying t = some .bool) : (Op.equal t (.bool m) (.bool n)).run P w = .ok (m == n) w := by
 have : ∀ d, (Op.equalIn (d + 1) t (.bool m) (.bool n)).run P w = .ok (m == n) w := fun d => by simp [Op.equalIn, run_underlying h]
 exact this 9999
theorem beq_ok (neg : Bool) (t ty : TypeId) (x y : Operand) (u v : Value) (hu : E.P.underlying t = some .bool) (hx : a.eval x = u) (hy : a.eval y = v) (ho : o.op = .binOp (bif neg then .neq else .eql) t x y ty) :
  OpOK E ρ S a o (beqR neg u v) := by
 unfold beqR
 split
 ·rename_i m n
  refine ret1_ok fun _ w => ?_
  unfold execOp
  simp only [ho, hx, hy]
  cases neg <;> simp [eqGuard, binOp, run_equal_bool w m n hu]
 ·trivial

theorem un_ok (op : UnOp) (t : TypeId) (x : Operand) (u : Value) (hx : a.eval x = u) (ho : o.op = .unOp op t x) : OpOK E ρ S a o (unR op u) := by
 unfold unR
 split
 ·cases op <;> first | trivial | skip
  refine fit_ok fun w => ?_
  unfold execOp
  simp [ho, hx, Op.unary, Op.intArith]
 ·cases op <;> first | trivial | skip
  refine ret1_ok fun _ w => ?_
  unfold execOp
  simp [ho, hx, Op.unary]
 ·trivial

end
end Go.Eng
