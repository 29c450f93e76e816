/-
 Conditions for code: what is to be shown of a function's code (VC), rule by rule. No program.
-/
import Derived.Test.YtekkjbomadoplaaDoorEngC
namespace Go.Eng
set_option linter.unusedVariables false
set_option linter.unusedSimpArgs false

inductive Fr where
 | code (c : IC)
 | blk (id : Nat)
 | mid (Post : St → Prop)

def rvE (S : St) : RV → Option (Prop × SC)
 | .tmp t => match getE S.sl t with
  | some (c, .c x) => some (c, x)
  | _ => none
 | .cell a n => match getE S.sl a with
  | some (c, .c (.o (.hd h off))) => match S.hp[h]? with
   | some (.cells _ l) => match n with
    | none => match l[off]? with
     | some x => some (c, .o x)
     | none => none
    | some m => bif Nat.ble (off + m) l.length then some (c, .agg (subList l off m)) else none
   | _ => none
  | _ => none
def resE (S : St) : List RV → Option (Prop × List SC)
 | [] => some (True, [])
 | x :: r => match rvE S x, resE S r with
  | some (p, v), some (q, l) => some (p ∧ q, v :: l)
  | _, _ => none
def mkRes : List SC → SV
 | [x] => .c x
 | l => .tup l
/-- The results, and the heap, are as asked. -/
def FinOK (S : St) (rv : List RV) (Post : SV → List SB → Prop) : Prop :=
 match resE S rv with
 | some (p, l) => p ∧ Post (mkRes l) S.hp
 | none => False

/-- All that is fixed through a function's code: the code's program, the callees' words, the slots that are numbers read raw, the number of variables, what is to hold at the end. -/
structure Ctx where
 E : Env
 Γ : Nat → Option Con
 raws : List Nat
 nv : Nat
 rv : List RV
 Post : SV → List SB → Prop
 hΓ : ∀ f C, Γ f = some C → Valid E.P f C

/-- The end of a call. -/
def Ctx.bot (X : Ctx) : Exit → Act → World → Prop
 | .normal, a, w => ∃ ρ S, Sat X.E ρ S a w ∧ FinOK S X.rv X.Post
 | .ret, a, w => ∃ ρ S, Sat X.E ρ S a w ∧ FinOK S X.rv X.Post
 | _, _, _ => False

def wpK (X : Ctx) : List Fr → Exit → Act → World → Prop
 | [], e, a, w => X.bot e a w
 | .code i :: k, .normal, a, w => ∀ c, comp X.E.P X.raws c = some i → c.wp X.E.P (wpK X k) a w
 | .code _ :: k, e, a, w => wpK X k e a w
 | .blk id :: k, .exit id', a, w => if id' = id then wpK X k .normal a w else wpK X k (.exit id') a w
 | .blk _ :: k, e, a, w => wpK X k e a w
 | .mid Post :: k, .normal, a, w => ∃ ρ S, Sat X.E ρ S a w ∧ Post S
 | .mid _ :: k, e, a, w => wpK X k e a w

def VC (X : Ctx) (k : List Fr) (S : St) : Prop := ∀ ρ a w, Sat X.E ρ S a w → wpK X k .normal a w

section
variable {X : Ctx} {k : List Fr} {S : St}

theorem comp_seq {P : Program} {raws : List Nat} {c : Code} {a b : IC} (h : comp P raws c = some (.seq a b)) : ∃ x y, c = .seq x y ∧ comp P raws x = some a ∧ comp P raws y = some b := by
 cases c <;> simp only [comp, reduceCtorEq, snJ, Option.map_eq_some_iff, and_false, exists_false] at h
 case seq x y =>
  split at h
  ·rename_i h1 h2; cases h; exact ⟨x, y, rfl, h1, h2⟩
  ·cases h
 case region =>
  split at h
  ·split at h
   ·split at h
    ·cases h
    ·split at h <;> cases h
   ·cases h
  ·cases h
 case cond =>
  split at h <;> cases h
theorem comp_cond {P : Program} {raws : List Nat} {c : Code} {x : Arg} {a b : IC} (h : comp P raws c = some (.cond x a b)) : ∃ o y z, c = .cond o y z ∧ arg o = some x ∧ comp P raws y = some a ∧ comp P raws z = some b := by
 cases c <;> simp only [comp, reduceCtorEq, snJ, Option.map_eq_some_iff, and_false, exists_false] at h
 case seq x y =>
  split at h <;> cases h
 case region =>
  split at h
  ·split at h
   ·split at h
    ·cases h
    ·split at h <;> cases h
   ·cases h
  ·cases h
 case cond o y z =>
  split at h
  ·rename_i h1 h2 h3; cases h; exact ⟨o, y, z, rfl, h1, h2, h3⟩
  ·cases h
theorem comp_block {P : Program} {raws : List Nat} {c : Code} {id : Nat} {b : IC} (h : comp P raws c = some (.block id b)) : ∃ y, c = .block id y ∧ comp P raws y = some b := by
 cases c <;> simp only [comp, reduceCtorEq, snJ, Option.map_eq_some_iff, and_false, exists_false] at h
 case seq x y => split at h <;> cases h
 case region =>
  split at h
  ·split at h
   ·split at h
    ·cases h
    ·split at h <;> cases h
   ·cases h
  ·cases h
 case cond => split at h <;> cases h
 case block id' y => obtain ⟨z, h1, h2⟩ := h; cases h2; exact ⟨y, rfl, h1⟩
theorem comp_loop {P : Program} {raws : List Nat} {c : Code} {b : IC} (h : comp P raws c = some (.loop b)) : ∃ y, c = .loop y ∧ comp P raws y = some b := by
 cases c <;> simp only [comp, reduceCtorEq, snJ, Option.map_eq_some_iff, and_false, exists_false] at h
 case seq x y => split at h <;> cases h
 case region =>
  split at h
  ·split at h
   ·split at h
    ·cases h
    ·split at h <;> cases h
   ·cases h
  ·cases h
 case cond => split at h <;> cases h
 case loop y => obtain ⟨z, h1, h2⟩ := h; cases h2; exact ⟨y, rfl, h1⟩
theorem comp_exit {P : Program} {raws : List Nat} {c : Code} {id : Nat} (h : comp P raws c = some (.exit id)) : c = .exit id := by
 cases c <;> simp only [comp, reduceCtorEq, snJ, Option.map_eq_some_iff, and_false, exists_false] at h
 case seq x y => split at h <;> cases h
 case region =>
  split at h
  ·split at h
   ·split at h
    ·cases h
    ·split at h <;> cases h
   ·cases h
  ·cases h
 case cond => split at h <;> cases h
 case exit => cases h; rfl
theorem comp_ret {P : Program} {raws : List Nat} {c : Code} (h : comp P raws c = some .ret) : c = .ret := by
 cases c <;> simp only [comp, reduceCtorEq, snJ, Option.map_eq_some_iff, and_false, exists_false] at h
 case seq x y => split at h <;> cases h
 case region =>
  split at h
  ·split at h
   ·split at h
    ·cases h
    ·split at h <;> cases h
   ·cases h
  ·cases h
 case cond => split at h <;> cases h
 case ret => rfl
theorem comp_skip {P : Program} {raws : List Nat} {c : Code} (h : comp P raws c = some .skip) : c = .skip ∨ ∃ l, c = .label l := by
 cases c <;> simp only [comp, reduceCtorEq, snJ, Option.map_eq_some_iff, and_false, exists_false] at h
 case seq x y => split at h <;> cases h
 case region =>
  split at h
  ·split at h
   ·split at h
    ·cases h
    ·split at h <;> cases h
   ·cases h
  ·cases h
 case cond => split at h <;> cases h
 case skip => exact .inl rfl
 case label l => exact .inr ⟨l, rfl⟩
theorem comp_reg {P : Program} {raws : List Nat} {c : Code} {last : Nat} {ops : List IOp} (h : comp P raws c = some (.reg last none ops)) : ∃ id l, c = .region id l false ∧ opers P raws l l.toList = some ops := by
 cases c <;> simp only [comp, reduceCtorEq, snJ, Option.map_eq_some_iff, and_false, exists_false] at h
 case seq x y => split at h <;> cases h
 case region id l d =>
  split at h
  ·rename_i is his
   cases d
   ·simp only [Bool.false_eq_true, if_false, snJ] at h
    cases h
    exact ⟨id, l, rfl, his⟩
   ·simp only [if_true] at h
    split at h
    ·cases h
    ·split at h <;> cases h
  ·cases h
 case cond => split at h <;> cases h

theorem comp_regD {P : Program} {raws : List Nat} {c : Code} {last : Nat} {d : List Nat} {ops : List IOp} (h : comp P raws c = some (.reg last (some d) ops)) : ∃ id l is, c = .region id l true ∧ opers P raws l l.toList = some is ∧ pickO is d = some ops ∧ P.follows .mixedOrders = true ∧ drawOK l is d = true := by
 cases c <;> simp only [comp, reduceCtorEq, snJ, Option.map_eq_some_iff, and_false, exists_false] at h
 case seq x y => split at h <;> cases h
 case region id l d =>
  split at h
  ·rename_i is his
   cases d
   ·simp only [Bool.false_eq_true, if_false, snJ] at h
    cases h
   ·simp only [if_true] at h
    split at h
    rotate_left
    ·split at h <;> cases h
    rename_i m hm
    cases h
    unfold drawn at hm
    split at hm
    ·split at hm
     ·rename_i hp
      split at hm
      ·rename_i hc
       cases hm
       simp only [Bool.and_eq_true] at hc
       exact ⟨id, l, is, rfl, his, hp, hc.1, hc.2⟩
      ·cases hm
     ·cases hm
    ·cases hm
  ·cases h
 case cond => split at h <;> cases h

theorem comp_regT {P : Program} {raws : List Nat} {c : Code} {last : Nat} {dt : DT} (h : comp P raws c = some (.regT last dt)) : ∃ id l is t, c = .region id l true ∧ opers P raws l l.toList = some is ∧ pickT is t = some dt ∧ P.follows .mixedOrders = true ∧ Region.noSelect l = true ∧ drawT l is t false (Array.replicate l.size false) = true := by
 cases c <;> simp only [comp, reduceCtorEq, snJ, Option.map_eq_some_iff, and_false, exists_false] at h
 case seq x y => split at h <;> cases h
 case region id l d =>
  split at h
  ·rename_i is his
   cases d
   ·simp only [Bool.false_eq_true, if_false, snJ] at h
    cases h
   ·simp only [if_true] at h
    split at h
    ·cases h
    ·split at h
     ·rename_i m hm
      cases h
      unfold drawnT at hm
      split at hm
      ·rename_i t _
       split at hm
       ·rename_i hp
        split at hm
        ·rename_i hc
         cases hm
         simp only [Bool.and_eq_true] at hc
         exact ⟨id, l, is, t, rfl, his, hp, hc.1, hc.2.1, hc.2.2⟩
        ·cases hm
       ·cases hm
      ·cases hm
     ·cases h
  ·cases h
 case cond => split at h <;> cases h

theorem VC.blk {id : Nat} (h : VC X k S) : VC X (.blk id :: k) S := h
def exitK (id : Nat) : List Fr → Option (List Fr)
 | [] => none
 | .blk i :: k => bif id == i then some k else exitK id k
 | .code _ :: k => exitK id k
 | .mid _ :: k => exitK id k
theorem exitK_wp {id : Nat} : ∀ {k k' : List Fr}, exitK id k = some k' → ∀ {a w}, wpK X k' .normal a w → wpK X k (.exit id) a w
 | .blk i :: k, k', h, a, w, hw => by
  simp only [exitK] at h
  by_cases hi : id = i
  ·subst hi
   simp only [beq_self_eq_true, cond_true, snJ] at h
   subst h
   simpa [wpK] using hw
  ·have : (id == i) = false := by simpa using hi
   rw [this] at h
   simp only [cond_false] at h
   simpa [wpK, hi] using exitK_wp h hw
 | .code _ :: k, k', h, a, w, hw => exitK_wp (k := k) h hw
 | .mid _ :: k, k', h, a, w, hw => exitK_wp (k := k) h hw
theorem VC.exit {id : Nat} {k' : List Fr} (hk : exitK id k = some k') (h : VC X k' S) : VC X (.code (.exit id) :: k) S := by
 intro ρ ac w hs c hc
 cases comp_exit hc
 exact wp_exit (exitK_wp hk (h ρ ac w hs))
theorem VC.mid {Post : St → Prop} (h : Post S) : VC X (.mid Post :: k) S := fun ρ a w hs => ⟨ρ, S, hs, h⟩
/-- Where ways meet again. -/
theorem VC.cut {c : IC} (Post : St → Prop) (h : VC X (.code c :: .mid Post :: k) S) (hk : ∀ S', Post S' → VC X k S') : VC X (.code c :: k) S := by
 intro ρ a w hs c' hc
 refine wp_mono (h ρ a w hs c' hc) ?_
 intro e a' w' hq
 cases e with
 | normal => obtain ⟨ρ', S', hs', hp⟩ := hq; exact hk S' hp ρ' a' w' hs'
 | exit id => exact hq
 | goto l => exact hq
 | ret => exact hq
 | panic ch => exact hq
 | outgrown => exact hq

/-! ### another spelling of a state -/
def S0.ren (θ : List Nat) : S0 → S0
 | .val v => .val v
 | .hd h n => .hd (θ.getD h 0) n
 | .own h => .own (θ.getD h 0)
 | .el h i sz n => .el (θ.getD h 0) i sz n
 | .opt c h n => .opt c (θ.getD h 0) n
 | .bsl k => .bsl (θ.getD k 0)
 | .prj k i j => .prj (θ.getD k 0) i j
 | .pel k i sz n => .pel (θ.getD k 0) i sz n
def SC.ren (θ : List Nat) : SC → SC
 | .o x => .o (x.ren θ)
 | .agg l => .agg (l.map (S0.ren θ))
def SV.ren (θ : List Nat) : SV → SV
 | .c x => .c (x.ren θ)
 | .tup l => .tup (l.map (SC.ren θ))
theorem S0.ren_den (θ : List Nat) (ρ : Nat → Value) (x : S0) : (x.ren θ).den ρ = x.den fun i => ρ (θ.getD i 0) := by cases x <;> rfl
theorem SC.ren_den (θ : List Nat) (ρ : Nat → Value) (x : SC) : (x.ren θ).den ρ = x.den fun i => ρ (θ.getD i 0) := by
 cases x with
 | o x => exact S0.ren_den θ ρ x
 | agg l => simp only [SC.ren, SC.den, List.map_map]; congr 2; exact List.map_congr_left fun y _ => S0.ren_den θ ρ y
theorem SV.ren_den (θ : List Nat) (ρ : Nat → Value) (x : SV) : (x.ren θ).den ρ = x.den fun i => ρ (θ.getD i 0) := by
 cases x with
 | c x => exact SC.ren_den θ ρ x
 | tup l => simp only [SV.ren, SV.den, List.map_map]; congr 2; exact List.map_congr_left fun y _ => SC.ren_den θ ρ y

/-- Equal, or the nil slice and the handle of a row without elements (handles from n to below m). -/
def eqS0 (n m : Nat) : S0 → S0 → Prop
 | .val (.slice none 0 0), .own h => (Nat.ble n h && Nat.blt h m) = true
 | x, y => x = y
def eqL (n m : Nat) : List S0 → List S0 → Prop
 | [], [] => True
 | x :: r, y :: s => eqS0 n m x y ∧ eqL n m r s
 | _, _ => False
def eqSC (n m : Nat) : SC → SC → Prop
 | .o x, .o y => eqS0 n m x y
 | .agg l, .agg l' => eqL n m l l'
 | _, _ => False
def eqSV (n m : Nat) : SV → SV → Prop
 | .c x, .c y => eqSC n m x y
 | x, y => x = y

/-- The slots of S' say no more than S says (its handles being those of S by θ). -/
def weakSl (S : St) (θ : List Nat) (n m : Nat) : List (Nat × Prop × SV) → Prop
 | [] => True
 | (i, cc, v) :: r => cc ∧ (match getE S.sl i with
  | some (c, u) => c ∧ eqSV S.hp.length m u (v.ren θ) ∧ v.ltB n = true
  | none => False) ∧ weakSl S θ n m r
def sameSB (θ : List Nat) (n k m : Nat) : SB → SB → Prop
 | _, .dead => True
 | .cells e l, .cells e' l' => e = e' ∧ eqL k m l (l'.map (S0.ren θ)) ∧ l'.all (S0.ltB n) = true
 | .row t e l, .row t' e' l' => e = e' ∧ (if h : t' = t then l = h ▸ l' else False)
 | .view t l, .view t' l' => if h : t' = t then l = h ▸ l' else False
 | .part h lo c z, .part h' lo' c' z' => (((h = θ.getD h' 0 ∧ lo = lo') ∧ c = c') ∧ z = z') ∧ h' < n ∧ h < k
 | _, _ => False
def weakHp (hp : List SB) (θ : List Nat) (n k m : Nat) : List Nat → List SB → Prop
 | [], [] => True
 | i :: r, sb :: s => (match hp[i]? with
  | some sb0 => sameSB θ n k m sb0 sb
  | none => False) ∧ weakHp hp θ n k m r s
 | _, _ => False
def nodupB : List Nat → Bool
 | [] => true
 | x :: r => !r.contains x && nodupB r
def nils : List (ET × Nat) → List SB
 | [] => []
 | (t, e) :: r => .row t e [] :: nils r

/-- S' says no more than S: handle i of S' is handle θ[i] of S; behind S's handles those of nil slices (ts: their kinds). -/
def Weak (n0 : Nat) (S S' : St) (θ : List Nat) (ts : List (ET × Nat)) : Prop :=
 nodupB θ = true ∧ (θ.take n0 == List.range n0) = true ∧ weakHp (S.hp ++ nils ts) θ S'.hp.length S.hp.length (S.hp.length + ts.length) θ S'.hp ∧ weakSl S θ S'.hp.length (S.hp.length + ts.length) S'.sl

theorem weakHp_spec {hp0 : List SB} {θ : List Nat} {n k m : Nat} : ∀ {l : List Nat} {hp : List SB}, weakHp hp0 θ n k m l hp → l.length = hp.length ∧ ∀ (j : Nat) (sb : SB), hp[j]? = some sb → ∃ i sb0, l[j]? = some i ∧ hp0[i]? = some sb0 ∧ sameSB θ n k m sb0 sb
 | [], [], _ => ⟨rfl, fun j sb h => by simp at h⟩
 | i :: r, sb :: s, h => by
  obtain ⟨h1, h2⟩ := h
  obtain ⟨h3, h4⟩ := weakHp_spec h2
  refine ⟨by simp [h3], fun j sb' hj => ?_⟩
  cases j with
  | zero =>
   simp at hj
   subst hj
   split at h1
   ·rename_i sb0 hsb
    exact ⟨i, sb0, rfl, hsb, h1⟩
   ·exact h1.elim
  | succ j => simpa using h4 j sb' (by simpa using hj)
 | [], _ :: _, h => h.elim
 | _ :: _, [], h => h.elim
theorem nodup_spec : ∀ {l : List Nat}, nodupB l = true → ∀ (i j x : Nat), l[i]? = some x → l[j]? = some x → i = j
 | [], _, i, j, x, hi, _ => by simp at hi
 | y :: r, h, i, j, x, hi, hj => by
  simp only [nodupB, Bool.and_eq_true, Bool.not_eq_true'] at h
  cases i <;> cases j
  ·rfl
  ·simp at hi hj
   subst hi
   have := List.mem_of_getElem? hj
   simp_all
  ·simp at hi hj
   subst hj
   have := List.mem_of_getElem? hi
   simp_all
  ·simp at hi hj
   rw [nodup_spec h.2 _ _ x hi hj]
theorem weakSl_spec {S : St} {θ : List Nat} {n m : Nat} : ∀ {l : List (Nat × Prop × SV)}, weakSl S θ n m l → ∀ (i : Nat) (c : Prop) (v : SV), getE l i = some (c, v) → ∃ c' u, getE S.sl i = some (c', u) ∧ eqSV S.hp.length m u (v.ren θ) ∧ c' ∧ v.lt n ∧ c
 | [], _, i, c, v, h => by simp [getE] at h
 | (j, c', v') :: r, h, i, c, v, hg => by
  obtain ⟨hcc, h1, h2⟩ := h
  simp only [getE] at hg
  by_cases hj : j = i
  ·subst hj
   simp only [beq_self_eq_true, cond_true, snJ, Prod.mk.injEq] at hg
   obtain ⟨rfl, rfl⟩ := hg
   split at h1
   ·rename_i c0 u hu
    obtain ⟨hc0, he, hlt⟩ := h1
    exact ⟨c0, u, hu, he, hc0, SV.lt_of hlt, hcc⟩
   ·exact h1.elim
  ·have : (j == i) = false := by simpa using hj
   rw [this] at hg
   exact weakSl_spec h2 i c v hg

/-- ρ, and nil behind it. -/
def nilρ (n : Nat) (ρ : Nat → Value) (i : Nat) : Value := if i < n then ρ i else .slice none 0 0
theorem nilρ_lt {n : Nat} {ρ : Nat → Value} : ∀ i < n, nilρ n ρ i = ρ i := fun i hi => by simp [nilρ, hi]
theorem eqS0_den {n m : Nat} {ρ : Nat → Value} {x y : S0} (h : eqS0 n m x y) (hx : x.lt n) : x.den ρ = y.den (nilρ n ρ) := by
 unfold eqS0 at h
 split at h
 ·rename_i hh
  simp only [Bool.and_eq_true, Nat.ble_eq] at h
  simp only [S0.den, nilρ, if_neg (Nat.not_lt.2 h.1)]
 ·subst h
  exact (S0.den_congr nilρ_lt hx).symm
theorem eqL_den {n m : Nat} {ρ : Nat → Value} : ∀ {l l' : List S0}, eqL n m l l' → (∀ x ∈ l, x.lt n) → l.map (S0.den ρ) = l'.map (S0.den (nilρ n ρ))
 | [], [], _, _ => rfl
 | x :: r, y :: s, h, hl => by
  simp only [List.map_cons]
  rw [eqS0_den h.1 (hl x (by simp)), eqL_den h.2 fun z hz => hl z (by simp [hz])]
 | [], _ :: _, h, _ => h.elim
 | _ :: _, [], h, _ => h.elim
theorem eqSV_den {n m : Nat} {ρ : Nat → Value} {x y : SV} (h : eqSV n m x y) (hx : x.lt n) : x.den ρ = y.den (nilρ n ρ) := by
 unfold eqSV at h
 split at h
 ·rename_i x y
  unfold eqSC at h
  split at h
  ·exact eqS0_den h hx
  ·simp only [SV.den, SC.den]
   rw [eqL_den h hx]
  ·exact h.elim
 ·subst h
  exact (SV.den_congr nilρ_lt hx).symm

theorem HpSat.withNils {X : Nat → Prop} {w0 w : World} {ρ : Nat → Value} {hp : List SB} (h : HpSat X w0 w ρ hp) : ∀ (ts : List (ET × Nat)), HpSat X w0 w (nilρ hp.length ρ) (hp ++ nils ts) := by
 have base : HpSat X w0 w (nilρ hp.length ρ) hp := by
  have := HpSat.init (rest := []) (by simpa using h) h.lt (ρ0 := nilρ hp.length ρ) fun i hi => (nilρ_lt i hi).symm
  exact this
 have one : ∀ (hp' : List SB), hp.length ≤ hp'.length → HpSat X w0 w (nilρ hp.length ρ) hp' → ∀ t e, HpSat X w0 w (nilρ hp.length ρ) (hp' ++ [.row t e []]) := by
  intro hp' hle h' t e
  have hv : nilρ hp.length ρ hp'.length = .slice none 0 0 := by simp [nilρ, Nat.not_lt.2 hle]
  refine h'.push (.row t e []) (fun _ _ => rfl) (fun k _ _ => rfl) (fun _ _ k _ _ _ => rfl) ?_ trivial (by rw [hv]; trivial) (fun _ b hb => by rw [hv] at hb; simp [fp, fp1] at hb)
  rw [hv]
  exact ⟨World.ownsRow_nil w 0 e t.sz, fun b hb => by simp [Value.ownBlock] at hb⟩
 intro ts
 suffices hg : ∀ (ts : List (ET × Nat)) (hp' : List SB), hp.length ≤ hp'.length → HpSat X w0 w (nilρ hp.length ρ) hp' → HpSat X w0 w (nilρ hp.length ρ) (hp' ++ nils ts) from hg ts hp (Nat.le_refl _) base
 intro ts
 induction ts with
 | nil => intro hp' _ h'; simpa [Eng.nils] using h'
 | cons x r ih =>
  obtain ⟨t, e⟩ := x
  intro hp' hle h'
  have := ih (hp' ++ [.row t e []]) (by simp; omega) (one hp' hle h' t e)
  simpa [Eng.nils] using this
theorem Weak.sat {E : Env} {S S' : St} {θ : List Nat} {ts : List (ET × Nat)} (h : Weak E.n0 S S' θ ts) {ρ : Nat → Value} {a : Act} {w : World} (hs : Sat E ρ S a w) : Sat E (fun i => nilρ S.hp.length ρ (θ.getD i 0)) S' a w := by
 obtain ⟨h1, h2, h3, h4⟩ := h
 obtain ⟨h5, h6⟩ := weakHp_spec h3
 have hx := hs.hp.withNils ts
 have hgetD : ∀ (j i : Nat), θ[j]? = some i → θ.getD j 0 = i := fun j i h => by simp [List.getD, h]
 have hsb : ∀ (j : Nat) (sb : SB), S'.hp[j]? = some sb → sb.sat E.X E.w0 w (fun i => nilρ S.hp.length ρ (θ.getD i 0)) (nilρ S.hp.length ρ (θ.getD j 0)) ∧ sb.lt S'.hp.length ∧ (sb.ex = true → ∃ sb0, (S.hp ++ nils ts)[θ.getD j 0]? = some sb0 ∧ sb0.ex = true) := by
  intro j sb hj
  obtain ⟨i, sb0, hi, hsb0, hsame⟩ := h6 j sb hj
  rw [hgetD j i hi]
  have hsat := hx.sat i sb0 hsb0
  cases sb with
  | dead => exact ⟨trivial, trivial, fun h => by cases h⟩
  | map m => cases sb0 <;> simp only [sameSB] at hsame
  | bag ks e l => cases sb0 <;> simp only [sameSB] at hsame
  | cells e l =>
   cases sb0 <;> simp only [sameSB] at hsame
   rename_i e0 l0
   obtain ⟨rfl, heq, hlt⟩ := hsame
   obtain ⟨b, hv, hb, hxx⟩ := hsat
   have hi0 : i < S.hp.length := by
    rcases Nat.lt_or_ge i S.hp.length with h' | h'
    ·exact h'
    ·exfalso
     rw [List.getElem?_append_right h'] at hsb0
     have : ∀ (ts : List (ET × Nat)) (k : Nat) (e : Nat) (l : List S0), (nils ts)[k]? ≠ some (.cells e l) := by
      intro ts
      induction ts with
      | nil => intro k e l h; simp [nils] at h
      | cons x r ih => intro k e l h; cases k <;> simp [nils] at h; exact ih _ _ _ h
     exact this _ _ _ _ hsb0
   have hl0 : ∀ x ∈ l0, x.lt S.hp.length := by
    rw [List.getElem?_append_left hi0] at hsb0
    exact hs.hp.lt i _ hsb0
   refine ⟨⟨b, hv, ?_, hxx⟩, fun y hy => S0.lt_of (List.all_eq_true.1 hlt y hy), fun _ => ⟨_, hsb0, rfl⟩⟩
   rw [hb]
   have e1 : l0.map (S0.den (nilρ S.hp.length ρ)) = l0.map (S0.den ρ) := List.map_congr_left fun y hy => S0.den_congr nilρ_lt (hl0 y hy)
   rw [e1, eqL_den heq hl0, List.map_map]
   congr 3
   exact List.map_congr_left fun y _ => S0.ren_den θ _ y
  | row t e l =>
   cases sb0 <;> simp only [sameSB] at hsame
   rename_i t0 e0 l0
   obtain ⟨rfl, hd⟩ := hsame
   split at hd
   ·rename_i ht
    subst ht
    simp only at hd
    subst hd
    exact ⟨hsat, trivial, fun _ => ⟨_, hsb0, rfl⟩⟩
   ·exact hd.elim
  | view t l =>
   cases sb0 <;> simp only [sameSB] at hsame
   rename_i t0 l0
   split at hsame
   ·rename_i ht
    subst ht
    simp only at hsame
    subst hsame
    exact ⟨hsat, trivial, fun h => by cases h⟩
   ·exact hsame.elim
  | part h' lo' c' z' =>
   cases sb0 <;> simp only [sameSB] at hsame
   obtain ⟨⟨⟨⟨rfl, rfl⟩, rfl⟩, rfl⟩, hlt, _⟩ := hsame
   exact ⟨hsat, hlt, fun h => by cases h⟩
 have hn0 : E.n0 ≤ θ.length ∧ ∀ i < E.n0, θ.getD i 0 = i := by
  have h2' : θ.take E.n0 = List.range E.n0 := by simpa using h2
  have hl0 : (θ.take E.n0).length = E.n0 := by rw [h2']; simp
  have hl : E.n0 ≤ θ.length := by rw [List.length_take] at hl0; omega
  refine ⟨hl, fun i hi => ?_⟩
  have : (θ.take E.n0)[i]? = some i := by rw [h2']; simp [hi]
  rw [List.getElem?_take] at this
  simp [hi] at this
  simp [List.getD, this]
 refine ⟨hs.nd, hs.sz, ?_, ⟨?_, fun j sb hj => (hsb j sb hj).1, fun j sb hj => (hsb j sb hj).2.1, ?_, hs.hp.tab⟩, hs.fr, by rw [← h5]; exact hn0.1, fun i hi => by
  rw [hn0.2 i hi, nilρ_lt i (Nat.lt_of_lt_of_le hi hs.n0)]; exact hs.ag i hi⟩
 ·intro i c v hg
  obtain ⟨c', u, hg', he, hc', hlt, hcc⟩ := weakSl_spec h4 i c v hg
  obtain ⟨e1, _, e3⟩ := hs.sl i c' _ hg'
  have := e1 hc'
  rw [eqSV_den he (e3 hc'), SV.ren_den] at this
  exact ⟨fun _ => this, fun hn => (hn hcc).elim, fun _ => hlt⟩
 ·intro j hj
  obtain ⟨i, sb0, hi, hsb0, _⟩ := h6 j _ (List.getElem?_eq_getElem hj)
  show isRef (nilρ S.hp.length ρ (θ.getD j 0))
  rw [hgetD j i hi]
  exact hx.ref i (List.getElem?_eq_some_iff.1 hsb0).1
 ·intro i j sb1 sb2 b hij hi hj e1 e2 f1 f2
  obtain ⟨i', sb1', hi', _, _⟩ := h6 i sb1 hi
  obtain ⟨j', sb2', hj', _, _⟩ := h6 j sb2 hj
  obtain ⟨s1, g1, x1⟩ := (hsb i sb1 hi).2.2 e1
  obtain ⟨s2, g2, x2⟩ := (hsb j sb2 hj).2.2 e2
  refine hx.apart _ _ s1 s2 b ?_ g1 g2 x1 x2 f1 f2
  rw [hgetD i i' hi', hgetD j j' hj']
  rintro rfl
  exact hij (nodup_spec h1 i j i' hi' hj')

theorem VC.weak {S' : St} (θ : List Nat) (ts : List (ET × Nat)) (h : Weak X.E.n0 S S' θ ts) (hv : VC X k S') : VC X k S := fun ρ a w hs => hv _ a w (h.sat hs)

/-- Where ways meet again, the state being one of Sx. -/
theorem VC.cutW {c : IC} {T : Type} (Sx : T → St) (C : T → Prop) (h : VC X (.code c :: .mid (fun S' => ∃ x θ ts, C x ∧ Weak X.E.n0 S' (Sx x) θ ts) :: k) S) (hk : ∀ x, C x → VC X k (Sx x)) : VC X (.code c :: k) S :=
 VC.cut _ h fun S' ⟨x, θ, ts, hC, hw⟩ => VC.weak θ ts hw (hk x hC)

/-- A loop: Sx: the states at its head; C: what holds of them; μ: what goes down. -/
theorem VC.loop {b : IC} {T : Type} (Sx : T → St) (C : T → Prop) (μ : T → Nat) (x0 : T) (θ : List Nat) (ts : List (ET × Nat)) (h0 : C x0) (hw : Weak X.E.n0 S (Sx x0) θ ts)
  (round : ∀ x, C x → VC X (.code b :: .mid (fun S' => ∃ x' θ' ts', C x' ∧ μ x' < μ x ∧ Weak X.E.n0 S' (Sx x') θ' ts') :: k) (Sx x)) : VC X (.code (.loop b) :: k) S := by
 intro ρ a w hs c hc
 obtain ⟨y, rfl, hy⟩ := comp_loop hc
 refine wp_loop_ghost (fun n a w => ∃ x ρ, μ x = n ∧ C x ∧ Sat X.E ρ (Sx x) a w) (μ x0) ⟨x0, _, rfl, h0, hw.sat hs⟩ ?_
 rintro n a w ⟨x, ρ, rfl, hC, hs⟩
 refine wp_mono (round x hC ρ a w hs y hy) ?_
 intro e a' w' hq
 cases e with
 | normal =>
  obtain ⟨ρ', S', hs', x', θ', ts', hC', hlt, hweak⟩ := hq
  exact ⟨μ x', hlt, x', _, rfl, hC', hweak.sat hs'⟩
 | exit id => exact hq
 | goto l => exact hq
 | ret => exact hq
 | panic ch => exact hq
 | outgrown => exact hq
end
end Go.Eng
