/-
 How the heap's meaning is carried from world to world. No program.
-/
import Derived.Test.YtekkjbomadoplaaDoorEngS
import Derived.Laws.CopyRow
import Derived.Laws.Cells
namespace Go.Eng
set_option linter.unusedVariables false
set_option linter.unusedSimpArgs false

def Same (w w' : World) (k : Nat) : Prop := w'.heap[k]? = w.heap[k]?

theorem Same.cell {w w' : World} {a : Addr} (h : Same w w' a.block) : w'.cell? a = w.cell? a := World.cell?_of_block h

theorem fp_own {v : Value} {k : Nat} (h : v.ownBlock = some k) : k ∈ fp v := by
 cases v <;> simp only [Value.ownBlock, reduceCtorEq] at h
 rename_i a _ _
 cases a <;> simp_all [Value.ownBlock, fp, fp1]
/-- Where a map's block is as it was, it is the same map. -/
theorem MapAt.keep {X : Nat → Prop} {w0 w w' : World} {v : Value} : ∀ {m : MapC}, MapAt X w0 w v m → (∀ k, fp1 v = some k → Same w w' k) → MapAt X w0 w' v m
 | none, h, _ => h
 | some m, ⟨b, es, c, hv, hb, he, hx⟩, hk => ⟨b, es, c, hv, (hk b (by rw [hv]; rfl)).trans hb, he, hx⟩
theorem RefsOK.keep {X : Nat → Prop} {w0 w w' : World} : ∀ {ks : List NK} {x : NT ks} {vs : List Value}, RefsOK X w0 w ks x vs → (∀ k ∈ vs.filterMap fp1, Same w w' k) → RefsOK X w0 w' ks x vs
 | [], _, _, h, _ => h
 | .int _ :: r, x, _, h, hk => RefsOK.keep (ks := r) (x := x.2) h hk
 | .bool :: r, x, _, h, hk => RefsOK.keep (ks := r) (x := x.2) h hk
 | .str :: r, x, _, h, hk => RefsOK.keep (ks := r) (x := x.2) h hk
 | .map :: r, x, _, ⟨v, vs', rfl, h1, h2⟩, hk => by
  refine ⟨v, vs', rfl, h1.keep fun k hf => hk k ?_, RefsOK.keep (ks := r) (x := x.2) h2 fun k hf => hk k ?_⟩
  ·simp only [List.filterMap_cons, hf, List.mem_cons, true_or]
  ·simp only [List.filterMap_cons]
   split
   ·exact hf
   ·exact List.mem_cons.2 (.inr hf)
theorem RefsAll.keep {X : Nat → Prop} {w0 w w' : World} {ks : List NK} : ∀ {l : List (NT ks)} {rs : List (List Value)}, RefsAll X w0 w ks l rs → (∀ k ∈ rs.flatMap (fun r => r.filterMap fp1), Same w w' k) → RefsAll X w0 w' ks l rs
 | [], [], h, _ => trivial
 | x :: l, r :: rs, h, hk => ⟨h.1.keep fun k hf => hk k (by simp only [List.flatMap_cons, List.mem_append]; exact .inl hf), RefsAll.keep h.2 fun k hf => hk k (by simp only [List.flatMap_cons, List.mem_append]; exact .inr hf)⟩
 | [], _ :: _, h, _ => h.elim
 | _ :: _, [], h, _ => h.elim
theorem fpI_own {v : Value} {k : Nat} (h : v.ownBlock = some k) : k ∈ fpI v := by
 cases v <;> simp only [Value.ownBlock, reduceCtorEq] at h
 rename_i a _ _
 cases a <;> simp_all [Value.ownBlock, fpI, fp1]
theorem BagOK.keep {X : Nat → Prop} {w0 w w' : World} {ks : List NK} {e : Nat} {l : List (NT ks)} {u : Value} {rs : List (List Value)} (h : BagOK X w0 w ks e l u rs) (hk : ∀ k ∈ fp (bagV u rs), Same w w' k)
  (hs : ∀ {n : Nat} {v : Value} {xs : List Value}, w.ownsRow 0 e ks.length v n xs → (∀ k, v.ownBlock = some k → Same w w' k) → w'.ownsRow 0 e ks.length v n xs) : BagOK X w0 w' ks e l u rs := by
 rw [fp_bag] at hk
 exact ⟨hs h.row fun k hf => hk k (List.mem_append.2 (.inl (fpI_own hf))), h.excl, h.refs.keep fun k hf => hk k (List.mem_append.2 (.inr hf)), h.uniq, h.alone, h.pos⟩

theorem ownsRow_same {w w' : World} {e size n : Nat} {v : Value} {xs : List Value} (h : w.ownsRow 0 e size v n xs) (hk : ∀ k, v.ownBlock = some k → Same w w' k) : w'.ownsRow 0 e size v n xs := by
 refine ⟨h.1, ?_⟩
 rcases h.2 with hn | ⟨g, cap, cur, rfl, hb, hg, rest⟩
 ·exact .inl hn
 ·exact .inr ⟨g, cap, cur, rfl, hb, (hk g rfl).trans hg, rest⟩

theorem SB.sat_keep {X : Nat → Prop} {w0 w w' : World} {ρ : Nat → Value} {v : Value} {sb : SB} (h : sb.sat X w0 w ρ v)
  (hv : ∀ k, k < w0.heap.size → ¬ X k → Same w w' k) (hl : sb.ex = true → ∀ k, k ∈ fp v → Same w w' k) : sb.sat X w0 w' ρ v := by
 cases sb with
 | cells e l =>
  obtain ⟨b, rfl, hb, hx⟩ := h
  exact ⟨b, rfl, (hl rfl b (List.mem_singleton.2 rfl)).trans hb, hx⟩
 | row t e l =>
  obtain ⟨h1, h2⟩ := h
  exact ⟨ownsRow_same h1 fun k hk => hl rfl k (fp_own hk), h2⟩
 | view t l =>
  obtain ⟨a, cap, rfl, hcap, h1⟩ := h
  refine ⟨a, cap, rfl, hcap, fun j u hu => ?_⟩
  obtain ⟨ad, had, h2, h3, h4⟩ := h1 j u hu
  refine ⟨ad, had, ?_, h3, h4⟩
  rw [Same.cell (w := w) (a := ad.add j)]
  ·exact h2
  ·have : (ad.add j).block = ad.block := by unfold Addr.add; split <;> rfl
   rw [this]
   exact hv _ h3 h4
 | part k lo n sz => exact h
 | map m => exact MapAt.keep h fun k hk => hl rfl k (by
   cases v <;> simp only [fp1, reduceCtorEq] at hk <;> simp_all [fp, fp1])
 | bag ks e l =>
  obtain ⟨u, rs, rfl, h1⟩ := h
  exact ⟨u, rs, rfl, h1.keep (hl rfl) ownsRow_same⟩
 | dead => trivial

theorem SB.sat_ren {X : Nat → Prop} {w0 w : World} {ρ ρ' : Nat → Value} {v : Value} {sb : SB} {n : Nat} (h : sb.sat X w0 w ρ v) (hlt : sb.lt n) (hr : ∀ i < n, ρ' i = ρ i) : sb.sat X w0 w ρ' v := by
 cases sb with
 | cells e l =>
  obtain ⟨b, hv, hb, hx⟩ := h
  refine ⟨b, hv, ?_, hx⟩
  rw [hb, show l.map (S0.den ρ') = l.map (S0.den ρ) from List.map_congr_left fun y hy => S0.den_congr hr (hlt y hy)]
 | row t e l => exact h
 | view t l => exact h
 | part k lo n sz => exact (show PartAt (ρ' k) v lo n sz from by rw [hr k hlt]; exact h)
 | map m => exact h
 | bag ks e l => exact h
 | dead => trivial

theorem Stays.keep {X : Nat → Prop} {w0 w w' : World} (h : Stays X w0 w) (ho : w'.os = w.os) (hu : w'.output = w.output) (hs : w.heap.size ≤ w'.heap.size)
  (hk : ∀ k, k < w0.heap.size → ¬ X k → Same w w' k) : Stays X w0 w' :=
 ⟨ho.trans h.os, hu.trans h.output, Nat.le_trans h.size hs, fun k h1 h2 => (hk k h1 h2).trans (h.block k h1 h2)⟩

/-- A block more. -/
theorem HpSat.push {X : Nat → Prop} {w0 w w' : World} {ρ ρ' : Nat → Value} {hp : List SB} (h : HpSat X w0 w ρ hp) (sb : SB)
  (hr : ∀ i < hp.length, ρ' i = ρ i)
  (hv : ∀ k, k < w0.heap.size → ¬ X k → Same w w' k)
  (hl : ∀ (i : Nat) (sb : SB) (k : Nat), hp[i]? = some sb → sb.ex = true → k ∈ fp (ρ i) → Same w w' k)
  (hsat : sb.sat X w0 w' ρ' (ρ' hp.length)) (hlt : sb.lt (hp.length + 1))
  (href : isRef (ρ' hp.length))
  (hnew : sb.ex = true → ∀ b, b ∈ fp (ρ' hp.length) → ∀ (i : Nat) (sb' : SB), hp[i]? = some sb' → sb'.ex = true → ¬ b ∈ fp (ρ i)) :
  HpSat X w0 w' ρ' (hp ++ [sb]) := by
 have key : ∀ (i : Nat) (sb' : SB), (hp ++ [sb])[i]? = some sb' → (i < hp.length ∧ hp[i]? = some sb') ∨ (i = hp.length ∧ sb' = sb) := by
  intro i sb' hi
  by_cases hlt : i < hp.length
  ·rw [List.getElem?_append_left hlt] at hi
   exact .inl ⟨hlt, hi⟩
  ·rw [List.getElem?_append_right (by omega)] at hi
   by_cases h0 : i - hp.length = 0
   ·rw [h0] at hi
    simp at hi
    exact .inr ⟨by omega, hi.symm⟩
   ·rw [List.getElem?_eq_none (by simp; omega)] at hi
    cases hi
 refine ⟨fun i hi => ?_, fun i sb' hi => ?_, fun i sb' hi => ?_, ?_, h.tab⟩
 ·simp at hi
  by_cases h0 : i = hp.length
  ·subst h0; exact href
  ·rw [hr i (by omega)]; exact h.ref i (by omega)
 ·rcases key i sb' hi with ⟨h1, h2⟩ | ⟨rfl, rfl⟩
  ·rw [hr i h1]
   exact SB.sat_ren (SB.sat_keep (h.sat i sb' h2) hv fun hx k hk => hl i sb' k h2 hx hk) (h.lt i sb' h2) hr
  ·exact hsat
 ·rcases key i sb' hi with ⟨h1, h2⟩ | ⟨rfl, rfl⟩
  ·exact SB.lt_mono (by simp) (h.lt i sb' h2)
  ·simpa using hlt
 ·intro i j sb1 sb2 b hij hi hj e1 e2 f1 f2
  rcases key i sb1 hi with ⟨h1, h2⟩ | ⟨rfl, rfl⟩ <;> rcases key j sb2 hj with ⟨h3, h4⟩ | ⟨rfl, rfl⟩
  ·rw [hr i h1] at f1
   rw [hr j h3] at f2
   exact h.apart i j sb1 sb2 b hij h2 h4 e1 e2 f1 f2
  ·rw [hr i h1] at f1
   exact hnew e2 b f2 i sb1 h2 e1 f1
  ·rw [hr j h3] at f2
   exact hnew e1 b f1 j sb2 h4 e2 f2
  ·exact hij rfl

/-- One block turned. -/
theorem HpSat.turn {X : Nat → Prop} {w0 w w' : World} {ρ : Nat → Value} {hp : List SB} (h : HpSat X w0 w ρ hp) (i : Nat) (old sb : SB) (hi : hp[i]? = some old) (hox : sb.ex = true → old.ex = true)
  (hv : ∀ k, k < w0.heap.size → ¬ X k → Same w w' k)
  (hl : ∀ (j : Nat) (sb : SB) (k : Nat), j ≠ i → hp[j]? = some sb → sb.ex = true → k ∈ fp (ρ j) → Same w w' k)
  (hsat : sb.sat X w0 w' ρ (ρ i)) (hlt : sb.lt hp.length) : HpSat X w0 w' ρ (hp.set i sb) := by
 have hlen : i < hp.length := by
  rcases Nat.lt_or_ge i hp.length with h' | h'
  ·exact h'
  ·rw [List.getElem?_eq_none h'] at hi; cases hi
 have key : ∀ (j : Nat) (sb' : SB), (hp.set i sb)[j]? = some sb' → (j ≠ i ∧ hp[j]? = some sb') ∨ (j = i ∧ sb' = sb) := by
  intro j sb' hj
  by_cases hji : j = i
  ·subst hji
   rw [List.getElem?_set_self hlen] at hj
   exact .inr ⟨rfl, by simpa using hj.symm⟩
  ·rw [List.getElem?_set_ne (Ne.symm hji)] at hj
   exact .inl ⟨hji, hj⟩
 refine ⟨fun j hj => h.ref j (by simpa using hj), fun j sb' hj => ?_, fun j sb' hj => ?_, ?_, h.tab⟩
 ·rcases key j sb' hj with ⟨h1, h2⟩ | ⟨rfl, rfl⟩
  ·exact SB.sat_keep (h.sat j sb' h2) hv fun hx k hk => hl j sb' k h1 h2 hx hk
  ·exact hsat
 ·rw [List.length_set]
  rcases key j sb' hj with ⟨h1, h2⟩ | ⟨rfl, rfl⟩
  ·exact h.lt j sb' h2
  ·exact hlt
 ·intro j k sb1 sb2 b hjk hj hk e1 e2 f1 f2
  rcases key j sb1 hj with ⟨h1, h2⟩ | ⟨rfl, rfl⟩ <;> rcases key k sb2 hk with ⟨h3, h4⟩ | ⟨rfl, rfl⟩
  ·exact h.apart j k sb1 sb2 b hjk h2 h4 e1 e2 f1 f2
  ·exact h.apart j k sb1 old b hjk h2 hi e1 (hox e2) f1 f2
  ·exact h.apart j k old sb2 b hjk hi h4 (hox e1) e2 f1 f2
  ·exact hjk rfl

theorem Same.alloc {w : World} {o : Obj} {k : Nat} (h : k < w.heap.size) : Same w (w.alloc o) k := by
 show (w.heap.push o)[k]? = w.heap[k]?
 rw [Array.getElem?_push, if_neg (by omega)]

theorem MapAt.fp_lt {X : Nat → Prop} {w0 w : World} {v : Value} {k : Nat} : ∀ {m : MapC}, MapAt X w0 w v m → fp1 v = some k → k < w.heap.size ∧ Excl X w0 k
 | none, h, hk => by rw [h] at hk; cases hk
 | some m, ⟨b, es, c, hv, hb, _, hx⟩, hk => by
  rw [hv] at hk
  cases hk
  exact ⟨(Array.getElem?_eq_some_iff.1 hb).1, hx⟩
theorem RefsOK.fp_lt {X : Nat → Prop} {w0 w : World} {k : Nat} : ∀ {ks : List NK} {x : NT ks} {vs : List Value}, RefsOK X w0 w ks x vs → k ∈ vs.filterMap fp1 → k < w.heap.size ∧ Excl X w0 k
 | [], _, _, h, hk => by
  simp only [RefsOK] at h
  subst h
  simp at hk
 | .int _ :: r, x, _, h, hk => RefsOK.fp_lt (ks := r) (x := x.2) h hk
 | .bool :: r, x, _, h, hk => RefsOK.fp_lt (ks := r) (x := x.2) h hk
 | .str :: r, x, _, h, hk => RefsOK.fp_lt (ks := r) (x := x.2) h hk
 | .map :: r, x, _, ⟨v, vs', rfl, h1, h2⟩, hk => by
  simp only [List.filterMap_cons] at hk
  split at hk
  ·exact RefsOK.fp_lt (ks := r) (x := x.2) h2 hk
  ·rename_i b hb
   rcases List.mem_cons.1 hk with rfl | hk
   ·exact h1.fp_lt hb
   ·exact RefsOK.fp_lt (ks := r) (x := x.2) h2 hk
theorem RefsAll.fp_lt {X : Nat → Prop} {w0 w : World} {k : Nat} {ks : List NK} : ∀ {l : List (NT ks)} {rs : List (List Value)}, RefsAll X w0 w ks l rs → k ∈ rs.flatMap (fun r => r.filterMap fp1) → k < w.heap.size ∧ Excl X w0 k
 | [], [], h, hk => by simp at hk
 | x :: l, r :: rs, h, hk => by
  simp only [List.flatMap_cons, List.mem_append] at hk
  rcases hk with hk | hk
  ·exact h.1.fp_lt hk
  ·exact RefsAll.fp_lt h.2 hk
 | [], _ :: _, h, _ => h.elim
 | _ :: _, [], h, _ => h.elim
theorem BagOK.fp_lt {X : Nat → Prop} {w0 w : World} {ks : List NK} {e : Nat} {l : List (NT ks)} {u : Value} {rs : List (List Value)} {k : Nat} (h : BagOK X w0 w ks e l u rs) (hk : k ∈ fp (bagV u rs)) : k < w.heap.size ∧ Excl X w0 k := by
 rw [fp_bag, List.mem_append] at hk
 rcases hk with hk | hk
 ·rcases h.row.2 with ⟨hv, _⟩ | ⟨g, cap, cur, hv, _, hg, _⟩
  ·rw [hv] at hk; simp [fpI, fp1] at hk
  ·have := h.excl g (by rw [hv]; rfl)
   rw [hv] at hk
   simp only [fpI, fp1, Option.toList_some, List.mem_singleton] at hk
   subst hk
   exact ⟨(Array.getElem?_eq_some_iff.1 hg).1, this⟩
 ·exact h.refs.fp_lt hk
theorem HpSat.fp_lt {X : Nat → Prop} {w0 w : World} {ρ : Nat → Value} {hp : List SB} (h : HpSat X w0 w ρ hp) {i : Nat} {sb : SB} {k : Nat} (hi : hp[i]? = some sb) (hx : sb.ex = true) (hk : k ∈ fp (ρ i)) : k < w.heap.size ∧ Excl X w0 k := by
 have hs := h.sat i sb hi
 cases sb with
 | cells e l =>
  obtain ⟨b, hv, hb, hx⟩ := hs
  rw [hv] at hk
  simp only [fp, fp1, Option.toList_some, List.mem_singleton] at hk
  subst hk
  exact ⟨(Array.getElem?_eq_some_iff.1 hb).1, hx⟩
 | row t e l =>
  obtain ⟨h1, h2⟩ := hs
  rcases h1.2 with ⟨hv, _⟩ | ⟨g, cap, cur, hv, _, hg, _⟩
  ·rw [hv] at hk; simp [fp, fp1] at hk
  ·rw [hv] at hk
   simp only [fp, fp1, Option.toList_some, List.mem_singleton] at hk
   subst hk
   exact ⟨(Array.getElem?_eq_some_iff.1 hg).1, h2 _ (by rw [hv]; rfl)⟩
 | map m =>
  cases m with
  | none =>
   have hv : ρ i = .map none := hs
   rw [hv] at hk
   simp [fp, fp1] at hk
  | some m =>
   obtain ⟨b, es, c, hv, hb, _, hx⟩ := hs
   rw [hv] at hk
   simp only [fp, fp1, Option.toList_some, List.mem_singleton] at hk
   subst hk
   exact ⟨(Array.getElem?_eq_some_iff.1 hb).1, hx⟩
 | bag ks e l =>
  obtain ⟨u, rs, hv, h1⟩ := hs
  rw [hv] at hk
  exact h1.fp_lt hk
 | view t l => cases hx
 | part k lo n sz => cases hx
 | dead => cases hx

/-- A new block of the call's own. -/
theorem HpSat.alloc {X : Nat → Prop} {w0 w : World} {ρ : Nat → Value} {hp : List SB} (h : HpSat X w0 w ρ hp) (hf : Stays X w0 w) (o : Obj) (sb : SB) (v : Value)
  (hfp : fp v = [w.heap.size]) (hsat : ∀ ρ', (∀ i < hp.length, ρ' i = ρ i) → ρ' hp.length = v → sb.sat X w0 (w.alloc o) ρ' v) (hlt : sb.lt (hp.length + 1)) (href : isRef v) :
  ∃ ρ', (∀ i < hp.length, ρ' i = ρ i) ∧ ρ' hp.length = v ∧ HpSat X w0 (w.alloc o) ρ' (hp ++ [sb]) := by
 have hr : ∀ i < hp.length, (fun i => if i = hp.length then v else ρ i) i = ρ i := fun i hi => by
  have : ¬ i = hp.length := by omega
  simp [this]
 refine ⟨fun i => if i = hp.length then v else ρ i, hr, by simp, ?_⟩
 refine h.push sb hr (fun k h1 _ => Same.alloc (Nat.lt_of_lt_of_le h1 hf.size)) (fun i sb' k hi hx hk => Same.alloc (h.fp_lt hi hx hk).1) ?_ hlt (by simpa using href) ?_
 ·have := hsat _ hr (by simp)
  simpa using this
 ·intro _ b hb i sb' hi hx hk
  simp only [if_true] at hb
  rw [hfp] at hb
  have := (h.fp_lt hi hx hk).1
  simp at hb
  omega

theorem Stays.alloc {X : Nat → Prop} {w0 w : World} (h : Stays X w0 w) (o : Obj) : Stays X w0 (w.alloc o) :=
 h.keep rfl rfl (by simp) fun k h1 _ => Same.alloc (Nat.lt_of_lt_of_le h1 h.size)

theorem same_setRow {w : World} {g k : Nat} {cs : Array Value} (h : g ≠ k) : Same w (w.setRow g cs) k := setRow_other w g k cs (Ne.symm h)

theorem Stays.setRow {X : Nat → Prop} {w0 w : World} (h : Stays X w0 w) {g : Nat} (hx : Excl X w0 g) (cs : Array Value) : Stays X w0 (w.setRow g cs) :=
 h.keep rfl rfl (by simp) fun k h1 h2 => same_setRow fun e => by
  subst e
  rcases hx with hx | hx
  ·omega
  ·exact h2 hx

/-- A live block written over. -/
theorem HpSat.setRow {X : Nat → Prop} {w0 w : World} {ρ : Nat → Value} {hp : List SB} (h : HpSat X w0 w ρ hp) {i : Nat} {old : SB} (sb : SB) {g : Nat} {cs : Array Value} (hi : hp[i]? = some old) (hox : old.ex = true)
  (hg : fp (ρ i) = [g]) (hsat : sb.sat X w0 (w.setRow g cs) ρ (ρ i)) (hlt : sb.lt hp.length) : HpSat X w0 (w.setRow g cs) ρ (hp.set i sb) := by
 have hgm : g ∈ fp (ρ i) := by rw [hg]; exact List.mem_singleton.2 rfl
 have hx := (h.fp_lt hi hox hgm).2
 refine h.turn i old sb hi (fun _ => hox) (fun k h1 h2 => same_setRow fun e => ?_) (fun j sb' k hj hjs hx' hk => same_setRow fun e => ?_) hsat hlt
 ·subst e
  rcases hx with hx | hx
  ·omega
  ·exact h2 hx
 ·subst e
  exact h.apart j i sb' old g hj hjs hi hx' hox hk hgm

/-- A row is no longer looked at. -/
theorem HpSat.kill {X : Nat → Prop} {w0 w : World} {ρ : Nat → Value} {hp : List SB} (h : HpSat X w0 w ρ hp) (i : Nat) : HpSat X w0 w ρ (hp.set i .dead) := by
 by_cases hlen : i < hp.length
 ·refine h.turn i (hp[i]) .dead (by simp [hlen]) (fun e => by cases e) (fun k _ _ => rfl) (fun _ _ k _ _ _ _ => rfl) trivial trivial
 ·rw [List.set_eq_of_length_le (by omega)]
  exact h

end Go.Eng
