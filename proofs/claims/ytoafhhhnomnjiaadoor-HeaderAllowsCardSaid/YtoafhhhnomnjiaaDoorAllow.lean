/-
  header.Allow and the document's Allow: one answer.
-/
import Derived.Test.YtoafhhhnomnjiaaDoorAlg
import Derived.Test.YtoafhhhnomnjiaaDoorLent
import Derived.Deep.RegionWith
import Derived.Deep.RegionHeld3
namespace Go.Proofs.YtoafhhhnomnjiaaDoor
open Go.RowKit

def typOk (ht : Bool) (typ : ByteArray) (hht : Bool) (htyp : ByteArray) : Int := if ht && (!hht || !sEq htyp typ) then 113 else 0
def allowS (algs : List ByteArray) (ht : Bool) (typ : ByteArray) (alg : Int) (hht : Bool) (htyp : ByteArray) : Int :=
  if sEq (nameOf alg) (bs []) || !hasS algs (nameOf alg) then 112 else typOk ht typ hht htyp

theorem below2 (w : World) (o1 o2 : Obj) : Below w.heap.size w ((w.alloc o1).alloc o2) := ((Below.refl _ _).alloc (Nat.le_refl _) _).alloc (by simp) _

attribute [local go_sem] toList_beq toList_beq_cons cons_beq_toList toList_isEmpty
set_option maxRecDepth 100000 in
set_option maxHeartbeats 1000000 in
theorem header_Allow (A : Option Addr) (n c B : Nat) (algs : List ByteArray) (iss aud typ kid htyp : ByteArray) (hi ha ht hht : Bool) (lee alg : Int) (need : Value) (w : World)
    (hneed : ∃ a2 n2 c2, need = .slice a2 n2 c2)
    (hr : Strs w B A n algs) (hB : B ≤ w.heap.size) (hn : n ≤ 9000000000000) (hal : alg ≤ 9223372036854775807) (hT : NamesTab w) :
    Calls Tryd.prog 14 #[.agg #[.slice A n c, .string iss, .bool hi, .string aud, .bool ha, .string typ, .bool ht, .int .i64 lee, need], .agg #[.int .i64 alg, .string kid, .string htyp, .bool hht]] w
      fun e w' => e = .returned (.int .i64 (allowS algs ht typ alg hht htyp)) ∧ Below w.heap.size w w' := by
  obtain ⟨a2, n2, c2, rfl⟩ := hneed
  have Hr := Lib.hid hr
  have HT := Lib.hid hT
  clear hr hT
  obtain ⟨q, hq⟩ : ∃ q, q = nameOf alg := ⟨_, rfl⟩
  have Ha : Hid (allowS algs ht typ alg hht htyp = if sEq q (bs []) || !hasS algs q then 112 else typOk ht typ hht htyp) := by unfold allowS; rw [hq]; rfl
  have Hq := Lib.hid hq
  clear hq
  cases h1 : sEq q (bs [])
  · cases h2 : hasS algs q
    · have Hf : Hid (allowS algs ht typ alg hht htyp = 112) := by have h := Ha.out; rw [h1, h2] at h; exact h
      clear Ha
      go_enter Tryd.func14, Tryd.ntmps14
      go_wp2_with fail
      refine (keyset_Name alg _ hal (HT.out.below (below2 _ _ _))).mono ?_
      rw [← Hq.out]
      rintro e w' ⟨rfl, rfl⟩
      go_wp2_with fail
      refine (slices_Contains A n c B algs q _ (Hr.out.all (below2 _ _ _) hB) hn).mono ?_
      rintro e w' ⟨rfl, rfl⟩
      rw [h2]
      go_wp2_with fail
      go_ret
      exact ⟨by rw [Hf.out]; rfl, below2 _ _ _⟩
    · cases ht
      · have Hf : Hid (allowS algs false typ alg hht htyp = 0) := by have h := Ha.out; rw [h1, h2] at h; exact h
        clear Ha
        go_enter Tryd.func14, Tryd.ntmps14
        go_wp2_with fail
        refine (keyset_Name alg _ hal (HT.out.below (below2 _ _ _))).mono ?_
        rw [← Hq.out]
        rintro e w' ⟨rfl, rfl⟩
        go_wp2_with fail
        refine (slices_Contains A n c B algs q _ (Hr.out.all (below2 _ _ _) hB) hn).mono ?_
        rintro e w' ⟨rfl, rfl⟩
        rw [h2]
        go_wp2_with fail
        go_ret
        exact ⟨by rw [Hf.out]; rfl, below2 _ _ _⟩
      · cases h3 : (!hht || !sEq htyp typ)
        · have Hf : Hid (allowS algs true typ alg hht htyp = 0) := by have h := Ha.out; rw [h1, h2] at h; unfold typOk at h; rw [h3] at h; exact h
          clear Ha
          have h4 : hht = true := by cases hht <;> simp_all
          have h5 : sEq htyp typ = true := by cases hht <;> simp_all
          clear h3
          subst h4
          go_enter Tryd.func14, Tryd.ntmps14
          go_wp2_with fail
          refine (keyset_Name alg _ hal (HT.out.below (below2 _ _ _))).mono ?_
          rw [← Hq.out]
          rintro e w' ⟨rfl, rfl⟩
          go_wp2_with fail
          refine (slices_Contains A n c B algs q _ (Hr.out.all (below2 _ _ _) hB) hn).mono ?_
          rintro e w' ⟨rfl, rfl⟩
          rw [h2]
          go_wp2_with fail
          go_ret
          exact ⟨by rw [Hf.out]; rfl, below2 _ _ _⟩
        · have Hf : Hid (allowS algs true typ alg hht htyp = 113) := by have h := Ha.out; rw [h1, h2] at h; unfold typOk at h; rw [h3] at h; exact h
          clear Ha
          have h4 : hht = false ∨ (hht = true ∧ sEq htyp typ = false) := by cases hht <;> simp_all
          clear h3
          rcases h4 with h4 | ⟨h4, h5⟩
          all_goals
            subst h4
            go_enter Tryd.func14, Tryd.ntmps14
            go_wp2_with fail
            refine (keyset_Name alg _ hal (HT.out.below (below2 _ _ _))).mono ?_
            rw [← Hq.out]
            rintro e w' ⟨rfl, rfl⟩
            go_wp2_with fail
            refine (slices_Contains A n c B algs q _ (Hr.out.all (below2 _ _ _) hB) hn).mono ?_
            rintro e w' ⟨rfl, rfl⟩
            rw [h2]
            go_wp2_with fail
            go_ret
            exact ⟨by rw [Hf.out]; rfl, below2 _ _ _⟩
  · have Hf : Hid (allowS algs ht typ alg hht htyp = 112) := by have h := Ha.out; rw [h1] at h; exact h
    clear Ha
    go_enter Tryd.func14, Tryd.ntmps14
    go_wp2_with fail
    refine (keyset_Name alg _ hal (HT.out.below (below2 _ _ _))).mono ?_
    rw [← Hq.out]
    rintro e w' ⟨rfl, rfl⟩
    go_wp2_with fail
    go_ret
    exact ⟨by rw [Hf.out]; rfl, below2 _ _ _⟩

/-- Listed among the first k. -/
def listedTo (algs : List ByteArray) (q : ByteArray) (k : Nat) : Bool := (algs.take k).any fun x => sEq x q && !sEq x (bs [])
theorem listed_succ (algs : List ByteArray) (q : ByteArray) (k : Nat) (h : k < algs.length) : listedTo algs q (k + 1) = (listedTo algs q k || (sEq algs[k] q && !sEq algs[k] (bs []))) := by
  unfold listedTo
  rw [take_snoc algs k h, List.any_append]
  simp
theorem listed_all (algs : List ByteArray) (q : ByteArray) : listedTo algs q algs.length = (hasS algs q && !sEq q (bs [])) := by
  unfold listedTo hasS
  rw [List.take_length]
  induction algs with
  | nil => rfl
  | cons x l ih =>
    simp only [List.any_cons, ih]
    by_cases h : x = q
    · subst h
      simp only [sEq_self, Bool.true_and, Bool.true_or]
      cases sEq x (bs []) <;> simp
    · have h1 : sEq x q = false := sEq_not.2 h
      have h2 : sEq q x = false := sEq_not.2 (Ne.symm h)
      simp [h1, h2]

set_option maxRecDepth 100000 in
set_option maxHeartbeats 1000000 in
theorem ref_Allow (A : Option Addr) (n c B : Nat) (algs : List ByteArray) (iss aud typ kid htyp : ByteArray) (hi ha ht hht : Bool) (lee alg : Int) (need : Value) (w : World)
    (hneed : ∃ a2 n2 c2, need = .slice a2 n2 c2)
    (hr : Strs w B A n algs) (hB : B ≤ w.heap.size) (hn : n ≤ 9000000000000) (hal : alg ≤ 9223372036854775807) :
    Calls Tryd.prog 15 #[.agg #[.slice A n c, .string iss, .bool hi, .string aud, .bool ha, .string typ, .bool ht, .int .i64 lee, need], .agg #[.int .i64 alg, .string kid, .string htyp, .bool hht]] w
      fun e w' => e = .returned (.int .i64 (allowS algs ht typ alg hht htyp)) ∧ Below w.heap.size w w' := by
  obtain ⟨a2, n2, c2, rfl⟩ := hneed
  have hlen : algs.length = n := by simpa using hr.1
  have Hl := Lib.hid hlen
  clear hlen
  obtain ⟨W2, hW2⟩ : ∃ W2, W2 = (w.alloc (.cells #[.slice A n c, .string iss, .bool hi, .string aud, .bool ha, .string typ, .bool ht, .int .i64 lee, .slice a2 n2 c2] 28)).alloc (.cells #[.int .i64 alg, .string kid, .string htyp, .bool hht] 30) := ⟨_, rfl⟩
  obtain ⟨g1, g2, gs⟩ := two_new w #[.slice A n c, .string iss, .bool hi, .string aud, .bool ha, .string typ, .bool ht, .int .i64 lee, .slice a2 n2 c2] #[.int .i64 alg, .string kid, .string htyp, .bool hht] 28 30
  have hb2 : Below w.heap.size w W2 := by rw [hW2]; exact below2 _ _ _
  rw [← hW2] at g1 g2 gs
  have hr2 := hr.all hb2 hB
  obtain ⟨s0, hs0⟩ : ∃ s0, s0 = w.heap.size := ⟨_, rfl⟩
  rw [← hs0] at hB g1 g2 gs hb2 ⊢
  have Hs0 := Lib.hid hs0
  have HW2 := Lib.hid hW2
  have G1 := Lib.hid g1
  have G2 := Lib.hid g2
  have GS := Lib.hid gs
  clear hW2 g1 g2 gs hr hs0
  go_enter Tryd.func15, Tryd.ntmps15
  go_wp2
  rw [← Hs0.out, ← HW2.out]
  go_loopw [5, 6] (fun f i wr => ∃ k, k ≤ n ∧ i = .int .i64 k ∧ f = .bool (listedTo algs (nameOf alg) k) ∧ Below (s0 + 2) W2 wr) (fun _ i _ => n - (intOf i).toNat)
  case atStart => exact ⟨0, by omega, rfl, rfl, Below.refl _ _⟩
  case round =>
    obtain ⟨k, hk, rfl, rfl, hbel⟩ := hrel
    have hsz : s0 + 2 ≤ wr.heap.size := by rw [← GS.out]; exact hbel.size
    have b1 := (hbel.block s0 (by omega)).trans G1.out
    have b2 := (hbel.block (s0 + 1) (by omega)).trans G2.out
    have k0 : wr.cell? ⟨s0, 0, none⟩ = some (.slice A n c) := by rw [cell_of_row _ _ _ _ _ _ b1]; rfl
    have k5 : wr.cell? ⟨s0, 5, none⟩ = some (.string typ) := by rw [cell_of_row _ _ _ _ _ _ b1]; rfl
    have k6 : wr.cell? ⟨s0, 6, none⟩ = some (.bool ht) := by rw [cell_of_row _ _ _ _ _ _ b1]; rfl
    have m0 : wr.cell? ⟨s0 + 1, 0, none⟩ = some (.int .i64 alg) := by rw [cell_of_row _ _ _ _ _ _ b2]; rfl
    have m2 : wr.cell? ⟨s0 + 1, 2, none⟩ = some (.string htyp) := by rw [cell_of_row _ _ _ _ _ _ b2]; rfl
    have m3 : wr.cell? ⟨s0 + 1, 3, none⟩ = some (.bool hht) := by rw [cell_of_row _ _ _ _ _ _ b2]; rfl
    clear b1 b2
    by_cases hkn : k < n
    · have hkx : k < algs.length := by rw [Hl.out]; exact hkn
      obtain ⟨b, off, rfl, hb, hc⟩ := hr2.2 (by omega)
      have cx := (hbel.cell (p := ⟨b, off + k, none⟩) (by show b < _; omega)).trans (hc k (.string algs[k]) (by simp [hkx]))
      have Hn := Lib.hid (listed_succ algs (nameOf alg) k hkx)
      have hkk : (k : Int) < (n : Int) := by omega
      have hk0 : (0 : Int) ≤ (k : Int) := by omega
      clear hc k5 k6 m2 m3
      generalize algs[k] = x at *
      have E0 := fun y : Ext wr => y.cell k0
      have E1 := fun y : Ext wr => y.cell m0
      have E2 := fun y : Ext wr => y.cell cx
      cases h1 : sEq x (nameOf alg)
      · rw [h1, Bool.false_and, Bool.or_false] at Hn
        go_wp2
        refine wp_region_ext (by kernel_rfl) (by kernel_rfl) ?_
        repeat (go_big_quiet_step (first | (go_at_call 12; exact Ext.calls _ (ref_Name alg _ hal))))
        refine wpQuiet_nil ?_
        intro w1 hb1
        have hrel1 : Below (s0 + 2) W2 w1 := hbel.trans (hb1.mono hsz)
        clear E0 E1 E2 k0 m0 cx hb1
        go_wp2
        go_roundw
        case rel => exact ⟨k + 1, by omega, by go_num, by rw [Hn.out], hrel1⟩
        case measure => simp [intOf]; omega
      · cases h2 : sEq x (bs [])
        · rw [h1, h2] at Hn
          go_wp2
          refine wp_region_ext (by kernel_rfl) (by kernel_rfl) ?_
          repeat (go_big_quiet_step (first | (go_at_call 12; exact Ext.calls _ (ref_Name alg _ hal))))
          refine wpQuiet_nil ?_
          intro w1 hb1
          have hrel1 : Below (s0 + 2) W2 w1 := hbel.trans (hb1.mono hsz)
          clear E0 E1 E2 k0 m0 cx hb1
          go_wp2
          go_roundw
          case rel => exact ⟨k + 1, by omega, by go_num, by rw [Hn.out]; simp, hrel1⟩
          case measure => simp [intOf]; omega
        · rw [h1, h2] at Hn
          go_wp2
          refine wp_region_ext (by kernel_rfl) (by kernel_rfl) ?_
          repeat (go_big_quiet_step (first | (go_at_call 12; exact Ext.calls _ (ref_Name alg _ hal))))
          refine wpQuiet_nil ?_
          intro w1 hb1
          have hrel1 : Below (s0 + 2) W2 w1 := hbel.trans (hb1.mono hsz)
          clear E0 E1 E2 k0 m0 cx hb1
          go_wp2
          go_roundw
          case rel => exact ⟨k + 1, by omega, by go_num, by rw [Hn.out]; simp, hrel1⟩
          case measure => simp [intOf]; omega
    · obtain rfl : k = n := by omega
      have Hall := Lib.hid (listed_all algs (nameOf alg))
      rw [Hl.out] at Hall
      have Ha : Hid (allowS algs ht typ alg hht htyp = if listedTo algs (nameOf alg) k then typOk ht typ hht htyp else 112) := by
        show _ = _
        unfold allowS
        rw [Hall.out]
        cases sEq (nameOf alg) (bs []) <;> cases hasS algs (nameOf alg) <;> rfl
      have hfin : Below s0 w wr := hb2.trans (hbel.mono (by omega))
      clear Hall
      cases h1 : listedTo algs (nameOf alg) k
      · have Hf : Hid (allowS algs ht typ alg hht htyp = 112) := by have h := Ha.out; rw [h1] at h; exact h
        clear Ha
        go_wp2
        go_ret
        exact ⟨by rw [Hf.out]; rfl, hfin⟩
      · cases ht
        · have Hf : Hid (allowS algs false typ alg hht htyp = 0) := by have h := Ha.out; rw [h1] at h; exact h
          clear Ha
          go_wp2
          go_ret
          exact ⟨by rw [Hf.out]; rfl, hfin⟩
        · cases h3 : (!hht || !sEq htyp typ)
          · have Hf : Hid (allowS algs true typ alg hht htyp = 0) := by have h := Ha.out; rw [h1] at h; unfold typOk at h; rw [h3] at h; exact h
            clear Ha
            have h4 : hht = true := by cases hht <;> simp_all
            have h5 : sEq htyp typ = true := by cases hht <;> simp_all
            clear h3
            subst h4
            go_wp2
            go_ret
            exact ⟨by rw [Hf.out]; rfl, hfin⟩
          · have Hf : Hid (allowS algs true typ alg hht htyp = 113) := by have h := Ha.out; rw [h1] at h; unfold typOk at h; rw [h3] at h; exact h
            clear Ha
            have h4 : hht = false ∨ (hht = true ∧ sEq htyp typ = false) := by cases hht <;> simp_all
            clear h3
            rcases h4 with h4 | ⟨h4, h5⟩
            all_goals
              subst h4
              go_wp2
              go_ret
              exact ⟨by rw [Hf.out]; rfl, hfin⟩

end Go.Proofs.YtoafhhhnomnjiaaDoor
