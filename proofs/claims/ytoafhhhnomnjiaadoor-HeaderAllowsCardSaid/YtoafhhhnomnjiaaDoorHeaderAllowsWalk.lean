/-
  HeaderAllows: the walk of the law.
-/
import Derived.Test.YtoafhhhnomnjiaaDoorAllow
import Derived.Test.YtoafhhhnomnjiaaDoorCommonB
import Derived.Test.YtoafhhhnomnjiaaDoorKeysetNamesWalk
namespace Go.Proofs.YtoafhhhnomnjiaaDoor.headerAllows
open Go.RowKit
theorem rb_es : ((bs [69, 83, 50, 53, 54]).size ≤ RB) = True := by rw [reach_eq]; simp [bs, ByteArray.size]
set_option maxRecDepth 100000 in
set_option maxHeartbeats 2000000 in
theorem headerAllows_walk (algsA : Option Addr) (algsn algsc : Nat) (algs : List ByteArray) (iss : ByteArray) (hasIss : Bool) (aud : ByteArray) (hasAud : Bool) (typ : ByteArray) (hasTyp : Bool) (leeway : Int)
    (needA : Option Addr) (needn needc : Nat) (need : List ByteArray) (alg : Int) (kid htyp : ByteArray) (hhasTyp : Bool) (w : World)
    (walgs : StrsArg w algsA algsn algsc algs) (_wiss : iss.size ≤ RB) (_waud : aud.size ≤ RB) (_wtyp : typ.size ≤ RB) (_wl : I64 leeway) (wneed : StrsArg w needA needn needc need)
    (walg : I64 alg) (_wkid : kid.size ≤ RB) (_whtyp : htyp.size ≤ RB) (hT : NamesTab w) :
    Calls Tryd.prog 4 #[.agg #[.slice algsA algsn algsc, .string iss, .bool hasIss, .string aud, .bool hasAud, .string typ, .bool hasTyp, .int .i64 leeway, .slice needA needn needc], .agg #[.int .i64 alg, .string kid, .string htyp, .bool hhasTyp]] w
      fun e w' => e = .returned (.bool true) ∧ Below w.heap.size w w' := by
  clear _wiss _waud _wtyp _wkid _whtyp
  have HT := Lib.hid hT
  have HA := Lib.hid walgs
  have HN := Lib.hid wneed
  clear hT walgs wneed
  go_enter Tryd.func4, Tryd.ntmps4
  go_wp2_with fail
  refine (lent17 algsA algsn algsc algs _ ?_).mono ?_
  · exact HA.out.keep ((((Below.refl _ _).alloc (Nat.le_refl _) _).alloc (by simp) _).alloc (by simp; omega) _)
  rintro e w1 ⟨gA, cA, rfl, own1, hb1⟩
  obtain ⟨p1, h1, q1, z1, B1⟩ := three_new _ _ _ _ _ _ _ hb1
  have lA := (own_lt own1).1
  obtain ⟨s, hs⟩ : ∃ s, s = w.heap.size := ⟨_, rfl⟩
  rw [← hs] at p1 h1 q1 z1 B1 ⊢
  have Hs := Lib.hid hs
  clear hb1 hs
  have lA' : s + 3 ≤ gA := by have := lA; simp only [World.size_alloc, ← Hs.out] at this; omega
  have a1 := q1.at_ 0 _ rfl
  have a2 := q1.frz 0
  have a3 := p1.at_ 8 _ rfl
  go_wp2_with fail
  refine (lent17 needA needn needc need _ ?_).mono ?_
  · exact HN.out.keep (by rw [← Hs.out]; exact B1.setCell (show s ≤ s + 1 + 1 by omega) _)
  rintro e w2 ⟨gN, cN, rfl, own2, hb2⟩
  have p2 := (p1.far ⟨s + 1 + 1, 0, none⟩ (by simp; omega) (.slice (some ⟨gA, 0, none⟩) algsn cA)).keep hb2
  have h2 := (h1.far ⟨s + 1 + 1, 0, none⟩ (by simp) (.slice (some ⟨gA, 0, none⟩) algsn cA)).keep hb2
  have q2 := (q1.put_ 0 (.slice (some ⟨gA, 0, none⟩) algsn cA)).keep hb2
  have own1b := own_below (own_far own1 ⟨s + 1 + 1, 0, none⟩ (by simp; omega) (.slice (some ⟨gA, 0, none⟩) algsn cA)) hb2
  have lN := (own_lt own2).1
  have B2 : Below s w w2 := (B1.setCell (show s ≤ s + 1 + 1 by omega) (.slice (some ⟨gA, 0, none⟩) algsn cA)).trans (hb2.mono (by simp [World.setCell]; omega))
  have lA2 := (own_lt own1).2
  have lN' : gA < gN := by simp [World.setCell] at lN; omega
  have z2 : s + 3 ≤ w2.heap.size := by have := hb2.size; rw [size_set] at this; omega
  have own2b := own_base own2 (show s + 3 ≤ _ by rw [size_set]; omega)
  have own1c := own_base own1b (show s + 3 ≤ _ by simp [← Hs.out])
  clear hb2 own1 own2 own1b lA p1 h1 q1 a1 a2 a3 B1 z1 lN lA2
  simp only [List.setIfInBounds_toArray, List.set_cons_zero] at q2
  have a1 := q2.at_ 8 _ rfl
  have a2 := q2.frz 8
  have q3 := q2.put_ 8 (.slice (some ⟨gN, 0, none⟩) needn cN)
  simp only [List.setIfInBounds_toArray, List.set_cons_zero, List.set_cons_succ] at q3
  obtain ⟨W3, hW3⟩ : ∃ W3, W3 = w2.setCell ⟨s + 1 + 1, 8, none⟩ (.slice (some ⟨gN, 0, none⟩) needn cN) := ⟨_, rfl⟩
  have p3 := p2.far ⟨s + 1 + 1, 8, none⟩ (by simp; omega) (.slice (some ⟨gN, 0, none⟩) needn cN)
  have h3 := h2.far ⟨s + 1 + 1, 8, none⟩ (by simp) (.slice (some ⟨gN, 0, none⟩) needn cN)
  have r1 := own_far own1c ⟨s + 1 + 1, 8, none⟩ (by simp; omega) (.slice (some ⟨gN, 0, none⟩) needn cN)
  have r2 := own_far own2b ⟨s + 1 + 1, 8, none⟩ (by simp; omega) (.slice (some ⟨gN, 0, none⟩) needn cN)
  have B3 : Below s w W3 := by rw [hW3]; exact B2.setCell (show s ≤ s + 1 + 1 by omega) _
  have z3 : s + 3 ≤ W3.heap.size := by rw [hW3, size_set]; exact z2
  go_wp2_with (first
    | (refine wpList_load_row rfl 28 _ rfl (s + 1 + 1) rfl _ _ _ _ q3 Tryd.underlying28 rfl (by kernel_rfl) ?_)
    | (refine wpList_load_row rfl 30 _ rfl (s + 1) rfl _ _ _ _ h3 Tryd.underlying30 rfl (by kernel_rfl) ?_))
  rw [← hW3] at q3 p3 h3 r1 r2 ⊢
  clear hW3 a1 a2 q2 p2 h2 own1c own2b B2 z2
  have HW3 : NamesTab W3 := HT.out.below (by rw [← Hs.out]; exact B3)
  have hna : algsn ≤ 9000000000000 := by have := HA.out.reach; rw [reach_eq] at this; omega
  have hnn : needn ≤ 9000000000000 := by have := HN.out.reach; rw [reach_eq] at this; omega
  have rA : Strs W3 W3.heap.size (some ⟨gA, 0, none⟩) algsn algs := strs_of_marks r1 HA.out.row.1
  refine (header_Allow (some ⟨gA, 0, none⟩) algsn cA W3.heap.size algs iss aud typ kid htyp hasIss hasAud hasTyp hhasTyp leeway alg _ W3 ⟨_, _, _, rfl⟩ rA (Nat.le_refl _) hna walg.2 HW3).mono ?_
  rintro e w4 ⟨rfl, hb4⟩
  have p4 := p3.keep hb4
  have h4 := h3.keep hb4
  have q4 := q3.keep hb4
  have r4 := own_below r1 hb4
  have t4 := own_below r2 hb4
  have B4 := B3.trans (hb4.mono (show s ≤ W3.heap.size by omega))
  have z4 := Nat.le_trans z3 hb4.size
  clear hb4 p3 h3 q3 r1 r2 B3 z3 HW3 rA W3
  go_wp2_with (first
    | (refine wpList_load_row rfl 28 _ rfl s rfl _ _ _ _ p4 Tryd.underlying28 rfl (by kernel_rfl) ?_)
    | (refine wpList_load_row rfl 30 _ rfl (s + 1) rfl _ _ _ _ h4 Tryd.underlying30 rfl (by kernel_rfl) ?_))
  refine (ref_Allow algsA algsn algsc s algs iss aud typ kid htyp hasIss hasAud hasTyp hhasTyp leeway alg _ w4 ⟨_, _, _, rfl⟩ ((Hs.out ▸ HA.out.row).below B4) (by omega) hna walg.2).mono ?_
  rintro e w5 ⟨rfl, hb5⟩
  have p5 := p4.keep hb5
  have h5 := h4.keep hb5
  have q5 := q4.keep hb5
  have r5 := own_below r4 hb5
  have t5 := own_below t4 hb5
  have B5 := B4.trans (hb5.mono (show s ≤ w4.heap.size by omega))
  have z5 := Nat.le_trans z4 hb5.size
  clear hb5 p4 h4 q4 r4 t4 B4 z4 w4
  have a1 := q5.at_ 0 _ rfl
  have a2 := p5.at_ 0 _ rfl
  go_wp2_with fail
  refine (whole17 algsA algsn algsc gA cA s algs w5 ((Hs.out ▸ HA.out.row).below B5) hna (own_room r5) (own_cell r5)).mono ?_
  rintro e w6 ⟨rfl, hb6⟩
  have p6 := p5.keep hb6
  have h6 := h5.keep hb6
  have q6 := q5.keep hb6
  have r6 := own_below r5 hb6
  have t6 := own_below t5 hb6
  have B6 := B5.trans (hb6.mono (show s ≤ w5.heap.size by omega))
  have z6 := Nat.le_trans z5 hb6.size
  clear hb6 p5 h5 q5 r5 t5 B5 z5 a1 a2 w5
  have a1 := q6.at_ 8 _ rfl
  have a2 := p6.at_ 8 _ rfl
  go_wp2_with fail
  refine (whole17 needA needn needc gN cN s need w6 ((Hs.out ▸ HN.out.row).below B6) hnn (own_room t6) (own_cell t6)).mono ?_
  rintro e w7 ⟨rfl, hb7⟩
  have p7 := p6.keep hb7
  have h7 := h6.keep hb7
  have q7 := q6.keep hb7
  have r7 := own_below r6 hb7
  have B7 := B6.trans (hb7.mono (show s ≤ w6.heap.size by omega))
  have z7 := Nat.le_trans z6 hb7.size
  clear hb7 p6 h6 q6 r6 t6 B6 z6 a1 a2 w6
  go_wp2_with fail
  have gneg : s + 3 ≤ gA := lA'
  clear lA' lN'
  go_loopw [7] (fun i wr => ∃ (k : Nat) (zs : List ByteArray), k ≤ algsn ∧ i = .int .i64 k ∧ zs.length = algsn ∧ (∀ x ∈ zs, x.size ≤ RB) ∧ wr.ownsRow (s + 3) 9 1 (.slice (some ⟨gA, 0, none⟩) (algsn + 20) cA) (algsn + 20) (zs.map Value.string ++ List.replicate 20 (.string mark)) ∧ w7.grownBy wr (some gA)) (fun i _ => algsn - (intOf i).toNat)
  case atStart => exact ⟨0, algs, by omega, rfl, by simpa using HA.out.row.1, HA.out.short, r7, World.grownBy.refl _ _⟩
  case round =>
    obtain ⟨k, zs, hk, rfl, hzl, hzs, own, hgr⟩ := hrel
    have Hzs := Lib.hid hzs
    clear hzs
    have qr := q7.grown hgr (by simp; omega)
    have Hzl := Lib.hid hzl
    clear hzl
    by_cases hkn : k < algsn
    · have a1 := qr.at_ 0 _ rfl
      have a2 := own_cell own k (.string (zs[k]'(by rw [Hzl.out]; exact hkn))) (by rw [List.getElem?_append_left (by simp [Hzl.out, hkn])]; simp [Hzl.out, hkn])
      have a3 := own.frozenAt k
      have st := own.stored k (.string (bs [69, 83, 50, 53, 54]))
      have hrel1 : (wr.setCell ⟨gA, k, none⟩ (.string (bs [69, 83, 50, 53, 54]))).ownsRow (s + 3) 9 1 (.slice (some ⟨gA, 0, none⟩) (algsn + 20) cA) (algsn + 20) ((zs.set k (bs [69, 83, 50, 53, 54])).map Value.string ++ List.replicate 20 (.string mark)) ∧ w7.grownBy (wr.setCell ⟨gA, k, none⟩ (.string (bs [69, 83, 50, 53, 54]))) (some gA) := by
        refine ⟨?_, grown_trans hgr st.2⟩
        have h := st.1
        rw [List.set_append_left _ _ (by simp [Hzl.out, hkn])] at h
        rw [List.map_set]
        exact h
      clear st
      go_wp2
      go_roundw
      case rel => exact ⟨k + 1, zs.set k (bs [69, 83, 50, 53, 54]), by omega, by go_num, by rw [List.length_set]; exact Hzl.out, fun x hx => by rcases List.mem_or_eq_of_mem_set hx with h | h; exact Hzs.out x h; (rw [h, rb_es]; trivial), hrel1.1, hrel1.2⟩
      case measure => simp [intOf]; omega
    · have pr := p7.grown hgr (by simp; omega)
      have hr := h7.grown hgr (by simp; omega)
      have zr := Nat.le_trans z7 hgr.size
      have Br : Below s w wr := B7.grown hgr (by omega) (fun j hj => by injection hj with hj; omega)
      have a1 := qr.at_ 0 _ rfl
      clear p7 h7 q7 r7 B7 z7 hgr hk
      obtain ⟨W8, hW8⟩ : ∃ W8, W8 = wr.alloc (.cells #[.slice algsA algsn algsc, .string iss, .bool hasIss, .string aud, .bool hasAud, .string typ, .bool hasTyp, .int .i64 leeway, .slice needA needn needc] 28) := ⟨_, rfl⟩
      obtain ⟨m, hm⟩ : ∃ m, m = wr.heap.size := ⟨_, rfl⟩
      have n8 := Blk.new wr 28 #[.slice algsA algsn algsc, .string iss, .bool hasIss, .string aud, .bool hasAud, .string typ, .bool hasTyp, .int .i64 leeway, .slice needA needn needc]
      have p8 := pr.alloc (.cells #[.slice algsA algsn algsc, .string iss, .bool hasIss, .string aud, .bool hasAud, .string typ, .bool hasTyp, .int .i64 leeway, .slice needA needn needc] 28)
      have h8 := hr.alloc (.cells #[.slice algsA algsn algsc, .string iss, .bool hasIss, .string aud, .bool hasAud, .string typ, .bool hasTyp, .int .i64 leeway, .slice needA needn needc] 28)
      have q8 := qr.alloc (.cells #[.slice algsA algsn algsc, .string iss, .bool hasIss, .string aud, .bool hasAud, .string typ, .bool hasTyp, .int .i64 leeway, .slice needA needn needc] 28)
      have r8 := own.alloc (.cells #[.slice algsA algsn algsc, .string iss, .bool hasIss, .string aud, .bool hasAud, .string typ, .bool hasTyp, .int .i64 leeway, .slice needA needn needc] 28)
      have B8 := Br.alloc (show s ≤ wr.heap.size by omega) (.cells #[.slice algsA algsn algsc, .string iss, .bool hasIss, .string aud, .bool hasAud, .string typ, .bool hasTyp, .int .i64 leeway, .slice needA needn needc] 28)
      have gm : gA < m := by rw [hm]; exact (own_lt own).2
      have z8 : W8.heap.size = m + 1 := by rw [hW8, hm]; simp
      have a8 := q8.at_ 0 _ rfl
      rw [← hW8] at n8 p8 h8 q8 r8 B8
      rw [← hm] at n8 zr
      have HW8 := Lib.hid hW8
      have Hm := Lib.hid hm
      clear hW8 hm hr qr own Br
      go_wp2_with (first
        | (refine wpList_load_row rfl 28 _ rfl s rfl _ _ _ _ pr Tryd.underlying28 rfl (by kernel_rfl) ?_))
      rw [← HW8.out, ← Hm.out]
      clear pr a8 a1
      have Hz8 := Lib.hid z8
      have rs : StrsArg W8 (some ⟨gA, 0, none⟩) algsn cA zs := strsArg_of_own r8 (by simp [Hzl.out]) HA.out.reach Hzs.out
      refine (lent17 (some ⟨gA, 0, none⟩) algsn cA zs W8 rs).mono ?_
      rintro e w9 ⟨gR, cR, rfl, own9, hb9⟩
      have lR := own_lt own9
      have p9 := p8.keep hb9
      have h9 := h8.keep hb9
      have q9 := q8.keep hb9
      have n9 := n8.keep hb9
      have r9 := own_below r8 hb9
      have B9 := B8.trans (hb9.mono (show s ≤ W8.heap.size by omega))
      have z9 := hb9.size
      rw [z8] at z9 lR
      clear hb9 p8 h8 q8 n8 r8 B8 z8 rs
      have a1 := n9.at_ 0 _ rfl
      have a2 := n9.frz 0
      have n10 := n9.put_ 0 (.slice (some ⟨gR, 0, none⟩) algsn cR)
      simp only [List.setIfInBounds_toArray, List.set_cons_zero] at n10
      have h10 := h9.far ⟨m, 0, none⟩ (by simp; omega) (.slice (some ⟨gR, 0, none⟩) algsn cR)
      have q10 := q9.far ⟨m, 0, none⟩ (by simp; omega) (.slice (some ⟨gR, 0, none⟩) algsn cR)
      have s10 := own_far own9 ⟨m, 0, none⟩ (by simp; omega) (.slice (some ⟨gR, 0, none⟩) algsn cR)
      have r10 := own_far r9 ⟨m, 0, none⟩ (by simp; omega) (.slice (some ⟨gR, 0, none⟩) algsn cR)
      have B10 := B9.setCell (show s ≤ m by omega) (.slice (some ⟨gR, 0, none⟩) algsn cR) (p := ⟨m, 0, none⟩)
      clear p9 h9 q9 n9 r9 B9 own9
      obtain ⟨W10, hW10⟩ : ∃ W10, W10 = w9.setCell ⟨m, 0, none⟩ (.slice (some ⟨gR, 0, none⟩) algsn cR) := ⟨_, rfl⟩
      have HW10 := Lib.hid hW10
      rw [← hW10] at n10 h10 q10 s10 r10 B10
      have z10 : W10.heap.size = w9.heap.size := by rw [hW10, size_set]
      clear hW10
      have rq : Strs W10 W10.heap.size (some ⟨gA, 0, none⟩) algsn zs := strs_of_marks r10 (by simp [Hzl.out])
      have rr : Strs W10 W10.heap.size (some ⟨gR, 0, none⟩) algsn zs := strs_of_marks s10 (by simp [Hzl.out])
      have Hz10 := Lib.hid z10
      have HN10 : Hid (NamesTab W10) := HT.out.below (by rw [← Hs.out]; exact B10)
      clear z10
      go_wp2_with fail
      rw [← HW10.out]
      have Eq0 := fun y : Ext W10 => y.cell (q10.at_ 0 _ rfl)
      have Eq1 := fun y : Ext W10 => y.cell (q10.at_ 1 _ rfl)
      have Eq2 := fun y : Ext W10 => y.cell (q10.at_ 2 _ rfl)
      have Eq3 := fun y : Ext W10 => y.cell (q10.at_ 3 _ rfl)
      have Eq4 := fun y : Ext W10 => y.cell (q10.at_ 4 _ rfl)
      have Eq5 := fun y : Ext W10 => y.cell (q10.at_ 5 _ rfl)
      have Eq6 := fun y : Ext W10 => y.cell (q10.at_ 6 _ rfl)
      have Eq7 := fun y : Ext W10 => y.cell (q10.at_ 7 _ rfl)
      have Eq8 := fun y : Ext W10 => y.cell (q10.at_ 8 _ rfl)
      have Eh0 := fun y : Ext W10 => y.cell (h10.at_ 0 _ rfl)
      have Eh1 := fun y : Ext W10 => y.cell (h10.at_ 1 _ rfl)
      have Eh2 := fun y : Ext W10 => y.cell (h10.at_ 2 _ rfl)
      have Eh3 := fun y : Ext W10 => y.cell (h10.at_ 3 _ rfl)
      have En0 := fun y : Ext W10 => y.cell (n10.at_ 0 _ rfl)
      have En1 := fun y : Ext W10 => y.cell (n10.at_ 1 _ rfl)
      have En2 := fun y : Ext W10 => y.cell (n10.at_ 2 _ rfl)
      have En3 := fun y : Ext W10 => y.cell (n10.at_ 3 _ rfl)
      have En4 := fun y : Ext W10 => y.cell (n10.at_ 4 _ rfl)
      have En5 := fun y : Ext W10 => y.cell (n10.at_ 5 _ rfl)
      have En6 := fun y : Ext W10 => y.cell (n10.at_ 6 _ rfl)
      have En7 := fun y : Ext W10 => y.cell (n10.at_ 7 _ rfl)
      have En8 := fun y : Ext W10 => y.cell (n10.at_ 8 _ rfl)
      refine wp_region_ext (by kernel_rfl) (by kernel_rfl) ?_
      repeat (go_big_quiet_step (first
        | (go_at_call 14; exact Ext.calls _ (header_Allow (some ⟨gA, 0, none⟩) algsn cA W10.heap.size zs iss aud typ kid htyp hasIss hasAud hasTyp hhasTyp leeway alg _ _ ⟨_, _, _, rfl⟩ (rq.below (Ext.below _)) (Ext.below _).size hna walg.2 (HN10.out.below (Ext.below _))))
        | (go_at_call 15; exact Ext.calls _ (ref_Allow (some ⟨gR, 0, none⟩) algsn cR W10.heap.size zs iss aud typ kid htyp hasIss hasAud hasTyp hhasTyp leeway alg _ _ ⟨_, _, _, rfl⟩ (rr.below (Ext.below _)) (Ext.below _).size hna walg.2))))
      refine wpQuiet_nil ?_
      intro w11 hb11
      have Bfin : Below s w w11 := B10.trans (hb11.mono (by rw [Hz10.out]; omega))
      clear hb11
      go_wp2
      go_ret
      exact ⟨by simp, by rw [← Hs.out]; exact Bfin⟩

theorem headerAllows_tabs {W : World} (h : laidMetH Tryd.prog Rows.headerAllowsRow.laid W) : NamesTab W := keysetNames.namesTab_of (rest := []) h

end Go.Proofs.YtoafhhhnomnjiaaDoor.headerAllows
