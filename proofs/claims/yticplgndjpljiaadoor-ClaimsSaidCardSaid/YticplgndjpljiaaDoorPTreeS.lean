/-
  Values are trees (the lemmas of PPrint, for claims that do not print). No program.
-/
import Derived.Test.YticplgndjpljiaaDoorPShapeOf
namespace Go.Proofs.YticplgndjpljiaaDoor
open Go.Eng
set_option linter.unusedVariables false
set_option linter.unusedSimpArgs false
theorem kidsS_tree {v:List Eng.Node} {one:Nat→Option Nat} {obj:Bool} (h:∀a e,one a=some e→Tree v a e):∀(k a:Nat) (names:List ByteArray) (e:Nat),a≤v.length→kidsS v one obj k a names=some e→Trees v k a e
 | 0,a,names,e,ha,hk=>by
  cases hk
  exact Trees.nil a ha
 | k+1,a,names,e,ha,hk=>by
  unfold kidsS at hk
  cases ho:one a with
  | none=>rw [ho] at hk; cases hk
  | some b =>
   rw [ho] at hk
   dsimp only at hk
   split at hk
   ·cases hk
   ·have hb:=h a b ho
    exact Trees.app hb (kidsS_tree h k b _ e hb.le.2 hk)
theorem oneS_ok {v:List Eng.Node} (hv:OkL v) {d:Nat} {obj:Bool} {a e:Nat} (h:oneS v d obj a=some e):∃n,v[a]?=some n∧n∈v∧a<v.length∧v.getD a (ET.dft .node)=n∧okB obj n=true∧pB n=true∧0≤n.kids∧(0<n.kids→6≤n.kind)∧n.kind≤7 ∧
  ((d=0∧n.kind<6∧e=a+1)∨∃d',d=d'+1∧kidsS v (oneS v d' (decide (n.kind=7))) (decide (n.kind=7)) n.kids.toNat (a+1) []=some e):=by
 by_cases ha:a<v.length
 ·obtain ⟨n,hn,hmem,hget⟩:=nd_some ha
  have hp:=(pB_both (hv.2 n hmem)).2.2
  have key:okB obj n=true→pB n=true:=fun h=>by unfold okB at h; simp only [Bool.and_eq_true] at h; exact h.1.1
  cases d with
  | zero =>
   unfold oneS at h
   rw [hn] at h
   dsimp only at h
   split at h
   ·rename_i hc
    cases h
    have hp:=hp (key hc.1)
    exact ⟨n,hn,hmem,ha,hget,hc.1,key hc.1,hp.1,hp.2.1,hp.2.2,.inl ⟨rfl,hc.2,rfl⟩⟩
   ·cases h
  | succ d =>
   unfold oneS at h
   rw [hn] at h
   dsimp only at h
   split at h
   ·rename_i hc
    have hp:=hp (key hc)
    exact ⟨n,hn,hmem,ha,hget,hc,key hc,hp.1,hp.2.1,hp.2.2,.inr ⟨d,rfl,h⟩⟩
   ·cases h
 ·have:=oneS_le v d obj a e h
  omega
theorem oneS_tree {v:List Eng.Node} (hv:OkL v):∀(d:Nat) (obj:Bool) (a e:Nat),oneS v d obj a=some e→Tree v a e:=by
 intro d
 induction d with
 | zero =>
  intro obj a e h
  obtain ⟨n,h1,h2,h3,h4,h5,h6,h7,h8,h9,h10⟩:=oneS_ok hv h
  rcases h10 with ⟨_,h11,rfl⟩ | ⟨d',h,_⟩
  ·refine Tree.mk h1 h7 ?_
   rw [show n.kids.toNat=0 by omega]
   exact Trees.nil _ (by omega)
  ·cases h
 | succ d ih =>
  intro obj a e h
  obtain ⟨n,h1,h2,h3,h4,h5,h6,h7,h8,h9,h10⟩:=oneS_ok hv h
  rcases h10 with ⟨h,_⟩ | ⟨d',h,h11⟩
  ·cases h
  ·have:d'=d:=by omega
   subst this
   exact Tree.mk h1 h7 (kidsS_tree (fun a e=>ih _ a e) _ _ _ _ (by omega) h11)
end Go.Proofs.YticplgndjpljiaaDoor
