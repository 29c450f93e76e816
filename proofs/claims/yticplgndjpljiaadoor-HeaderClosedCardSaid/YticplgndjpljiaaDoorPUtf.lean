/-
  UTF-8 as the document reads it and as the library decodes it. No program.
-/
import Derived.Shelf.Unicode.DecodeSlow
import Derived.WalkKit
import Derived.Below
import Derived.BigQuiet
import Derived.Lib.ValidLaws
import Derived.Lib.DecodeNEq
import Derived.Test.YticplgndjpljiaaDoorProg
import Derived.Test.YticplgndjpljiaaDoorPShaped
namespace Go.Proofs.YticplgndjpljiaaDoor
open Go.RowKit Go.Lib
set_option linter.unusedVariables false
set_option linter.unusedSimpArgs false
def qGj (n b0 b1 b2:Nat):Bool :=
 if n=0 then false else if Lib.firstT b0 % 8≤n then true else if 1<n∧(b1<Lib.accLo (Lib.firstT b0 / 16)∨Lib.accHi (Lib.firstT b0 / 16)<b1) then true else if 2<n∧(b2<128∨191<b2) then true else false
structure HidF (p:Prop):Prop where
 out:p
theorem qBl {B:Nat} {a w:World} (h:Below B a w) (n:Nat):Below B a (w.drewN n):=h.trans ⟨rfl,rfl,rfl,Nat.le_refl _,fun _ _=>rfl⟩
def fullS (s:BA):Bool:=qGj s.size (s.get! 0).toNat (s.get! 1).toNat (s.get! 2).toNat
set_option maxHeartbeats 4000000 in
set_option maxRecDepth 1000000 in
theorem full_run (s:BA) (w:World) (hS:s.size≤9223372036854775807) (hT:Lib.Utf8Tabs 1 2 w) :
  Calls Tryd.prog 131 #[.string s] w fun e w'=>e=.returned (.bool (fullS s))∧Below w.heap.size w w':=by
 unfold fullS;by_cases h0:s.size=0
 ·have hz:(s.size:Int)=0:=by omega
  rw [qGj,if_pos h0];go_enter Tryd.func131,Tryd.ntmps131
  go_wp2
  go_ret
  exact ⟨rfl,Below.refl _ _⟩
 ·have hz0:(0:Int)<(s.size:Int):=by omega
  have hz0':¬((s.size:Int)=0):=by omega
  obtain ⟨x0,hx0⟩:∃x,s.get! 0=x:=⟨_,rfl⟩;obtain ⟨x1,hx1⟩:∃x,s.get! 1=x:=⟨_,rfl⟩;obtain ⟨x2,hx2⟩:∃x,s.get! 2=x:=⟨_,rfl⟩;have hs0:s[0]'(by omega)=x0:=by rw [←hx0]; exact (Utf8W.get!_of_lt s 0 (by omega)).symm
  have l0:=x0.toNat_lt; have l1:=x1.toNat_lt; have l2:=x2.toNat_lt;have hc0:=hT.1 x0.toNat (by omega);rw [hx0,hx1,hx2];rcases Lib.firstT_cases x0.toNat with hX | hX | hX | hX | hX | hX | hX | hX | hX
  ·rw [qGj,if_neg h0,hX,if_pos (by omega)];rw [hX] at hc0;have hz1:((0:Int)≤(s.size:Int)):=by omega
   clear hT hX;go_enter Tryd.func131,Tryd.ntmps131
   go_wp2
   go_ret
   exact ⟨rfl,Below.refl _ _⟩
  ·rw [qGj,if_neg h0,hX,if_pos (by omega)];rw [hX] at hc0;have hz1:((1:Int)≤(s.size:Int)):=by omega
   clear hT hX;go_enter Tryd.func131,Tryd.ntmps131
   go_wp2
   go_ret
   exact ⟨rfl,Below.refl _ _⟩
  ·rw [hX] at hc0;have ha0:=(hT.2 0 (by omega)).1;have ha1:=(hT.2 0 (by omega)).2;simp only [accLo,accHi,Nat.reduceMul,Nat.reduceAdd,Nat.reduceEqDiff,if_true,if_false,Nat.reduceMod,Nat.reduceDiv] at ha0 ha1;generalize hr:qGj s.size x0.toNat x1.toNat x2.toNat=r
   rw [qGj,if_neg h0,hX] at hr;simp only [Nat.reduceMod,Nat.reduceDiv,accLo,accHi,Nat.reduceEqDiff,if_true,if_false] at hr;clear hT hX;by_cases hk:2≤s.size
   ·have hz1:((2:Int)≤(s.size:Int)):=by omega
    rw [if_pos (by omega)] at hr;subst hr;go_enter Tryd.func131,Tryd.ntmps131
    go_wp2
    go_ret
    exact ⟨rfl,Below.refl _ _⟩
   ·have Hr:=(HidF.mk hr);clear hr;rcases (show s.size=1∨s.size=2∨s.size=3 by omega) with hn | hn | hn
    ·have hz:(s.size:Int)=1:=by omega
     go_enter Tryd.func131,Tryd.ntmps131
     go_wp2
     go_quiet (fail)
     go_wp2
     all_goals (go_ret; refine ⟨?_,qBl ((Below.refl _ _).alloc (Nat.le_refl _) _) _⟩; rw [←Hr.out]; (repeat' split) <;> first | rfl | (exfalso; omega))
    ·exact (hk (by omega)).elim
    ·exact (hk (by omega)).elim
  ·rw [hX] at hc0;have ha0:=(hT.2 1 (by omega)).1;have ha1:=(hT.2 1 (by omega)).2;simp only [accLo,accHi,Nat.reduceMul,Nat.reduceAdd,Nat.reduceEqDiff,if_true,if_false,Nat.reduceMod,Nat.reduceDiv] at ha0 ha1;generalize hr:qGj s.size x0.toNat x1.toNat x2.toNat=r
   rw [qGj,if_neg h0,hX] at hr;simp only [Nat.reduceMod,Nat.reduceDiv,accLo,accHi,Nat.reduceEqDiff,if_true,if_false] at hr;clear hT hX;by_cases hk:3≤s.size
   ·have hz1:((3:Int)≤(s.size:Int)):=by omega
    rw [if_pos (by omega)] at hr;subst hr;go_enter Tryd.func131,Tryd.ntmps131
    go_wp2
    go_ret
    exact ⟨rfl,Below.refl _ _⟩
   ·have Hr:=(HidF.mk hr);clear hr;rcases (show s.size=1∨s.size=2∨s.size=3 by omega) with hn | hn | hn
    ·have hz:(s.size:Int)=1:=by omega
     go_enter Tryd.func131,Tryd.ntmps131
     go_wp2
     go_quiet (fail)
     go_wp2
     all_goals (go_ret; refine ⟨?_,qBl ((Below.refl _ _).alloc (Nat.le_refl _) _) _⟩; rw [←Hr.out]; (repeat' split) <;> first | rfl | (exfalso; omega))
    ·have hz:(s.size:Int)=2:=by omega
     have hs1:s[1]'(by omega)=x1:=by rw [←hx1]; exact (Utf8W.get!_of_lt s 1 (by omega)).symm
     by_cases c0:(x1.toNat:Int)<160
     ·have d0:=deT c0;go_enter Tryd.func131,Tryd.ntmps131
      go_wp2
      go_quiet (fail)
      go_wp2
      all_goals (go_ret; refine ⟨?_,qBl ((Below.refl _ _).alloc (Nat.le_refl _) _) _⟩; rw [←Hr.out]; (repeat' split) <;> first | rfl | (exfalso; omega))
     ·have d0:=deF c0;by_cases c1:(191:Int)<(x1.toNat:Int)
      ·have d1:=deT c1;go_enter Tryd.func131,Tryd.ntmps131
       go_wp2
       go_quiet (fail)
       go_wp2
       all_goals (go_ret; refine ⟨?_,qBl ((Below.refl _ _).alloc (Nat.le_refl _) _) _⟩; rw [←Hr.out]; (repeat' split) <;> first | rfl | (exfalso; omega))
      ·have d1:=deF c1;go_enter Tryd.func131,Tryd.ntmps131
       go_wp2
       go_quiet (fail)
       go_wp2
       all_goals (go_ret; refine ⟨?_,qBl ((Below.refl _ _).alloc (Nat.le_refl _) _) _⟩; rw [←Hr.out]; (repeat' split) <;> first | rfl | (exfalso; omega))
    ·exact (hk (by omega)).elim
  ·rw [hX] at hc0;have ha0:=(hT.2 0 (by omega)).1;have ha1:=(hT.2 0 (by omega)).2;simp only [accLo,accHi,Nat.reduceMul,Nat.reduceAdd,Nat.reduceEqDiff,if_true,if_false,Nat.reduceMod,Nat.reduceDiv] at ha0 ha1;generalize hr:qGj s.size x0.toNat x1.toNat x2.toNat=r
   rw [qGj,if_neg h0,hX] at hr;simp only [Nat.reduceMod,Nat.reduceDiv,accLo,accHi,Nat.reduceEqDiff,if_true,if_false] at hr;clear hT hX;by_cases hk:3≤s.size
   ·have hz1:((3:Int)≤(s.size:Int)):=by omega
    rw [if_pos (by omega)] at hr;subst hr;go_enter Tryd.func131,Tryd.ntmps131
    go_wp2
    go_ret
    exact ⟨rfl,Below.refl _ _⟩
   ·have Hr:=(HidF.mk hr);clear hr;rcases (show s.size=1∨s.size=2∨s.size=3 by omega) with hn | hn | hn
    ·have hz:(s.size:Int)=1:=by omega
     go_enter Tryd.func131,Tryd.ntmps131
     go_wp2
     go_quiet (fail)
     go_wp2
     all_goals (go_ret; refine ⟨?_,qBl ((Below.refl _ _).alloc (Nat.le_refl _) _) _⟩; rw [←Hr.out]; (repeat' split) <;> first | rfl | (exfalso; omega))
    ·have hz:(s.size:Int)=2:=by omega
     have hs1:s[1]'(by omega)=x1:=by rw [←hx1]; exact (Utf8W.get!_of_lt s 1 (by omega)).symm
     by_cases c0:(x1.toNat:Int)<128
     ·have d0:=deT c0;go_enter Tryd.func131,Tryd.ntmps131
      go_wp2
      go_quiet (fail)
      go_wp2
      all_goals (go_ret; refine ⟨?_,qBl ((Below.refl _ _).alloc (Nat.le_refl _) _) _⟩; rw [←Hr.out]; (repeat' split) <;> first | rfl | (exfalso; omega))
     ·have d0:=deF c0;by_cases c1:(191:Int)<(x1.toNat:Int)
      ·have d1:=deT c1;go_enter Tryd.func131,Tryd.ntmps131
       go_wp2
       go_quiet (fail)
       go_wp2
       all_goals (go_ret; refine ⟨?_,qBl ((Below.refl _ _).alloc (Nat.le_refl _) _) _⟩; rw [←Hr.out]; (repeat' split) <;> first | rfl | (exfalso; omega))
      ·have d1:=deF c1;go_enter Tryd.func131,Tryd.ntmps131
       go_wp2
       go_quiet (fail)
       go_wp2
       all_goals (go_ret; refine ⟨?_,qBl ((Below.refl _ _).alloc (Nat.le_refl _) _) _⟩; rw [←Hr.out]; (repeat' split) <;> first | rfl | (exfalso; omega))
    ·exact (hk (by omega)).elim
  ·rw [hX] at hc0;have ha0:=(hT.2 2 (by omega)).1;have ha1:=(hT.2 2 (by omega)).2;simp only [accLo,accHi,Nat.reduceMul,Nat.reduceAdd,Nat.reduceEqDiff,if_true,if_false,Nat.reduceMod,Nat.reduceDiv] at ha0 ha1;generalize hr:qGj s.size x0.toNat x1.toNat x2.toNat=r
   rw [qGj,if_neg h0,hX] at hr;simp only [Nat.reduceMod,Nat.reduceDiv,accLo,accHi,Nat.reduceEqDiff,if_true,if_false] at hr;clear hT hX;by_cases hk:3≤s.size
   ·have hz1:((3:Int)≤(s.size:Int)):=by omega
    rw [if_pos (by omega)] at hr;subst hr;go_enter Tryd.func131,Tryd.ntmps131
    go_wp2
    go_ret
    exact ⟨rfl,Below.refl _ _⟩
   ·have Hr:=(HidF.mk hr);clear hr;rcases (show s.size=1∨s.size=2∨s.size=3 by omega) with hn | hn | hn
    ·have hz:(s.size:Int)=1:=by omega
     go_enter Tryd.func131,Tryd.ntmps131
     go_wp2
     go_quiet (fail)
     go_wp2
     all_goals (go_ret; refine ⟨?_,qBl ((Below.refl _ _).alloc (Nat.le_refl _) _) _⟩; rw [←Hr.out]; (repeat' split) <;> first | rfl | (exfalso; omega))
    ·have hz:(s.size:Int)=2:=by omega
     have hs1:s[1]'(by omega)=x1:=by rw [←hx1]; exact (Utf8W.get!_of_lt s 1 (by omega)).symm
     by_cases c0:(x1.toNat:Int)<128
     ·have d0:=deT c0;go_enter Tryd.func131,Tryd.ntmps131
      go_wp2
      go_quiet (fail)
      go_wp2
      all_goals (go_ret; refine ⟨?_,qBl ((Below.refl _ _).alloc (Nat.le_refl _) _) _⟩; rw [←Hr.out]; (repeat' split) <;> first | rfl | (exfalso; omega))
     ·have d0:=deF c0;by_cases c1:(159:Int)<(x1.toNat:Int)
      ·have d1:=deT c1;go_enter Tryd.func131,Tryd.ntmps131
       go_wp2
       go_quiet (fail)
       go_wp2
       all_goals (go_ret; refine ⟨?_,qBl ((Below.refl _ _).alloc (Nat.le_refl _) _) _⟩; rw [←Hr.out]; (repeat' split) <;> first | rfl | (exfalso; omega))
      ·have d1:=deF c1;go_enter Tryd.func131,Tryd.ntmps131
       go_wp2
       go_quiet (fail)
       go_wp2
       all_goals (go_ret; refine ⟨?_,qBl ((Below.refl _ _).alloc (Nat.le_refl _) _) _⟩; rw [←Hr.out]; (repeat' split) <;> first | rfl | (exfalso; omega))
    ·exact (hk (by omega)).elim
  ·rw [hX] at hc0;have ha0:=(hT.2 3 (by omega)).1;have ha1:=(hT.2 3 (by omega)).2;simp only [accLo,accHi,Nat.reduceMul,Nat.reduceAdd,Nat.reduceEqDiff,if_true,if_false,Nat.reduceMod,Nat.reduceDiv] at ha0 ha1;generalize hr:qGj s.size x0.toNat x1.toNat x2.toNat=r
   rw [qGj,if_neg h0,hX] at hr;simp only [Nat.reduceMod,Nat.reduceDiv,accLo,accHi,Nat.reduceEqDiff,if_true,if_false] at hr;clear hT hX;by_cases hk:4≤s.size
   ·have hz1:((4:Int)≤(s.size:Int)):=by omega
    rw [if_pos (by omega)] at hr;subst hr;go_enter Tryd.func131,Tryd.ntmps131
    go_wp2
    go_ret
    exact ⟨rfl,Below.refl _ _⟩
   ·have Hr:=(HidF.mk hr);clear hr;rcases (show s.size=1∨s.size=2∨s.size=3 by omega) with hn | hn | hn
    ·have hz:(s.size:Int)=1:=by omega
     go_enter Tryd.func131,Tryd.ntmps131
     go_wp2
     go_quiet (fail)
     go_wp2
     all_goals (go_ret; refine ⟨?_,qBl ((Below.refl _ _).alloc (Nat.le_refl _) _) _⟩; rw [←Hr.out]; (repeat' split) <;> first | rfl | (exfalso; omega))
    ·have hz:(s.size:Int)=2:=by omega
     have hs1:s[1]'(by omega)=x1:=by rw [←hx1]; exact (Utf8W.get!_of_lt s 1 (by omega)).symm
     by_cases c0:(x1.toNat:Int)<144
     ·have d0:=deT c0;go_enter Tryd.func131,Tryd.ntmps131
      go_wp2
      go_quiet (fail)
      go_wp2
      all_goals (go_ret; refine ⟨?_,qBl ((Below.refl _ _).alloc (Nat.le_refl _) _) _⟩; rw [←Hr.out]; (repeat' split) <;> first | rfl | (exfalso; omega))
     ·have d0:=deF c0;by_cases c1:(191:Int)<(x1.toNat:Int)
      ·have d1:=deT c1;go_enter Tryd.func131,Tryd.ntmps131
       go_wp2
       go_quiet (fail)
       go_wp2
       all_goals (go_ret; refine ⟨?_,qBl ((Below.refl _ _).alloc (Nat.le_refl _) _) _⟩; rw [←Hr.out]; (repeat' split) <;> first | rfl | (exfalso; omega))
      ·have d1:=deF c1;go_enter Tryd.func131,Tryd.ntmps131
       go_wp2
       go_quiet (fail)
       go_wp2
       all_goals (go_ret; refine ⟨?_,qBl ((Below.refl _ _).alloc (Nat.le_refl _) _) _⟩; rw [←Hr.out]; (repeat' split) <;> first | rfl | (exfalso; omega))
    ·have hz:(s.size:Int)=3:=by omega
     have hs1:s[1]'(by omega)=x1:=by rw [←hx1]; exact (Utf8W.get!_of_lt s 1 (by omega)).symm
     have hs2:s[2]'(by omega)=x2:=by rw [←hx2]; exact (Utf8W.get!_of_lt s 2 (by omega)).symm
     by_cases c0:(x1.toNat:Int)<144
     ·have d0:=deT c0;go_enter Tryd.func131,Tryd.ntmps131
      go_wp2
      go_quiet (fail)
      go_wp2
      all_goals (go_ret; refine ⟨?_,qBl ((Below.refl _ _).alloc (Nat.le_refl _) _) _⟩; rw [←Hr.out]; (repeat' split) <;> first | rfl | (exfalso; omega))
     ·have d0:=deF c0;by_cases c1:(191:Int)<(x1.toNat:Int)
      ·have d1:=deT c1;go_enter Tryd.func131,Tryd.ntmps131
       go_wp2
       go_quiet (fail)
       go_wp2
       all_goals (go_ret; refine ⟨?_,qBl ((Below.refl _ _).alloc (Nat.le_refl _) _) _⟩; rw [←Hr.out]; (repeat' split) <;> first | rfl | (exfalso; omega))
      ·have d1:=deF c1;by_cases c2:(x2.toNat:Int)<128
       ·have d2:=deT c2;go_enter Tryd.func131,Tryd.ntmps131
        go_wp2
        go_quiet (fail)
        go_wp2
        all_goals (go_ret; refine ⟨?_,qBl ((Below.refl _ _).alloc (Nat.le_refl _) _) _⟩; rw [←Hr.out]; (repeat' split) <;> first | rfl | (exfalso; omega))
       ·have d2:=deF c2;by_cases c3:(191:Int)<(x2.toNat:Int)
        ·have d3:=deT c3;go_enter Tryd.func131,Tryd.ntmps131
         go_wp2
         go_quiet (fail)
         go_wp2
         all_goals (go_ret; refine ⟨?_,qBl ((Below.refl _ _).alloc (Nat.le_refl _) _) _⟩; rw [←Hr.out]; (repeat' split) <;> first | rfl | (exfalso; omega))
        ·have d3:=deF c3;go_enter Tryd.func131,Tryd.ntmps131
         go_wp2
         go_quiet (fail)
         go_wp2
         all_goals (go_ret; refine ⟨?_,qBl ((Below.refl _ _).alloc (Nat.le_refl _) _) _⟩; rw [←Hr.out]; (repeat' split) <;> first | rfl | (exfalso; omega))
  ·rw [hX] at hc0;have ha0:=(hT.2 0 (by omega)).1;have ha1:=(hT.2 0 (by omega)).2;simp only [accLo,accHi,Nat.reduceMul,Nat.reduceAdd,Nat.reduceEqDiff,if_true,if_false,Nat.reduceMod,Nat.reduceDiv] at ha0 ha1;generalize hr:qGj s.size x0.toNat x1.toNat x2.toNat=r
   rw [qGj,if_neg h0,hX] at hr;simp only [Nat.reduceMod,Nat.reduceDiv,accLo,accHi,Nat.reduceEqDiff,if_true,if_false] at hr;clear hT hX;by_cases hk:4≤s.size
   ·have hz1:((4:Int)≤(s.size:Int)):=by omega
    rw [if_pos (by omega)] at hr;subst hr;go_enter Tryd.func131,Tryd.ntmps131
    go_wp2
    go_ret
    exact ⟨rfl,Below.refl _ _⟩
   ·have Hr:=(HidF.mk hr);clear hr;rcases (show s.size=1∨s.size=2∨s.size=3 by omega) with hn | hn | hn
    ·have hz:(s.size:Int)=1:=by omega
     go_enter Tryd.func131,Tryd.ntmps131
     go_wp2
     go_quiet (fail)
     go_wp2
     all_goals (go_ret; refine ⟨?_,qBl ((Below.refl _ _).alloc (Nat.le_refl _) _) _⟩; rw [←Hr.out]; (repeat' split) <;> first | rfl | (exfalso; omega))
    ·have hz:(s.size:Int)=2:=by omega
     have hs1:s[1]'(by omega)=x1:=by rw [←hx1]; exact (Utf8W.get!_of_lt s 1 (by omega)).symm
     by_cases c0:(x1.toNat:Int)<128
     ·have d0:=deT c0;go_enter Tryd.func131,Tryd.ntmps131
      go_wp2
      go_quiet (fail)
      go_wp2
      all_goals (go_ret; refine ⟨?_,qBl ((Below.refl _ _).alloc (Nat.le_refl _) _) _⟩; rw [←Hr.out]; (repeat' split) <;> first | rfl | (exfalso; omega))
     ·have d0:=deF c0;by_cases c1:(191:Int)<(x1.toNat:Int)
      ·have d1:=deT c1;go_enter Tryd.func131,Tryd.ntmps131
       go_wp2
       go_quiet (fail)
       go_wp2
       all_goals (go_ret; refine ⟨?_,qBl ((Below.refl _ _).alloc (Nat.le_refl _) _) _⟩; rw [←Hr.out]; (repeat' split) <;> first | rfl | (exfalso; omega))
      ·have d1:=deF c1;go_enter Tryd.func131,Tryd.ntmps131
       go_wp2
       go_quiet (fail)
       go_wp2
       all_goals (go_ret; refine ⟨?_,qBl ((Below.refl _ _).alloc (Nat.le_refl _) _) _⟩; rw [←Hr.out]; (repeat' split) <;> first | rfl | (exfalso; omega))
    ·have hz:(s.size:Int)=3:=by omega
     have hs1:s[1]'(by omega)=x1:=by rw [←hx1]; exact (Utf8W.get!_of_lt s 1 (by omega)).symm
     have hs2:s[2]'(by omega)=x2:=by rw [←hx2]; exact (Utf8W.get!_of_lt s 2 (by omega)).symm
     by_cases c0:(x1.toNat:Int)<128
     ·have d0:=deT c0;go_enter Tryd.func131,Tryd.ntmps131
      go_wp2
      go_quiet (fail)
      go_wp2
      all_goals (go_ret; refine ⟨?_,qBl ((Below.refl _ _).alloc (Nat.le_refl _) _) _⟩; rw [←Hr.out]; (repeat' split) <;> first | rfl | (exfalso; omega))
     ·have d0:=deF c0;by_cases c1:(191:Int)<(x1.toNat:Int)
      ·have d1:=deT c1;go_enter Tryd.func131,Tryd.ntmps131
       go_wp2
       go_quiet (fail)
       go_wp2
       all_goals (go_ret; refine ⟨?_,qBl ((Below.refl _ _).alloc (Nat.le_refl _) _) _⟩; rw [←Hr.out]; (repeat' split) <;> first | rfl | (exfalso; omega))
      ·have d1:=deF c1;by_cases c2:(x2.toNat:Int)<128
       ·have d2:=deT c2;go_enter Tryd.func131,Tryd.ntmps131
        go_wp2
        go_quiet (fail)
        go_wp2
        all_goals (go_ret; refine ⟨?_,qBl ((Below.refl _ _).alloc (Nat.le_refl _) _) _⟩; rw [←Hr.out]; (repeat' split) <;> first | rfl | (exfalso; omega))
       ·have d2:=deF c2;by_cases c3:(191:Int)<(x2.toNat:Int)
        ·have d3:=deT c3;go_enter Tryd.func131,Tryd.ntmps131
         go_wp2
         go_quiet (fail)
         go_wp2
         all_goals (go_ret; refine ⟨?_,qBl ((Below.refl _ _).alloc (Nat.le_refl _) _) _⟩; rw [←Hr.out]; (repeat' split) <;> first | rfl | (exfalso; omega))
        ·have d3:=deF c3;go_enter Tryd.func131,Tryd.ntmps131
         go_wp2
         go_quiet (fail)
         go_wp2
         all_goals (go_ret; refine ⟨?_,qBl ((Below.refl _ _).alloc (Nat.le_refl _) _) _⟩; rw [←Hr.out]; (repeat' split) <;> first | rfl | (exfalso; omega))
  ·rw [hX] at hc0;have ha0:=(hT.2 4 (by omega)).1;have ha1:=(hT.2 4 (by omega)).2;simp only [accLo,accHi,Nat.reduceMul,Nat.reduceAdd,Nat.reduceEqDiff,if_true,if_false,Nat.reduceMod,Nat.reduceDiv] at ha0 ha1;generalize hr:qGj s.size x0.toNat x1.toNat x2.toNat=r
   rw [qGj,if_neg h0,hX] at hr;simp only [Nat.reduceMod,Nat.reduceDiv,accLo,accHi,Nat.reduceEqDiff,if_true,if_false] at hr;clear hT hX;by_cases hk:4≤s.size
   ·have hz1:((4:Int)≤(s.size:Int)):=by omega
    rw [if_pos (by omega)] at hr;subst hr;go_enter Tryd.func131,Tryd.ntmps131
    go_wp2
    go_ret
    exact ⟨rfl,Below.refl _ _⟩
   ·have Hr:=(HidF.mk hr);clear hr;rcases (show s.size=1∨s.size=2∨s.size=3 by omega) with hn | hn | hn
    ·have hz:(s.size:Int)=1:=by omega
     go_enter Tryd.func131,Tryd.ntmps131
     go_wp2
     go_quiet (fail)
     go_wp2
     all_goals (go_ret; refine ⟨?_,qBl ((Below.refl _ _).alloc (Nat.le_refl _) _) _⟩; rw [←Hr.out]; (repeat' split) <;> first | rfl | (exfalso; omega))
    ·have hz:(s.size:Int)=2:=by omega
     have hs1:s[1]'(by omega)=x1:=by rw [←hx1]; exact (Utf8W.get!_of_lt s 1 (by omega)).symm
     by_cases c0:(x1.toNat:Int)<128
     ·have d0:=deT c0;go_enter Tryd.func131,Tryd.ntmps131
      go_wp2
      go_quiet (fail)
      go_wp2
      all_goals (go_ret; refine ⟨?_,qBl ((Below.refl _ _).alloc (Nat.le_refl _) _) _⟩; rw [←Hr.out]; (repeat' split) <;> first | rfl | (exfalso; omega))
     ·have d0:=deF c0;by_cases c1:(143:Int)<(x1.toNat:Int)
      ·have d1:=deT c1;go_enter Tryd.func131,Tryd.ntmps131
       go_wp2
       go_quiet (fail)
       go_wp2
       all_goals (go_ret; refine ⟨?_,qBl ((Below.refl _ _).alloc (Nat.le_refl _) _) _⟩; rw [←Hr.out]; (repeat' split) <;> first | rfl | (exfalso; omega))
      ·have d1:=deF c1;go_enter Tryd.func131,Tryd.ntmps131
       go_wp2
       go_quiet (fail)
       go_wp2
       all_goals (go_ret; refine ⟨?_,qBl ((Below.refl _ _).alloc (Nat.le_refl _) _) _⟩; rw [←Hr.out]; (repeat' split) <;> first | rfl | (exfalso; omega))
    ·have hz:(s.size:Int)=3:=by omega
     have hs1:s[1]'(by omega)=x1:=by rw [←hx1]; exact (Utf8W.get!_of_lt s 1 (by omega)).symm
     have hs2:s[2]'(by omega)=x2:=by rw [←hx2]; exact (Utf8W.get!_of_lt s 2 (by omega)).symm
     by_cases c0:(x1.toNat:Int)<128
     ·have d0:=deT c0;go_enter Tryd.func131,Tryd.ntmps131
      go_wp2
      go_quiet (fail)
      go_wp2
      all_goals (go_ret; refine ⟨?_,qBl ((Below.refl _ _).alloc (Nat.le_refl _) _) _⟩; rw [←Hr.out]; (repeat' split) <;> first | rfl | (exfalso; omega))
     ·have d0:=deF c0;by_cases c1:(143:Int)<(x1.toNat:Int)
      ·have d1:=deT c1;go_enter Tryd.func131,Tryd.ntmps131
       go_wp2
       go_quiet (fail)
       go_wp2
       all_goals (go_ret; refine ⟨?_,qBl ((Below.refl _ _).alloc (Nat.le_refl _) _) _⟩; rw [←Hr.out]; (repeat' split) <;> first | rfl | (exfalso; omega))
      ·have d1:=deF c1;by_cases c2:(x2.toNat:Int)<128
       ·have d2:=deT c2;go_enter Tryd.func131,Tryd.ntmps131
        go_wp2
        go_quiet (fail)
        go_wp2
        all_goals (go_ret; refine ⟨?_,qBl ((Below.refl _ _).alloc (Nat.le_refl _) _) _⟩; rw [←Hr.out]; (repeat' split) <;> first | rfl | (exfalso; omega))
       ·have d2:=deF c2;by_cases c3:(191:Int)<(x2.toNat:Int)
        ·have d3:=deT c3;go_enter Tryd.func131,Tryd.ntmps131
         go_wp2
         go_quiet (fail)
         go_wp2
         all_goals (go_ret; refine ⟨?_,qBl ((Below.refl _ _).alloc (Nat.le_refl _) _) _⟩; rw [←Hr.out]; (repeat' split) <;> first | rfl | (exfalso; omega))
        ·have d3:=deF c3;go_enter Tryd.func131,Tryd.ntmps131
         go_wp2
         go_quiet (fail)
         go_wp2
         all_goals (go_ret; refine ⟨?_,qBl ((Below.refl _ _).alloc (Nat.le_refl _) _) _⟩; rw [←Hr.out]; (repeat' split) <;> first | rfl | (exfalso; omega))
end Go.Proofs.YticplgndjpljiaaDoor
namespace Go.Proofs.YticplgndjpljiaaDoor
open Go.Eng
set_option linter.unusedVariables false
set_option linter.unusedSimpArgs false
def by8 (t:BA) (i:Nat):Nat:=(t.get! i).toNat
theorem by8_lt (t:BA) (i:Nat):by8 t i<256:=UInt8.toNat_lt _
theorem by8_in {t:BA} {i:Nat} (h:i<t.size):bAt t (i:Int)=(by8 t i:Int):=by
 rw [bAt_in h];unfold by8;congr 2
 cases t with
 | mk d=>exact (getElem!_pos d i h).symm
def qFj (n:Nat) (b:Nat→Nat):Nat→Nat→Nat→Nat→Int
 | 0,_,_,_=>0
 | m+1,i,lo,hi=>if n≤i then 31 else if b i<lo∨hi<b i then 32 else qFj n b m (i+1) 128 191
theorem contN_cases (n:Nat) (b:Nat→Nat):∀(m i lo hi:Nat),qFj n b m i lo hi=0∨qFj n b m i lo hi=31∨qFj n b m i lo hi=32
 | 0,_,_,_=>.inl rfl
 | m+1,i,lo,hi=>by
  unfold qFj;split
  ·exact .inr (.inl rfl)
  ·split
   ·exact .inr (.inr rfl)
   ·exact contN_cases n b m _ _ _
theorem p_cont (t:BA) (a:Nat) (ha:a≤t.size) (hs:t.size≤3000000):∀(m i lo hi:Nat),1≤i→i+m≤5 →
  qBc t (a:Int) ((i:Int)+m - 1) (lo:Int) (hi:Int) (i:Int)=some (if qFj (t.size - a) (fun k=>by8 t (a+k)) m i lo hi=0 then .inr () else .inl (0,⟨#[]⟩,qFj (t.size - a) (fun k=>by8 t (a+k)) m i lo hi,if qFj (t.size - a) (fun k=>by8 t (a+k)) m i lo hi=31 then (t.size:Int) else (a:Int),[]))
 | 0,i,lo,hi,h1,h2=>by
  rw [qFj,if_pos rfl];unfold qBc;refine qAj ?_;unfold qA4;dsimp only;rw [deF (by omega),cnF]
 | m+1,i,lo,hi,h1,h2=>by
  obtain ⟨b1,b2⟩:=byteAt_some t ((a:Int)+i) (by omega);have e:qFj (t.size - a) (fun k=>by8 t (a+k)) (m+1) i lo hi=if t.size - a≤i then 31 else if by8 t (a+i)<lo∨hi<by8 t (a+i) then 32 else qFj (t.size - a) (fun k=>by8 t (a+k)) m (i+1) 128 191:=rfl
  have hin:((i:Int)≤(i:Int)+((m+1:Nat):Int) - 1):=by omega
  generalize hn:(i:Int)+((m+1:Nat):Int) - 1=n at *
  by_cases hc:t.size - a≤i
  ·rw [if_pos hc] at e;rw [e,if_neg (by decide),if_pos rfl];unfold qBc;refine qAj ?_;unfold qA4;dsimp only;rw [deT hin,cnT,qAa (by unfold qAe; omega),b1,if_pos (by omega),obS,deT (by decide),cnT];rfl
  ·rw [if_neg hc] at e;have hb:=by8_in (t:=t) (i:=a+i) (by omega);rw [show ((a+i:Nat):Int)=(a:Int)+i by omega] at hb;rw [if_neg (by omega),hb] at b1;by_cases hd:by8 t (a+i)<lo∨hi<by8 t (a+i)
   ·rw [if_pos hd] at e;rw [e,if_neg (by decide),if_neg (by decide)];unfold qBc;refine qAj ?_;unfold qA4;dsimp only;rw [deT hin,cnT,qAa (by unfold qAe; omega),b1,obS,deF (by omega),cnF];have:(decide ((by8 t (a+i):Int)<(lo:Int)) || decide ((hi:Int)<(by8 t (a+i):Int)))=true:=by
     simp only [Bool.or_eq_true,decide_eq_true_eq]; omega
    rw [this,cnT];rfl
   ·rw [if_neg hd] at e;rw [e];have ih:=p_cont t a ha hs m (i+1) 128 191 (by omega) (by omega);rw [show ((i+1:Nat):Int)+m - 1=n by omega] at ih;rw [←ih];unfold qBc;refine qAs (y:=(((128:Nat):Int),((191:Nat):Int),((i+1:Nat):Int))) ?_;unfold qA4;dsimp only;rw [deT hin,cnT,qAa (by unfold qAe; omega),b1,obS,deF (by omega),cnF];have:(decide ((by8 t (a+i):Int)<(lo:Int)) || decide ((hi:Int)<(by8 t (a+i):Int)))=false:=by
     simp only [Bool.or_eq_false_iff,decide_eq_false_iff_not]; omega
    rw [this,cnF];exact qAa (by unfold qAe; omega) _
set_option maxRecDepth 100000 in
theorem p_bounds':∀c:Fin 256,128≤c.val→qGg (c.val:Int)=some (if Lib.firstT c.val=241 then (-1,0,0) else (((Lib.firstT c.val % 8:Nat):Int) - 1,((Lib.accLo (Lib.firstT c.val / 16):Nat):Int),((Lib.accHi (Lib.firstT c.val / 16):Nat):Int))):=by
 decide +kernel
theorem firstT_low:∀c:Fin 256,128≤c.val→Lib.firstT c.val≠240:=by decide +kernel
def seqK (t:BA) (a:Nat):Int :=
 if Lib.firstT (by8 t a)=241 then 32 else qFj (t.size - a) (fun k=>by8 t (a+k)) (Lib.firstT (by8 t a) % 8 - 1) 1 (Lib.accLo (Lib.firstT (by8 t a) / 16)) (Lib.accHi (Lib.firstT (by8 t a) / 16))
def seqW (t:BA) (a:Nat):Nat:=Lib.firstT (by8 t a) % 8
theorem seqK_cases (t:BA) (a:Nat):seqK t a=0∨seqK t a=31∨seqK t a=32:=by
 unfold seqK;split
 ·exact .inr (.inr rfl)
 ·exact contN_cases _ _ _ _ _ _
theorem firstT_three {b:Nat} (h:128≤b) (hb:b<256) (h2:Lib.firstT b≠241):2≤Lib.firstT b % 8∧Lib.firstT b % 8≤4:=by
 have:=firstT_low ⟨b,hb⟩ h;rcases Lib.firstT_cases b with h | h | h | h | h | h | h | h | h <;> simp only [h] at * <;> omega
theorem contN_in {n:Nat} {b:Nat→Nat}:∀ {m i lo hi:Nat},qFj n b m i lo hi=0→m=0∨i+m≤n
 | 0,_,_,_,_=>.inl rfl
 | m+1,i,lo,hi,h=>by
  unfold qFj at h;split at h
  ·cases h
  ·split at h
   ·cases h
   ·rcases contN_in h with h | h <;> omega
theorem seqW_in {t:BA} {a:Nat} (ha:a<t.size) (h:128≤by8 t a) (h0:seqK t a=0):a+seqW t a≤t.size∧2≤seqW t a∧seqW t a≤4:=by
 unfold seqK at h0;unfold seqW;split at h0
 ·cases h0
 ·rename_i h1;have:=firstT_three h (by8_lt t a) h1;rcases contN_in h0 with h2 | h2 <;> omega
theorem p_seq {t:BA} {a:Nat} (ha:a<t.size) (hs:t.size≤3000000) (h:128≤by8 t a) :
  qDb t (a:Int)=some (if seqK t a=0 then ⟨((a+seqW t a:Nat):Int),[],t.extract a (a+seqW t a),0,0⟩ else ⟨0,[],⟨#[]⟩,seqK t a,if seqK t a=31 then (t.size:Int) else (a:Int)⟩):=by
 have hb:=by8_in ha;have hl:=by8_lt t a;have hbo:=p_bounds' ⟨by8 t a,hl⟩ h;simp only at hbo;have hi:=@seqW_in t a ha h;unfold qDb;rw [qAa (by omega),qAa (by unfold qAe; rw [hb]; omega),hb,hbo,obS];by_cases h1:Lib.firstT (by8 t a)=241
 ·have e:seqK t a=32:=by unfold seqK; rw [if_pos h1]
  rw [if_pos h1,e,if_neg (by decide),if_neg (by decide)];rw [deT (by decide),cnT];rfl
 ·have h3:=firstT_three h hl h1;have e:seqK t a=qFj (t.size - a) (fun k=>by8 t (a+k)) (Lib.firstT (by8 t a) % 8 - 1) 1 (Lib.accLo (Lib.firstT (by8 t a) / 16)) (Lib.accHi (Lib.firstT (by8 t a) / 16)):=by unfold seqK; rw [if_neg h1]
  rw [if_neg h1];have hw:seqW t a=Lib.firstT (by8 t a) % 8:=rfl;have pc:=p_cont t a (by omega) hs (Lib.firstT (by8 t a) % 8 - 1) 1 (Lib.accLo (Lib.firstT (by8 t a) / 16)) (Lib.accHi (Lib.firstT (by8 t a) / 16)) (by omega) (by omega);rw [←e] at pc;rw [show ((1:Nat):Int)+((Lib.firstT (by8 t a) % 8 - 1:Nat):Int) - 1=((Lib.firstT (by8 t a) % 8:Nat):Int) - 1 by omega] at pc;rw [←hw] at pc h3 ⊢;dsimp only;rw [deF (by omega),cnF];rw [show ((1:Nat):Int)=1 from rfl] at pc;rw [pc,obS];by_cases h0:seqK t a=0
  ·rw [if_pos h0,if_pos h0];have hi:=hi h0;simp only [Sum.elim_inr];refine (qAa (by unfold qAe; omega) _).trans ((qAa (by unfold qAe; omega) _).trans ((qAa (by unfold qAe; omega) _).trans ((qAa (by unfold qAe; omega) _).trans ((qAa (by omega) _).trans ?_))));rw [show (a:Int)+((seqW t a:Int) - 1)+1=((a+seqW t a:Nat):Int) by omega];simp only [Int.toNat_natCast]
  ·rw [if_neg h0,if_neg h0];rfl
set_option maxRecDepth 100000 in
set_option maxHeartbeats 4000000 in
theorem seq_dec {t:BA} {a:Nat} (ha:a<t.size) (h:128≤by8 t a) :
  (seqK t a=0→(Utf8.decode t a).2=seqW t a) ∧
  (seqK t a≠0→Utf8.decode t a=(65533,1)∧(qGj (t.size - a) (by8 t a) (by8 t (a+1)) (by8 t (a+2))=!decide (seqK t a=31))):=by
 have l0:=by8_lt t a;have l1:=by8_lt t (a+1);have l2:=by8_lt t (a+2);have l3:=by8_lt t (a+3);have hd:Utf8.decode t a=Lib.decodeN (t.size - a) (by8 t a) (by8 t (a+1)) (by8 t (a+2)) (by8 t (a+3)):=Lib.decode_at t a;have hf:=firstT_low ⟨by8 t a,l0⟩ h;simp only at hf;rw [hd];unfold seqK seqW;by_cases h1:Lib.firstT (by8 t a)=241
 ·rw [if_pos h1];refine ⟨fun h=>(by cases h),fun _=>⟨Lib.bad_eq _ _ _ _ _ l0 h1,?_⟩⟩;unfold qGj;rw [if_neg (by omega),h1,if_pos (by omega)];rfl
 ·rw [if_neg h1,←Lib.slow_eq _ _ _ _ _ (by omega) l1 l2 l3 (by rcases Lib.firstT_cases (by8 t a) with h | h | h | h | h | h | h | h | h <;> omega)]
  have hn:1≤t.size - a:=by omega
  generalize t.size - a=n at *
  unfold qGj;generalize hb1:by8 t (a+1)=b1 at *
  generalize hb2:by8 t (a+2)=b2 at *
  generalize hb3:by8 t (a+3)=b3 at *
  generalize by8 t a=b0 at *
  rcases Lib.firstT_cases b0 with g | g | g | g | g | g | g | g | g <;> first | exact (hf g).elim | exact (h1 g).elim | rw [g]
  all_goals
   simp only [Nat.reduceMod,Nat.reduceDiv,Nat.reduceSub,qFj,Lib.slowN,Lib.accLo,Lib.accHi,Nat.reduceEqDiff,Nat.reduceAdd,Nat.reduceLeDiff,if_true,if_false,hb1,hb2,hb3];repeat' split
   all_goals first | (exfalso; omega) | (refine ⟨fun h=>?_,fun h=>⟨?_,?_⟩⟩ <;> first | rfl | (exfalso; omega) | (cases h) | (exact (h rfl).elim))
theorem utf_at (s:BA) (hs:s.size≤3000000):∀(j a:Nat),s.size - a≤j→a≤s.size→qBt s (a:Int)=some (if Lib.validD (s.data.toList.drop a)=true then .inr () else .inl false)
 | 0,a,h1,h2=>by
  have:s.data.toList.drop a=[]:=List.drop_eq_nil_of_le (by rw [Array.length_toList]; have:s.size=s.data.size:=rfl; omega);rw [this,Lib.validD_nil,if_pos rfl];unfold qBt;refine qAj ?_;unfold qBd;rw [deF (by omega),cnF]
 | j+1,a,h1,h2=>by
  by_cases hlt:a<s.size
  ·have hne:s.data.toList.drop a≠[]:=by
    intro h;have:=congrArg List.length h;rw [List.length_drop,Array.length_toList] at this;have:s.size=s.data.size:=rfl;simp at *
    omega
   have hv:=Lib.validD_step _ hne;rw [Lib.decodeL_drop,List.drop_drop] at hv;have hb:=by8_in hlt;by_cases hc:by8 s a<128
   ·have hd:Utf8.decode s a=(by8 s a,1):=by
     rw [Lib.decode_at];refine Lib.ascii_eq _ _ _ _ _ ?_;show Lib.firstT (by8 s a)=240;unfold Lib.firstT;rw [if_pos hc]
    rw [hd] at hv;rw [if_neg (by simp only; omega)] at hv;rw [hv,←utf_at s hs j (a+1) (by omega) (by omega)];unfold qBt;refine qAs ?_;unfold qBd;rw [deT (by omega),cnT,qAa (by omega),hb,deT (by omega),cnT];exact qAa (by unfold qAe; omega) _
   ·have ps:=p_seq hlt hs (by omega);obtain ⟨d1,d2⟩:=seq_dec hlt (show 128≤by8 s a by omega);by_cases h0:seqK s a=0
    ·rw [if_pos h0] at ps;have hw:=seqW_in hlt (show 128≤by8 s a by omega) h0;rw [d1 h0,if_neg (by omega)] at hv;rw [hv,←utf_at s hs j (a+seqW s a) (by omega) (by omega)];unfold qBt;refine qAs ?_;unfold qBd;rw [deT (by omega),cnT,qAa (by omega),hb,deF (by omega),cnF,ps,obS];rw [deT rfl,Bool.not_true,cnF]
    ·rw [if_neg h0] at ps;rw [(d2 h0).1,if_pos ⟨rfl,rfl⟩] at hv;rw [hv,if_neg (by decide)];unfold qBt;refine qAj ?_;unfold qBd;rw [deT (by omega),cnT,qAa (by omega),hb,deF (by omega),cnF,ps,obS];rw [deF h0,Bool.not_false,cnT]
  ·have:s.data.toList.drop a=[]:=List.drop_eq_nil_of_le (by rw [Array.length_toList]; have:s.size=s.data.size:=rfl; omega);rw [this,Lib.validD_nil,if_pos rfl];unfold qBt;refine qAj ?_;unfold qBd;rw [deF (by omega),cnF]
theorem p_utf (s:BA) (hs:s.size≤3000000):qFp s=some (Lib.validD s.data.toList):=by
 have h:=utf_at s hs s.size 0 (by omega) (by omega);rw [List.drop_zero,show ((0:Nat):Int)=0 from rfl] at h;unfold qFp;rw [h,obS];cases Lib.validD s.data.toList <;> rfl
end Go.Proofs.YticplgndjpljiaaDoor
