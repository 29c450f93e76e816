/-
  Texts of a claim.
-/
import Derived.Shelf.Unicode.DecodeSlow
import Derived.WalkKit
import Derived.Below
import Derived.BigQuiet
import Derived.Shelf.Unicode.ValidAny
import Derived.Shelf.Unicode.DecodeAny
import Derived.Shelf.Lay
import Derived.Ground.NamesProg
import Derived.Lib.ValidLaws
import Derived.Lib.DecodeNEq
import Derived.Test.YtbokbmjcodoccacDoorProg
import Derived.Test.YtbokbmjcodoccacDoorJR
set_option linter.unusedSimpArgs false
set_option linter.unusedVariables false
namespace Go.Proofs.YtbokbmjcodoccacDoor
open Go.RowKit Go.Lib
def qFo(n b0 b1 b2:Nat):Bool :=
 if n=0 then false else if Lib.firstT b0 % 8<=n then true else if 1<n/\(b1<Lib.accLo (Lib.firstT b0 / 16)\/Lib.accHi (Lib.firstT b0 / 16)<b1) then true else if 2<n/\(b2<128\/191<b2) then true else false
structure HidF (p:Prop):Prop where
 out:p
theorem belowN{B:Nat}{a w:World}(h:Below B a w)(n:Nat):Below B a (w.drewN n):=h.trans ⟨rfl,rfl,rfl,Nat.le_refl _,λ_ _=>rfl⟩
theorem emB:∀a b:Bool,a=true\/a=false/\(b=true\/b=false):=by decide
theorem emD:∀a b c d:Bool,a=true\/a=false/\(b=true\/b=false/\(c=true\/c=false/\(d=true\/d=false))):=by decide
def fullS(s:BA):Bool:=qFo s.size (s.get! 0).toNat (s.get! 1).toNat (s.get! 2).toNat
set_option maxHeartbeats 4000000 in
set_option maxRecDepth 1000000 in
theorem full_run(s:BA)(w:World)(hS:s.size<=9223372036854775807)(hT:Lib.Utf8Tabs 0 1 w) :
  Calls Tryd.prog 45 #[.string s] w λe w'=>e=.returned (.bool (fullS s))/\Below w.heap.size w w':=by
 unfold fullS;by_cases h0:s.size=0
 ·have hz:(s.size:Int)=0:=by omega
  rw[qFo,if_pos h0];go_enter Tryd.func45,Tryd.ntmps45
  go_wp2
  go_ret
  exact⟨rfl,Below.refl _ _⟩
 ·have hz0:(0:Int)<(s.size:Int):=by omega
  have hz0':¬((s.size:Int)=0):=by omega
  obtain⟨x0,hx0⟩:∃x,s.get! 0=x:=⟨_,rfl⟩;obtain⟨x1,hx1⟩:∃x,s.get! 1=x:=⟨_,rfl⟩;obtain⟨x2,hx2⟩:∃x,s.get! 2=x:=⟨_,rfl⟩;have hs0:s[0]'(by omega)=x0:=by rw[<-hx0];exact(Utf8W.get!_of_lt s 0 (by omega)).symm
  have l0:=x0.toNat_lt;have l1:=x1.toNat_lt;have l2:=x2.toNat_lt;have hc0:=hT.1 x0.toNat (by omega);rw[hx0,hx1,hx2];rcases Lib.firstT_cases x0.toNat with hX | hX | hX | hX | hX | hX | hX | hX | hX
  ·rw[qFo,if_neg h0,hX,if_pos (by omega)];rw[hX] at hc0;have hz1:((0:Int)<=(s.size:Int)):=by omega
   clear hT hX;go_enter Tryd.func45,Tryd.ntmps45
   go_wp2
   go_ret
   exact⟨rfl,Below.refl _ _⟩
  ·rw[qFo,if_neg h0,hX,if_pos (by omega)];rw[hX] at hc0;have hz1:((1:Int)<=(s.size:Int)):=by omega
   clear hT hX;go_enter Tryd.func45,Tryd.ntmps45
   go_wp2
   go_ret
   exact⟨rfl,Below.refl _ _⟩
  ·rw[hX] at hc0;have ha0:=(hT.2 0 (by omega)).1;have ha1:=(hT.2 0 (by omega)).2;simp only[accLo,accHi,Nat.reduceMul,Nat.reduceAdd,Nat.reduceEqDiff,if_true,if_false,Nat.reduceMod,Nat.reduceDiv] at ha0 ha1;generalize hr:qFo s.size x0.toNat x1.toNat x2.toNat=r
   rw[qFo,if_neg h0,hX] at hr;simp only[Nat.reduceMod,Nat.reduceDiv,accLo,accHi,Nat.reduceEqDiff,if_true,if_false] at hr;clear hT hX;by_cases hk:2<=s.size
   ·have hz1:((2:Int)<=(s.size:Int)):=by omega
    rw[if_pos (by omega)] at hr;subst hr;go_enter Tryd.func45,Tryd.ntmps45
    go_wp2
    go_ret
    exact⟨rfl,Below.refl _ _⟩
   ·have Hr:=(HidF.mk hr);clear hr;rcases (show(s.size:Int)=1 by omega) with hz
    all_goals
     go_enter Tryd.func45,Tryd.ntmps45
     go_wp2
     go_quiet (fail)
     go_wp2
     all_goals (go_ret;refine⟨?_,belowN ((Below.refl _ _).alloc (Nat.le_refl _) _) _⟩;rw[<-Hr.out];(repeat' split) <;> first | rfl | (exfalso;first | omega | (simp only[decide_eq_true_eq,decide_eq_false_iff_not] at *;omega)))
  ·rw[hX] at hc0;have ha0:=(hT.2 1 (by omega)).1;have ha1:=(hT.2 1 (by omega)).2;simp only[accLo,accHi,Nat.reduceMul,Nat.reduceAdd,Nat.reduceEqDiff,if_true,if_false,Nat.reduceMod,Nat.reduceDiv] at ha0 ha1;generalize hr:qFo s.size x0.toNat x1.toNat x2.toNat=r
   rw[qFo,if_neg h0,hX] at hr;simp only[Nat.reduceMod,Nat.reduceDiv,accLo,accHi,Nat.reduceEqDiff,if_true,if_false] at hr;clear hT hX;by_cases hk:3<=s.size
   ·have hz1:((3:Int)<=(s.size:Int)):=by omega
    rw[if_pos (by omega)] at hr;subst hr;go_enter Tryd.func45,Tryd.ntmps45
    go_wp2
    go_ret
    exact⟨rfl,Below.refl _ _⟩
   ·have Hr:=(HidF.mk hr);clear hr;rcases (show(s.size:Int)=1\/(s.size:Int)=2 by omega) with hz | hz
    rotate_left 1
    have hs1:s[1]'(by omega)=x1:=by rw[<-hx1];exact(Utf8W.get!_of_lt s 1 (by omega)).symm
    rcases emB (decide ((x1.toNat:Int)<160)) (decide ((191:Int)<(x1.toNat:Int))) with d0 | ⟨d0,d1 | d1⟩
    all_goals
     go_enter Tryd.func45,Tryd.ntmps45
     go_wp2
     go_quiet (fail)
     go_wp2
     all_goals (go_ret;refine⟨?_,belowN ((Below.refl _ _).alloc (Nat.le_refl _) _) _⟩;rw[<-Hr.out];(repeat' split) <;> first | rfl | (exfalso;first | omega | (simp only[decide_eq_true_eq,decide_eq_false_iff_not] at *;omega)))
  ·rw[hX] at hc0;have ha0:=(hT.2 0 (by omega)).1;have ha1:=(hT.2 0 (by omega)).2;simp only[accLo,accHi,Nat.reduceMul,Nat.reduceAdd,Nat.reduceEqDiff,if_true,if_false,Nat.reduceMod,Nat.reduceDiv] at ha0 ha1;generalize hr:qFo s.size x0.toNat x1.toNat x2.toNat=r
   rw[qFo,if_neg h0,hX] at hr;simp only[Nat.reduceMod,Nat.reduceDiv,accLo,accHi,Nat.reduceEqDiff,if_true,if_false] at hr;clear hT hX;by_cases hk:3<=s.size
   ·have hz1:((3:Int)<=(s.size:Int)):=by omega
    rw[if_pos (by omega)] at hr;subst hr;go_enter Tryd.func45,Tryd.ntmps45
    go_wp2
    go_ret
    exact⟨rfl,Below.refl _ _⟩
   ·have Hr:=(HidF.mk hr);clear hr;rcases (show(s.size:Int)=1\/(s.size:Int)=2 by omega) with hz | hz
    rotate_left 1
    have hs1:s[1]'(by omega)=x1:=by rw[<-hx1];exact(Utf8W.get!_of_lt s 1 (by omega)).symm
    rcases emB (decide ((x1.toNat:Int)<128)) (decide ((191:Int)<(x1.toNat:Int))) with d0 | ⟨d0,d1 | d1⟩
    all_goals
     go_enter Tryd.func45,Tryd.ntmps45
     go_wp2
     go_quiet (fail)
     go_wp2
     all_goals (go_ret;refine⟨?_,belowN ((Below.refl _ _).alloc (Nat.le_refl _) _) _⟩;rw[<-Hr.out];(repeat' split) <;> first | rfl | (exfalso;first | omega | (simp only[decide_eq_true_eq,decide_eq_false_iff_not] at *;omega)))
  ·rw[hX] at hc0;have ha0:=(hT.2 2 (by omega)).1;have ha1:=(hT.2 2 (by omega)).2;simp only[accLo,accHi,Nat.reduceMul,Nat.reduceAdd,Nat.reduceEqDiff,if_true,if_false,Nat.reduceMod,Nat.reduceDiv] at ha0 ha1;generalize hr:qFo s.size x0.toNat x1.toNat x2.toNat=r
   rw[qFo,if_neg h0,hX] at hr;simp only[Nat.reduceMod,Nat.reduceDiv,accLo,accHi,Nat.reduceEqDiff,if_true,if_false] at hr;clear hT hX;by_cases hk:3<=s.size
   ·have hz1:((3:Int)<=(s.size:Int)):=by omega
    rw[if_pos (by omega)] at hr;subst hr;go_enter Tryd.func45,Tryd.ntmps45
    go_wp2
    go_ret
    exact⟨rfl,Below.refl _ _⟩
   ·have Hr:=(HidF.mk hr);clear hr;rcases (show(s.size:Int)=1\/(s.size:Int)=2 by omega) with hz | hz
    rotate_left 1
    have hs1:s[1]'(by omega)=x1:=by rw[<-hx1];exact(Utf8W.get!_of_lt s 1 (by omega)).symm
    rcases emB (decide ((x1.toNat:Int)<128)) (decide ((159:Int)<(x1.toNat:Int))) with d0 | ⟨d0,d1 | d1⟩
    all_goals
     go_enter Tryd.func45,Tryd.ntmps45
     go_wp2
     go_quiet (fail)
     go_wp2
     all_goals (go_ret;refine⟨?_,belowN ((Below.refl _ _).alloc (Nat.le_refl _) _) _⟩;rw[<-Hr.out];(repeat' split) <;> first | rfl | (exfalso;first | omega | (simp only[decide_eq_true_eq,decide_eq_false_iff_not] at *;omega)))
  ·rw[hX] at hc0;have ha0:=(hT.2 3 (by omega)).1;have ha1:=(hT.2 3 (by omega)).2;simp only[accLo,accHi,Nat.reduceMul,Nat.reduceAdd,Nat.reduceEqDiff,if_true,if_false,Nat.reduceMod,Nat.reduceDiv] at ha0 ha1;generalize hr:qFo s.size x0.toNat x1.toNat x2.toNat=r
   rw[qFo,if_neg h0,hX] at hr;simp only[Nat.reduceMod,Nat.reduceDiv,accLo,accHi,Nat.reduceEqDiff,if_true,if_false] at hr;clear hT hX;by_cases hk:4<=s.size
   ·have hz1:((4:Int)<=(s.size:Int)):=by omega
    rw[if_pos (by omega)] at hr;subst hr;go_enter Tryd.func45,Tryd.ntmps45
    go_wp2
    go_ret
    exact⟨rfl,Below.refl _ _⟩
   ·have Hr:=(HidF.mk hr);clear hr;rcases (show(s.size:Int)=1\/(s.size:Int)=2\/(s.size:Int)=3 by omega) with hz | hz | hz
    rotate_left 1
    have hs1:s[1]'(by omega)=x1:=by rw[<-hx1];exact(Utf8W.get!_of_lt s 1 (by omega)).symm
    rcases emB (decide ((x1.toNat:Int)<144)) (decide ((191:Int)<(x1.toNat:Int))) with d0 | ⟨d0,d1 | d1⟩
    rotate_left 3
    have hs1:s[1]'(by omega)=x1:=by rw[<-hx1];exact(Utf8W.get!_of_lt s 1 (by omega)).symm
    have hs2:s[2]'(by omega)=x2:=by rw[<-hx2];exact(Utf8W.get!_of_lt s 2 (by omega)).symm
    rcases emD (decide ((x1.toNat:Int)<144)) (decide ((191:Int)<(x1.toNat:Int))) (decide ((x2.toNat:Int)<128)) (decide ((191:Int)<(x2.toNat:Int))) with d0 | ⟨d0,d1 | ⟨d1,d2 | ⟨d2,d3 | d3⟩⟩⟩
    all_goals
     go_enter Tryd.func45,Tryd.ntmps45
     go_wp2
     go_quiet (fail)
     go_wp2
     all_goals (go_ret;refine⟨?_,belowN ((Below.refl _ _).alloc (Nat.le_refl _) _) _⟩;rw[<-Hr.out];(repeat' split) <;> first | rfl | (exfalso;first | omega | (simp only[decide_eq_true_eq,decide_eq_false_iff_not] at *;omega)))
  ·rw[hX] at hc0;have ha0:=(hT.2 0 (by omega)).1;have ha1:=(hT.2 0 (by omega)).2;simp only[accLo,accHi,Nat.reduceMul,Nat.reduceAdd,Nat.reduceEqDiff,if_true,if_false,Nat.reduceMod,Nat.reduceDiv] at ha0 ha1;generalize hr:qFo s.size x0.toNat x1.toNat x2.toNat=r
   rw[qFo,if_neg h0,hX] at hr;simp only[Nat.reduceMod,Nat.reduceDiv,accLo,accHi,Nat.reduceEqDiff,if_true,if_false] at hr;clear hT hX;by_cases hk:4<=s.size
   ·have hz1:((4:Int)<=(s.size:Int)):=by omega
    rw[if_pos (by omega)] at hr;subst hr;go_enter Tryd.func45,Tryd.ntmps45
    go_wp2
    go_ret
    exact⟨rfl,Below.refl _ _⟩
   ·have Hr:=(HidF.mk hr);clear hr;rcases (show(s.size:Int)=1\/(s.size:Int)=2\/(s.size:Int)=3 by omega) with hz | hz | hz
    rotate_left 1
    have hs1:s[1]'(by omega)=x1:=by rw[<-hx1];exact(Utf8W.get!_of_lt s 1 (by omega)).symm
    rcases emB (decide ((x1.toNat:Int)<128)) (decide ((191:Int)<(x1.toNat:Int))) with d0 | ⟨d0,d1 | d1⟩
    rotate_left 3
    have hs1:s[1]'(by omega)=x1:=by rw[<-hx1];exact(Utf8W.get!_of_lt s 1 (by omega)).symm
    have hs2:s[2]'(by omega)=x2:=by rw[<-hx2];exact(Utf8W.get!_of_lt s 2 (by omega)).symm
    rcases emD (decide ((x1.toNat:Int)<128)) (decide ((191:Int)<(x1.toNat:Int))) (decide ((x2.toNat:Int)<128)) (decide ((191:Int)<(x2.toNat:Int))) with d0 | ⟨d0,d1 | ⟨d1,d2 | ⟨d2,d3 | d3⟩⟩⟩
    all_goals
     go_enter Tryd.func45,Tryd.ntmps45
     go_wp2
     go_quiet (fail)
     go_wp2
     all_goals (go_ret;refine⟨?_,belowN ((Below.refl _ _).alloc (Nat.le_refl _) _) _⟩;rw[<-Hr.out];(repeat' split) <;> first | rfl | (exfalso;first | omega | (simp only[decide_eq_true_eq,decide_eq_false_iff_not] at *;omega)))
  ·rw[hX] at hc0;have ha0:=(hT.2 4 (by omega)).1;have ha1:=(hT.2 4 (by omega)).2;simp only[accLo,accHi,Nat.reduceMul,Nat.reduceAdd,Nat.reduceEqDiff,if_true,if_false,Nat.reduceMod,Nat.reduceDiv] at ha0 ha1;generalize hr:qFo s.size x0.toNat x1.toNat x2.toNat=r
   rw[qFo,if_neg h0,hX] at hr;simp only[Nat.reduceMod,Nat.reduceDiv,accLo,accHi,Nat.reduceEqDiff,if_true,if_false] at hr;clear hT hX;by_cases hk:4<=s.size
   ·have hz1:((4:Int)<=(s.size:Int)):=by omega
    rw[if_pos (by omega)] at hr;subst hr;go_enter Tryd.func45,Tryd.ntmps45
    go_wp2
    go_ret
    exact⟨rfl,Below.refl _ _⟩
   ·have Hr:=(HidF.mk hr);clear hr;rcases (show(s.size:Int)=1\/(s.size:Int)=2\/(s.size:Int)=3 by omega) with hz | hz | hz
    rotate_left 1
    have hs1:s[1]'(by omega)=x1:=by rw[<-hx1];exact(Utf8W.get!_of_lt s 1 (by omega)).symm
    rcases emB (decide ((x1.toNat:Int)<128)) (decide ((143:Int)<(x1.toNat:Int))) with d0 | ⟨d0,d1 | d1⟩
    rotate_left 3
    have hs1:s[1]'(by omega)=x1:=by rw[<-hx1];exact(Utf8W.get!_of_lt s 1 (by omega)).symm
    have hs2:s[2]'(by omega)=x2:=by rw[<-hx2];exact(Utf8W.get!_of_lt s 2 (by omega)).symm
    rcases emD (decide ((x1.toNat:Int)<128)) (decide ((143:Int)<(x1.toNat:Int))) (decide ((x2.toNat:Int)<128)) (decide ((191:Int)<(x2.toNat:Int))) with d0 | ⟨d0,d1 | ⟨d1,d2 | ⟨d2,d3 | d3⟩⟩⟩
    all_goals
     go_enter Tryd.func45,Tryd.ntmps45
     go_wp2
     go_quiet (fail)
     go_wp2
     all_goals (go_ret;refine⟨?_,belowN ((Below.refl _ _).alloc (Nat.le_refl _) _) _⟩;rw[<-Hr.out];(repeat' split) <;> first | rfl | (exfalso;first | omega | (simp only[decide_eq_true_eq,decide_eq_false_iff_not] at *;omega)))
end Go.Proofs.YtbokbmjcodoccacDoor
namespace Go.Proofs
open Go.Shelf
shelf_lay Lays.n197 Nm 197 at Tryd as Tryd.laysDecode
end Go.Proofs
namespace Go.Proofs.YtbokbmjcodoccacDoor
open Go.Eng
theorem stays_below{w w':World}(h:Go.RowKit.Below w.heap.size w w'):Stays (λ_=>False) w w':=⟨h.os,h.output,h.size,λk hk _=>h.block k hk⟩
theorem given_cont{O β γ:Type}{A:Dec O (List SV)}{B:Dec β (List SB)}(f:O->Option γ)(v:γ->SV)(args:List SV)(hp:List SB)(R:Type)(k:SV->List SB->Option R) :
  ((Dec.d A args).bind λx=>(Dec.d B hp).bind λy=>(f x).bind λr=>k (v r) [])=(((Dec.d A args).bind λx=>(Dec.d B hp).bind λy=>(f x).bind λr=>some (v r,([]:List SB))):Option (SV × List SB)).bind λz=>k z.1 z.2:=by
 cases Dec.d A args with
 | none=>rfl
 | some x =>
  cases Dec.d B hp with
  | none=>rfl
  | some y=>simp only[obS,Option.bind_assoc]
def utf8_da:=(qAa (dVC (dCO dS)) dNil)
def utf8_db:=(dNil:Dec Unit (List SB))
noncomputable def qA6(s:BA):Option (Int × Int):=some (((Lib.decodeGo s).1:Int),((Lib.decodeGo s).2:Int))
noncomputable def qCx:CS:=λargs hp R k=>(Dec.d utf8_da args).bind λx=>(Dec.d utf8_db hp).bind λy=>(qA6 x.1).bind λr=>k (.tup [.o (.val (.int .i32 r.1)),.o (.val (.int .i64 r.2))]) []
theorem qE9:qAj Tryd.prog 44 qCx:=by
 refine⟨λargs hp R k=>given_cont (A:=utf8_da) (B:=utf8_db) (λx=>qA6 x.1) (λr=>.tup [.o (.val (.int .i32 r.1)),.o (.val (.int .i64 r.2))]) args hp R k,λargs hp v hp' hC hlt X w Z hhp=>?_⟩;obtain⟨x,h1,h2⟩:=Option.bind_eq_some_iff.1 hC;obtain⟨y,h3,h4⟩:=Option.bind_eq_some_iff.1 h2;obtain⟨r,h5,h6⟩:=Option.bind_eq_some_iff.1 h4;rw[Dec.ok _ _ _ h1];have hhp':=Dec.ok _ _ _ h3;obtain⟨s,u⟩:=x;simp only[qA6,snJ,Prod.mk.injEq] at h6 h5;obtain⟨rfl,rfl⟩:=h6;subst h5;rw[hhp'] at hhp ⊢;refine(Any.utf8_DecodeRuneInString Tryd.laysDecode s w (by first | exact hhp.tab.1 | exact hhp.tab.2.1)).mono ?_
 rintro e w' ⟨rfl,hb⟩
 obtain⟨g1,g2⟩:=hhp.past ⟨rfl,rfl,Nat.le_refl _,λk _ _=>rfl⟩ (stays_below hb);exact⟨Z,λ_ _=>rfl,Nat.le_refl _,rfl,λc hc=>by simp only[List.mem_cons,List.not_mem_nil,or_false] at hc;rcases hc with rfl | rfl <;> trivial,g1,g2⟩
noncomputable def qCy:CQ:=qDp [] qCx
theorem qFq:qAh Tryd.prog 44 qCy:=qA9 qE9
noncomputable def qBo(s:BA):Option Bool:=gd (s.size<=9223372036854775807) (some (fullS s))
noncomputable def qDi:CS:=λargs hp R k=>(Dec.d utf8_da args).bind λx=>(Dec.d utf8_db hp).bind λy=>(qBo x.1).bind λr=>k (.c (.o (.val (.bool r)))) []
theorem qF7:qAj Tryd.prog 45 qDi:=by
 refine⟨λargs hp R k=>given_cont (A:=utf8_da) (B:=utf8_db) (λx=>qBo x.1) (λr=>.c (.o (.val (.bool r)))) args hp R k,λargs hp v hp' hC hlt X w Z hhp=>?_⟩;obtain⟨x,h1,h2⟩:=Option.bind_eq_some_iff.1 hC;obtain⟨y,h3,h4⟩:=Option.bind_eq_some_iff.1 h2;obtain⟨r,h5,h6⟩:=Option.bind_eq_some_iff.1 h4;obtain⟨hi,h7⟩:=gd_some.1 h5;rw[Dec.ok _ _ _ h1];have hhp':=Dec.ok _ _ _ h3;obtain⟨s,u⟩:=x;simp only[snJ,Prod.mk.injEq] at h6 h7;obtain⟨rfl,rfl⟩:=h6;simp only at hi;subst h7;rw[hhp'] at hhp ⊢;refine(full_run s w hi (by first | exact hhp.tab.1 | exact hhp.tab.2.1)).mono ?_
 rintro e w' ⟨rfl,hb⟩
 obtain⟨g1,g2⟩:=hhp.past ⟨rfl,rfl,Nat.le_refl _,λk _ _=>rfl⟩ (stays_below hb);exact⟨Z,λ_ _=>rfl,Nat.le_refl _,rfl,trivial,g1,g2⟩
noncomputable def qDj:CQ:=qDp [] qDi
theorem qGn:qAh Tryd.prog 45 qDj:=qA9 qF7
end Go.Proofs.YtbokbmjcodoccacDoor
namespace Go.Proofs.YtbokbmjcodoccacDoor
open Go.Eng
set_option maxRecDepth 100000
theorem nd_get{v:List Eng.Node}{a:Nat}{n:Eng.Node}(h:v[a]?=some n):v.getD a (ET.dft .node)=n:=by
 rw[List.getD_eq_getElem?_getD,h];rfl
structure OkN (n:Eng.Node):Prop where
 key:n.key.size<=3000000
 text:n.text.size<=3000000
 kids:qAc n.kids
def OkL(v:List Eng.Node):Prop:=v.length<=2000000/\∀n∈v,OkN n
def by8(t:BA)(i:Nat):Nat:=(t.get! i).toNat
theorem by8_lt(t:BA)(i:Nat):by8 t i<256:=UInt8.toNat_lt _
theorem by8_in{t:BA}{i:Nat}(h:i<t.size):bAt t (i:Int)=(by8 t i:Int):=by
 rw[bAt_in h];unfold by8;congr 2
 cases t with
 | mk d=>exact(getElem!_pos d i h).symm
def contN(n:Nat)(b:Nat->Nat):Nat->Nat->Nat->Nat->Int
 | 0,_,_,_=>0
 | m+1,i,lo,hi=>if n<=i then 31 else if b i<lo\/hi<b i then 32 else contN n b m (i+1) 128 191
theorem contN_cases(n:Nat)(b:Nat->Nat):∀(m i lo hi:Nat),contN n b m i lo hi=0\/contN n b m i lo hi=31\/contN n b m i lo hi=32
 | 0,_,_,_=>.inl rfl
 | m+1,i,lo,hi=>by
  unfold contN;split
  ·exact .inr (.inl rfl)
  ·split
   ·exact .inr (.inr rfl)
   ·exact contN_cases n b m _ _ _
theorem firstT_low:∀c:Fin 256,128<=c.val->Lib.firstT c.val≠240:=by decide +kernel
def seqK(t:BA)(a:Nat):Int :=
 if Lib.firstT (by8 t a)=241 then 32 else contN (t.size - a) (λk=>by8 t (a+k)) (Lib.firstT (by8 t a) % 8 - 1) 1 (Lib.accLo (Lib.firstT (by8 t a) / 16)) (Lib.accHi (Lib.firstT (by8 t a) / 16))
def seqW(t:BA)(a:Nat):Nat:=Lib.firstT (by8 t a) % 8
theorem seqK_cases(t:BA)(a:Nat):seqK t a=0\/seqK t a=31\/seqK t a=32:=by
 unfold seqK;split
 ·exact .inr (.inr rfl)
 ·exact contN_cases _ _ _ _ _ _
theorem firstT_three{b:Nat}(h:128<=b)(hb:b<256)(h2:Lib.firstT b≠241):2<=Lib.firstT b % 8/\Lib.firstT b % 8<=4:=by
 have:=firstT_low ⟨b,hb⟩ h;rcases Lib.firstT_cases b with h | h | h | h | h | h | h | h | h <;> simp only[h] at * <;> omega
theorem contN_in{n:Nat}{b:Nat->Nat}:∀ {m i lo hi:Nat},contN n b m i lo hi=0->m=0\/i+m<=n
 | 0,_,_,_,_=>.inl rfl
 | m+1,i,lo,hi,h=>by
  unfold contN at h;split at h
  ·cases h
  ·split at h
   ·cases h
   ·rcases contN_in h with h | h <;> omega
theorem seqW_in{t:BA}{a:Nat}(ha:a<t.size)(h:128<=by8 t a)(h0:seqK t a=0):a+seqW t a<=t.size/\2<=seqW t a/\seqW t a<=4:=by
 unfold seqK at h0;unfold seqW;split at h0
 ·cases h0
 ·rename_i h1;have:=firstT_three h (by8_lt t a) h1;rcases contN_in h0 with h2 | h2 <;> omega
set_option maxRecDepth 100000 in
set_option maxHeartbeats 4000000 in
theorem seq_dec{t:BA}{a:Nat}(ha:a<t.size)(h:128<=by8 t a) :
  (seqK t a=0->(Utf8.decode t a).2=seqW t a) /\
  (seqK t a≠0->Utf8.decode t a=(65533,1)/\(qFo (t.size - a) (by8 t a) (by8 t (a+1)) (by8 t (a+2))=!decide (seqK t a=31))):=by
 have l0:=by8_lt t a;have l1:=by8_lt t (a+1);have l2:=by8_lt t (a+2);have l3:=by8_lt t (a+3);have hd:Utf8.decode t a=Lib.decodeN (t.size - a) (by8 t a) (by8 t (a+1)) (by8 t (a+2)) (by8 t (a+3)):=Lib.decode_at t a;have hf:=firstT_low ⟨by8 t a,l0⟩ h;simp only at hf;rw[hd];unfold seqK seqW;by_cases h1:Lib.firstT (by8 t a)=241
 ·rw[if_pos h1];refine⟨λh=>(by cases h),λ_=>⟨Lib.bad_eq _ _ _ _ _ l0 h1,?_⟩⟩;unfold qFo;rw[if_neg (by omega),h1,if_pos (by omega)];rfl
 ·rw[if_neg h1,<-Lib.slow_eq _ _ _ _ _ (by omega) l1 l2 l3 (by rcases Lib.firstT_cases (by8 t a) with h | h | h | h | h | h | h | h | h <;> omega)]
  have hn:1<=t.size - a:=by omega
  generalize t.size - a=n at *
  unfold qFo;generalize hb1:by8 t (a+1)=b1 at *
  generalize hb2:by8 t (a+2)=b2 at *
  generalize hb3:by8 t (a+3)=b3 at *
  generalize by8 t a=b0 at *
  rcases Lib.firstT_cases b0 with g | g | g | g | g | g | g | g | g <;> first | exact(hf g).elim | exact(h1 g).elim | rw[g]
  all_goals
   simp only[Nat.reduceMod,Nat.reduceDiv,Nat.reduceSub,contN,Lib.slowN,Lib.accLo,Lib.accHi,Nat.reduceEqDiff,Nat.reduceAdd,Nat.reduceLeDiff,if_true,if_false,hb1,hb2,hb3];repeat' split
   all_goals first | (exfalso;omega) | (refine⟨λh=>?_,λh=>⟨?_,?_⟩⟩ <;> first | rfl | (exfalso;omega) | (cases h) | (exact(h rfl).elim))
end Go.Proofs.YtbokbmjcodoccacDoor
namespace Go.Proofs.YtbokbmjcodoccacDoor
open Go.Eng
theorem p_run(s:BA)(h:s.size<9223372036854775807):zaj_s s=some (runS s:Int):=by
 unfold zaj_s zaj_p0;rw[whileO_rule (λx:Int=>∃k:Nat,x=k/\k<=s.size/\qE2 s k=qE2 s 0) (λx=>s.size - x.toNat) (λ_=>(qE2 s 0:Int)) ?_ (x:=(0:Int)) ⟨0,rfl,by omega,rfl⟩]
 ·rfl
 rintro _ ⟨k,rfl,hk,hm⟩
 unfold zaj_p0_step;have key:((decide ((k:Int)<(s.size:Int)) && decide ((48:Int)<=bAt s k)) && decide (bAt s k<=57))=digS s k:=by
  unfold digS;by_cases hlt:(k:Int)<s.size
  ·simp[hlt]
  ·have:=qB4 hlt;simp[hlt,this]
 rw[key];cases hd:digS s k with
 | true =>
  left;have hlt:=digS_lt hd;refine⟨((k+1:Nat):Int),?_,⟨k+1,rfl,by omega,by rw[<-hm,qE3 hd]⟩,by omega,rfl⟩;refine(qAb (λ_=>by omega) _).trans ?_;refine(qAb (λ_=>by omega) _).trans ?_;refine(qAb (by unfold qAc;omega) _).trans ?_;rfl
 | false =>
  right;refine(qAb (λh=>by have:=of_decide_eq_true h;omega) _).trans ?_;refine(qAb (λh=>by have:=of_decide_eq_true (Bool.and_eq_true _ _ ▸ h).1;omega) _).trans ?_;show some (Sum.inr (k:Int))=_;rw[<-hm,manyS_no hd]
theorem p_trimL1(s:BA)(b:Int):zbw_s s b=some (trimL s b):=by
 unfold zbw_s zbw_p0;rw[whileO_rule (λx:BA=>∃k:Nat,x=s.extract k s.size/\k<=s.size/\leadB s b k=leadB s b 0) (λx=>x.size) (λ_=>trimL s b) ?_ ⟨0,(all_of s).symm,by omega,rfl⟩]
 ·rfl
 rintro _ ⟨k,rfl,hk,hm⟩
 unfold zbw_p0_step;have hz:=qCb s k;have hb:=bAt_tail s k 0 (by omega);simp only[Int.add_zero] at hb;rw[hb];by_cases hq:k<s.size/\bAt s k=b
 ·left;refine⟨s.extract (k+1) s.size,?_,⟨k+1,rfl,by omega,by rw[<-hm,leadB_yes hq]⟩,by rw[qCb,qCb];omega,rfl⟩;refine(qAb (λ_=>by omega) _).trans ?_;have:(decide ((0:Int)<((s.extract k s.size).size:Int)) && decide (bAt s k=b))=true:=by simp only[Bool.and_eq_true,decide_eq_true_eq];exact⟨by omega,hq.2⟩
  rw[this,cnT];refine(qAb (by omega) _).trans ?_;rw[qGm]
 ·right;refine(qAb (λh=>by have:=of_decide_eq_true h;omega) _).trans ?_;have:(decide ((0:Int)<((s.extract k s.size).size:Int)) && decide (bAt s k=b))=false:=by
   rw[Bool.and_eq_false_iff,decide_eq_false_iff_not,decide_eq_false_iff_not];by_cases h1:k<s.size
   ·exact .inr λh=>hq ⟨h1,h⟩
   ·exact .inl (by omega)
  rw[this,cnF,trimL,<-hm,leadB_no hq]
theorem p_trimR1(s:BA)(b:Int)(h:s.size<9223372036854775807):zbx_s s b=some (trimR s b):=by
 unfold zbx_s zbx_p0;rw[whileO_rule (λx:BA=>∃k:Nat,x=s.extract 0 k/\k<=s.size/\backB s b k=backB s b s.size) (λx=>x.size) (λ_=>trimR s b) ?_ ⟨s.size,(all_of s).symm,by omega,rfl⟩]
 ·rfl
 rintro _ ⟨k,rfl,hk,hm⟩
 unfold zbx_p0_step;have hz:(s.extract 0 k).size=k:=by rw[ByteArray.size_extract];omega
 simp only[hz];cases k with
 | zero =>
  right;refine(qAb (λh=>by simp at h) _).trans ?_;refine(qAb (λh=>by simp at h) _).trans ?_;rw[trimR,<-hm];rfl
 | succ n =>
  have hb:bAt (s.extract 0 (n+1)) (((n+1:Nat):Int) - 1)=bAt s n:=by
   rw[bAt_extract s 0 (n+1) _ (by omega) (by omega)];congr 1
   omega
  rw[hb];have e0:decide ((0:Int)<((n+1:Nat):Int))=true:=by simp only[decide_eq_true_eq];omega
  rw[e0];by_cases hq:bAt s n=b
  ·left;refine⟨s.extract 0 n,?_,⟨n,rfl,by omega,by rw[<-hm];show _=backB s b (n+1);rw[backB,if_pos hq]⟩,by rw[ByteArray.size_extract];omega,tV⟩;refine(qAb (λ_=>by unfold qAc;omega) _).trans ?_;refine(qAb (λ_=>by omega) _).trans ?_;have:(true && decide (bAt s n=b))=true:=by simp[hq]
   rw[this,cnT];refine(qAb (by unfold qAc;omega) _).trans ?_;refine(qAb (by omega) _).trans ?_;rw[show Int.toNat (((n+1:Nat):Int) - 1)=n by omega,ByteArray.extract_extract];congr 3
   omega
  ·right;refine(qAb (λ_=>by unfold qAc;omega) _).trans ?_;refine(qAb (λ_=>by omega) _).trans ?_;have:(true && decide (bAt s n=b))=false:=by simp[hq]
   rw[this,cnF,trimR,<-hm,backB,if_neg hq]
theorem p_trimL(s:BA):zbu_s s (⟨#[48]⟩:BA)=some (trimL s 48):=by
 unfold zbu_s;have h1:decide ((⟨#[48]⟩:BA)=(⟨#[]⟩:BA))=false:=by decide
 rw[h1,Bool.or_false];by_cases he:s=⟨#[]⟩
 ·rw[deT he,cnT];congr 1
  have:=eq_none.1 he;unfold trimL;rw[he];refine(eq_none.2 ?_).symm;rw[ByteArray.size_extract];have:(⟨#[]⟩:BA).size=0:=rfl;omega
 ·rw[deF he,cnF];refine(qAb (λ_=>by decide) _).trans ?_;have h2:(decide (((⟨#[48]⟩:BA).size:Int)=1) && decide (bAt (⟨#[48]⟩:BA) 0<128))=true:=by decide
  rw[h2,cnT];refine(qAb (by decide) _).trans ?_;rw[show bAt (⟨#[48]⟩:BA) 0=48 by decide,p_trimL1];rfl
theorem p_trimR(s:BA)(h:s.size<9223372036854775807):zbv_s s (⟨#[48]⟩:BA)=some (trimR s 48):=by
 unfold zbv_s;have h1:decide ((⟨#[48]⟩:BA)=(⟨#[]⟩:BA))=false:=by decide
 rw[h1,Bool.or_false];by_cases he:s=⟨#[]⟩
 ·rw[deT he,cnT];congr 1
  have:=eq_none.1 he;unfold trimR;rw[he];refine(eq_none.2 ?_).symm;rw[ByteArray.size_extract];have:(⟨#[]⟩:BA).size=0:=rfl;omega
 ·rw[deF he,cnF];refine(qAb (λ_=>by decide) _).trans ?_;have h2:(decide (((⟨#[48]⟩:BA).size:Int)=1) && decide (bAt (⟨#[48]⟩:BA) 0<128))=true:=by decide
  rw[h2,cnT];refine(qAb (by decide) _).trans ?_;rw[show bAt (⟨#[48]⟩:BA) 0=48 by decide,p_trimR1 s 48 h];rfl
theorem p_cut(s p:BA):zbt_s s p=some (cutPre s p,hasPre s p):=by
 unfold zbt_s zak_s zal_s;rw[qAb (λh=>by have:=of_decide_eq_true h;omega)];have e:(decide ((p.size:Int)<=(s.size:Int)) && decide (s.extract 0 (Int.toNat (p.size:Int))=p))=hasPre s p:=by
  simp only[hasPre,Int.ofNat_le,Int.toNat_natCast]
 rw[e];simp only[obS];unfold cutPre;cases h:hasPre s p with
 | true =>
  have:=hasPre_le h;simp only[Bool.not_true,cnF,if_true];rw[qAb (by omega)];simp only[obS,Int.toNat_natCast]
 | false=>simp
def num(n:PNum):decimal_number:=⟨n.minus,n.int,n.digits,n.off,n.plain,n.down,n.exp⟩
theorem hasPre_45(s:BA):hasPre s (⟨#[45]⟩:BA)=decide (bAt s 0=45):=hasPre_one rfl
theorem hasPre_46(s:BA):hasPre s (⟨#[46]⟩:BA)=decide (bAt s 0=46):=hasPre_one rfl
theorem cut_45(s:BA):cutPre s (⟨#[45]⟩:BA)=s.extract (atA s) s.size:=by
 unfold cutPre atA;rw[hasPre_45];by_cases h:bAt s 0=45
 ·simp only[h,decide_true,if_true];rfl
 ·simp only[h,decide_false,if_false,Bool.false_eq_true,all_of]
theorem or32{b:Int}(h0:0<=b)(h1:b<=255):decide (qBm .u8 b 32=101)=(decide (b=101) || decide (b=69)):=by
 have key:∀n:Fin 256,decide (qBm .u8 (n.val:Int) 32=101)=(decide ((n.val:Int)=101) || decide ((n.val:Int)=69)):=by decide +kernel
 have:=key ⟨b.toNat,by omega⟩;simpa[Int.toNat_of_nonneg h0] using this
section
variable (s:BA) (hsz:s.size<4000000000000000000)
include hsz
theorem p_read0:zai_p0 (s.extract (atA s) s.size)=some (if badA s=true then .inl false else .inr (s.extract (atB s) s.size,s.extract (atA s) (atB s))):=by
 have hA:=atA_le s;have hAB:=atA_le_atB s;have hB:=atB_le s;have hr:runS (s.extract (atA s) s.size)=atB s - atA s:=runS_tail s (atA s);have hz:=qCb s (atA s);have hb0:=bAt_tail s (atA s) 0 (by omega);simp only[Int.add_zero] at hb0;unfold zai_p0;rw[p_run _ (by omega),obS];refine(qAb (λh _=>by have:=of_decide_eq_true h;omega) _).trans ?_;have hbad:badA s=(decide ((runS (s.extract (atA s) s.size):Int)=0) || decide (1<(runS (s.extract (atA s) s.size):Int)) && decide (bAt (s.extract (atA s) s.size) 0=48)):=by
  rw[hr,hb0];unfold badA;rw[Bool.and_comm];congr 1
  ·rw[decide_eq_decide];omega
  ·congr 1
   rw[decide_eq_decide];omega
 rw[<-hbad];cases hbd:badA s with
 | true=>rfl
 | false =>
  simp only[cnF];refine(qAb (by omega) _).trans ?_;refine(qAb (by omega) _).trans ?_;rw[hr,Int.toNat_natCast,head_tail,qGm,show atA s+(atB s - atA s)=atB s by omega,show min (atB s) s.size=atB s by omega];rfl
theorem p_read1:zai_p1 (s.extract (atB s) s.size) (⟨#[]⟩:BA) true=some (if(dotS s && decide (atK s=atB s+1))=true then .inl false else .inr (s.extract (atC s) s.size,fracS s,!dotS s)):=by
 have hb0:=bAt_tail s (atB s) 0 (by omega);simp only[Int.add_zero] at hb0;have hdot:decide (bAt (s.extract (atB s) s.size) 0=46)=dotS s:=by rw[hb0];rfl
 have hz:=qCb s (atB s);unfold zai_p1;rw[p_cut,obS];simp only[hasPre_46,hdot];cases hd:dotS s with
 | false=>simp[fracS,atC,hd]
 | true =>
  have hBl:=atB_lt hd;have hKl:=atK_le hd;have hKg:=atK_ge s;have hcp:cutPre (s.extract (atB s) s.size) ⟨#[46]⟩=s.extract (atB s+1) s.size:=by
   unfold cutPre;rw[hasPre_46,hdot,hd];exact qGm s (atB s) 1
  have hr:runS (s.extract (atB s+1) s.size)=atK s - (atB s+1):=runS_tail s (atB s+1);have hz1:=qCb s (atB s+1);simp only[hcp,cnT];rw[p_run _ (by omega),obS];have hq:decide ((runS (s.extract (atB s+1) s.size):Int)=0)=decide (atK s=atB s+1):=by rw[hr,decide_eq_decide];omega
  rw[hq];cases hk:decide (atK s=atB s+1) with
  | true=>rfl
  | false =>
   simp only[cnF];refine(qAb (by omega) _).trans ?_;refine(qAb (by omega) _).trans ?_;rw[hr,Int.toNat_natCast,head_tail,qGm,show atB s+1+(atK s - (atB s+1))=atK s by omega,show min (atK s) s.size=atK s by omega];simp[fracS,atC,hd]
theorem p_read3(he:expS s=true):zai_p3 (s.extract (atE s) s.size)=some (if badE s=true then .inl false else .inr ((⟨#[]⟩:BA),false,(qGk s).exp)):=by
 have hEl:=atE_le he;have hFl:=atF_le he;have hFg:=atF_ge s;have hr:runS (s.extract (atE s) s.size)=atF s - atE s:=runS_tail s (atE s);have hz2:=qCb s (atE s);have hne2:=tail_none s (atE s);unfold zai_p3;by_cases hn:s.extract (atE s) s.size=⟨#[]⟩
 ·have:badE s=true:=by simp[badE,he,hne2.1 hn]
  rw[deT hn,this];rfl
 ·rw[deF hn,cnF,p_run _ (by omega),obS,hr,hz2];have hle:¬s.size<=atE s:=λh=>hn (hne2.2 h)
  have hbe:(!decide (((atF s - atE s:Nat):Int)=((s.size - atE s:Nat):Int)))=badE s:=by
   unfold badE;rw[he,Bool.true_and,deF hle,Bool.false_or,<-decide_not,decide_eq_decide];omega
  rw[hbe];cases hb:badE s with
  | true=>rfl
  | false =>
   simp only[cnF];rw[p_trimL,obS];simp[qGk,he,expT]
theorem p_read2(pl:Bool):zai_p2 (s.extract (atC s) s.size) pl false (⟨#[]⟩:BA)=some (if badE s=true then .inl (false,expS s && decide (bAt s (atC s+1)=45)) else .inr (if expS s=true then⟨#[]⟩ else s.extract (atC s) s.size,pl && !expS s,expS s && decide (bAt s (atC s+1)=45),(qGk s).exp)):=by
 have hC:=atC_le s;have hb0:=bAt_tail s (atC s) 0 (by omega);simp only[Int.add_zero] at hb0;have hz:=qCb s (atC s);have hrg:=bAt_range s (atC s);have hne:=tail_none s (atC s);have hexp:(!decide (s.extract (atC s) s.size=⟨#[]⟩) && decide (qBm .u8 (bAt (s.extract (atC s) s.size) 0) 32=101))=expS s:=by
  unfold expS;rw[hb0];by_cases he:s.size<=atC s
  ·have:bAt s (atC s) = -1:=qB4 (by omega);simp[hne.2 he,this]
  ·have hn:¬s.extract (atC s) s.size=⟨#[]⟩:=λe=>he (hne.1 e)
   have h0:0<=bAt s (atC s):=bAt_nn (by omega) (by omega);rw[or32 h0 hrg.2];simp[hn]
 unfold zai_p2;refine(qAb (λh=>by
  have:¬s.size<=atC s:=λh'=>by simp[hne.2 h'] at h
  omega) _).trans ?_
 rw[hexp];cases he:expS s with
 | false=>simp[qGk,he,badE]
 | true =>
  have hCl:=atC_lt he;have hEl:=atE_le he;have hb1:=bAt_tail s (atC s+1) 0 (by omega);simp only[Int.add_zero] at hb1;have hz1:=qCb s (atC s+1);have hne1:=tail_none s (atC s+1);have htt:(s.extract (atC s) s.size).extract 1 (s.extract (atC s) s.size).size=s.extract (atC s+1) s.size:=qGm s (atC s) 1;simp only[cnT];refine(qAb (by omega) _).trans ?_;simp only[htt];refine(qAb (λh=>by
   have:¬s.size<=atC s+1:=λh'=>by simp[hne1.2 h'] at h
   omega) _).trans ?_
  refine(qAb (λ_ h=>by
   have:¬s.size<=atC s+1:=λh'=>by simp[hne1.2 h'] at h
   omega) _).trans ?_
  have hsg:(!decide (s.extract (atC s+1) s.size=⟨#[]⟩) && (decide (bAt (s.extract (atC s+1) s.size) 0=43) || decide (bAt (s.extract (atC s+1) s.size) 0=45)))=sgnS s:=by
   unfold sgnS;rw[hb1];by_cases h:s.size<=atC s+1
   ·have:bAt s ((atC s+1:Nat):Int) = -1:=qB4 (by omega);have h2:bAt s ((atC s:Int)+1) = -1:=by rw[<-this];rfl
    simp[hne1.2 h,h2]
   ·have hn:¬s.extract (atC s+1) s.size=⟨#[]⟩:=λe=>h (hne1.1 e)
    simp[hn]
  rw[hsg];cases hs:sgnS s with
  | false =>
   have hnd:¬bAt s ((atC s:Int)+1)=45:=λe=>by simp[sgnS,e] at hs
   have hE:s.extract (atC s+1) s.size=s.extract (atE s) s.size:=by simp[atE,hs]
   simp only[cnF];rw[hE,p_read3 s hsz he,obS];cases badE s <;> simp[hnd]
  | true =>
   have hsl:=sgn_lt hs;have hE:(s.extract (atC s+1) s.size).extract 1 (s.extract (atC s+1) s.size).size=s.extract (atE s) s.size:=by rw[qGm];simp[atE,hs]
   have hb1':bAt (s.extract (atC s+1) s.size) 0=bAt s ((atC s:Int)+1):=hb1;simp only[cnT];refine(qAb (by omega) _).trans ?_;refine(qAb (by omega) _).trans ?_;rw[hE,p_read3 s hsz he,obS,hb1'];cases badE s <;> simp
theorem p_read4:zai_p4 (if expS s=true then⟨#[]⟩ else s.extract (atC s) s.size) (fracS s) (s.extract (atA s) (atB s)) (expS s && decide (bAt s (atC s+1)=45)) (qGk s).exp=some (expS s || decide (s.size<=atC s),(qGk s).digits,(qGk s).off,(qGk s).down):=by
 have hne:=tail_none s (atC s);have hi:(s.extract (atA s) (atB s)).size<=s.size:=by rw[ByteArray.size_extract];omega
 have hfr:(fracS s).size<=s.size:=by
  unfold fracS;split
  ·rw[ByteArray.size_extract];omega
  ·exact Nat.zero_le _
 have hap:(s.extract (atA s) (atB s)++fracS s).size=(s.extract (atA s) (atB s)).size+(fracS s).size:=ByteArray.size_append;have htl:(trimL (s.extract (atA s) (atB s)++fracS s) 48).size<=(s.extract (atA s) (atB s)++fracS s).size:=by rw[trimL,ByteArray.size_extract];omega
 have hrest:decide ((if expS s=true then⟨#[]⟩ else s.extract (atC s) s.size)=(⟨#[]⟩:BA))=(expS s || decide (s.size<=atC s)):=by
  cases he:expS s
  ·simp[hne]
  ·simp
 have hdn:(qGk s).down=(expS s && decide (bAt s (atC s+1)=45) && !decide ((qGk s).exp=⟨#[]⟩)):=by
  cases he:expS s
  ·simp[qGk,he]
  ·simp[qGk,he]
 unfold zai_p4;refine(qAb (by omega) _).trans ?_;rw[p_trimL,obS];refine(qAb (by unfold qAc;omega) _).trans ?_;refine(qAb (by unfold qAc;omega) _).trans ?_;rw[p_trimR _ (by omega),obS,hrest,hdn];cases decide ((qGk s).exp=⟨#[]⟩) <;> simp[qGk]
theorem p_readA(m:Bool)(hm:m=decide (bAt s 0=45)):((zai_p0 (s.extract (atA s) s.size)).bind λo3=>(Sum.elim (λ(o3_0:Bool) =>
   some ((⟨m,(⟨#[]⟩:BA),(⟨#[]⟩:BA),(0:Int),true,false,(⟨#[]⟩:BA)⟩:decimal_number),o3_0)) (λ(o3_1:BA × BA) =>
   (zai_p1 o3_1.1 (⟨#[]⟩:BA) true).bind λo6=>(Sum.elim (λ(o6_0:Bool) =>
    some ((⟨m,o3_1.2,(⟨#[]⟩:BA),(0:Int),true,false,(⟨#[]⟩:BA)⟩:decimal_number),o6_0)) (λ(o6_1:BA × BA × Bool) =>
    (zai_p2 o6_1.1 o6_1.2.2 false (⟨#[]⟩:BA)).bind λo11=>(Sum.elim (λ(o11_0:Bool × Bool) =>
     some ((⟨m,o3_1.2,(⟨#[]⟩:BA),(0:Int),o6_1.2.2,o11_0.2,(⟨#[]⟩:BA)⟩:decimal_number),o11_0.1)) (λ(o11_1:BA × Bool × Bool × BA) =>
     (zai_p4 o11_1.1 o6_1.2.1 o3_1.2 o11_1.2.2.1 o11_1.2.2.2).bind λo14 =>
     some ((⟨m,o3_1.2,o14.2.1,o14.2.2.1,o11_1.2.1,o14.2.2.2,o11_1.2.2.2⟩:decimal_number),o14.1))) o11)) o6)) o3)=some (num (qE5 s),qE6 s):=by
 subst hm;rw[p_read0 s hsz,obS];cases hbd:badA s with
 | true =>
  have hro:qE6 s=false:=by simp[qE6,hbd]
  rw[progAll_1 hbd,hro];rfl
 | false =>
  simp only[Bool.false_eq_true,if_false,Sum.elim_inr];rw[p_read1 s hsz,obS];cases hdk:(dotS s && decide (atK s=atB s+1)) with
  | true =>
   have hro:qE6 s=false:=by simp only[qE6,hbd,hdk,Bool.not_true,Bool.not_false,Bool.and_false,Bool.false_and]
   rw[progAll_2 hbd hdk,hro];rfl
  | false =>
   simp only[Bool.false_eq_true,if_false,Sum.elim_inr];rw[p_read2 s hsz,obS];cases hbe:badE s with
   | true =>
    have hro:qE6 s=false:=by
     rw[<-progOk_eq];simp[progOk,hbe]
    rw[progAll_3 hbd hdk hbe,hro];rfl
   | false =>
    have hro:qE6 s=(expS s || decide (s.size<=atC s)):=by
     rw[<-progOk_eq];simp only[progOk,hbd,hdk,hbe,Bool.not_false,Bool.true_and]
    simp only[Bool.false_eq_true,if_false,Sum.elim_inr];rw[p_read4 s hsz,obS,progAll_4 hbd hdk hbe,hro];rfl
theorem p_read:zai_s s 0=some (num (qE5 s),qE6 s):=by
 unfold zai_s;rw[deT rfl,cnT,p_cut,obS,hasPre_45,cut_45];exact p_readA s hsz _ rfl
end
end Go.Proofs.YtbokbmjcodoccacDoor
namespace Go.Proofs.YtbokbmjcodoccacDoor
open Go.Eng
def wholeI(t:BA):Nat->Nat->Int->Option Int
 | 0,_,v=>some v
 | j+1,i,v=>if(9223372036854775808 - (bAt t (i:Int) - 48) % 256) / 10<v then none else wholeI t j (i+1) (10*v+(bAt t (i:Int) - 48) % 256)
def wholeV(s:BA):Int × Bool :=
 if qE6 s=true/\(readS s).plain=true then match wholeI (readS s).text (readS s).text.size 0 0 with
  | none=>(0,false)
  | some u=>if(readS s).minus=true then(-u,true) else if u=9223372036854775808 then(0,false) else(u,true)
 else(0,false)
theorem wholeV_no{s:BA}(h:¬(qE6 s=true/\(readS s).plain=true)):wholeV s=(0,false):=if_neg h
theorem wholeV_yes{s:BA}(h:qE6 s=true/\(readS s).plain=true):wholeV s=match wholeI (readS s).text (readS s).text.size 0 0 with
  | none=>(0,false)
  | some u=>if(readS s).minus=true then(-u,true) else if u=9223372036854775808 then(0,false) else(u,true):=if_pos h
theorem whole_pj(t:BA)(hs:t.size<=3000000):∀(j i:Nat) (v:Int),i+j=t.size->0<=v/\v<=9223372036854775808 ->
  (wholeI t j i v=none/\zah_p0 v (t.size:Int) (i:Int) t=some (.inl (0,false))) \/
  (∃u:Int,wholeI t j i v=some u/\(0<=u/\u<=9223372036854775808)/\zah_p0 v (t.size:Int) (i:Int) t=some (.inr u))
 | 0,i,v,h,hv=>by
  refine .inr ⟨v,rfl,hv,?_⟩;unfold zah_p0;refine qAg ?_;unfold qDx;dsimp only;rw[deF (by omega),cnF]
 | j+1,i,v,h,hv=>by
  obtain⟨d,hd⟩:∃d,d=(bAt t i - 48) % 256:=⟨_,rfl⟩;have hd2:0<=d/\d<256:=by omega
  have e1:(9223372036854775808 - d % 18446744073709551616) % 18446744073709551616=9223372036854775808 - d:=by omega
  have s1:qDx v (t.size:Int) (i:Int) t=if(9223372036854775808 - d) / 10<v then some (.inr (.inl (0,false))) else some (.inl (10*v+d,((i+1:Nat):Int))):=by
   unfold qDx;rw[<-hd,deT (by omega),cnT];refine(qAb (by omega) _).trans ?_;rw[e1];refine(qAb (by omega) _).trans ?_;by_cases hl:(9223372036854775808 - d) / 10<v
   ·rw[deT hl,cnT,if_pos hl]
   ·rw[deF hl,cnF,if_neg hl];refine(qAb (by unfold qAc;omega) _).trans ?_;rw[show(10*v % 18446744073709551616+d % 18446744073709551616) % 18446744073709551616=10*v+d by omega];rfl
  by_cases hl:(9223372036854775808 - d) / 10<v
  ·have hw:wholeI t (j+1) i v=none:=by unfold wholeI;rw[<-hd,if_pos hl]
   rw[if_pos hl] at s1;refine .inl ⟨hw,?_⟩;unfold zah_p0;exact qAg s1
  ·have hw:wholeI t (j+1) i v=wholeI t j (i+1) (10*v+d):=by rw[wholeI,<-hd,if_neg hl]
   rw[if_neg hl] at s1;have ih:=whole_pj t hs j (i+1) (10*v+d) (by omega) (by omega);have w1:zah_p0 v (t.size:Int) (i:Int) t=zah_p0 (10*v+d) (t.size:Int) ((i+1:Nat):Int) t:=by
    unfold zah_p0;exact qAm s1
   rw[hw,w1];exact ih
theorem whole_j(s:BA)(hs:s.size<=3000000):zah_s s=some (wholeV s):=by
 unfold zah_s;rw[p_read s (by omega),obS];cases hr:qE6 s with
 | false =>
  rw[wholeV_no (by rw[hr];simp)];rfl
 | true =>
  rw[progAll_ok hr];have hp:(num (qGk s)).plain=(readS s).plain:=rfl;simp only[Bool.not_true,Bool.false_or];rw[hp];cases hpl:(readS s).plain with
  | false =>
   have hpl:(readS s).plain=false:=hpl;rw[wholeV_no (by rw[hpl];simp)];rfl
  | true =>
   have hpl:(readS s).plain=true:=hpl;rw[wholeV_yes ⟨hr,hpl⟩];generalize hrs:readS s=r at *
   simp only[Bool.not_true,cnF];have ht:(num (qGk s)).whole=r.text:=by rw[<-hrs];rfl
   have hm:(num (qGk s)).minus=r.minus:=by rw[<-hrs];rfl
   rw[ht,hm];have hz:r.text.size<=3000000:=by
    rw[<-hrs];show(s.extract _ _).size<=_;rw[ByteArray.size_extract];omega
   have et:r.text=r.text:=rfl;have em:r.minus=r.minus:=rfl;rw[et] at hz;have:=whole_pj r.text hz r.text.size 0 0 (by omega) (by omega);rw[show((0:Nat):Int)=0 from rfl] at this;rcases this with⟨h0,h1⟩ | ⟨u,h0,hu,h1⟩
   ·rw[h0];rw[h1];rfl
   ·rw[h0,h1,obS];simp only[Sum.elim_inr];cases r.minus with
    | true =>
     rw[if_pos rfl];simp only[Bool.not_true,Bool.false_and,cnF,cnT];unfold w64;rw[IntKind.wrap_i64];congr 2
     omega
    | false =>
     simp only[Bool.not_false,Bool.true_and,cnF];rw[if_neg (by decide)];by_cases h0:u=9223372036854775808
     ·rw[if_pos h0];rw[deT h0,cnT]
     ·rw[if_neg h0];rw[deF h0,cnF];unfold w64;rw[IntKind.wrap_i64];congr 2
      omega
instance memDec (s:BA):(l:List BA)->Decidable (s∈l)
 | []=>isFalse (by simp)
 | x::r=>if h:s=x then isTrue (by simp[h]) else match memDec s r with
  | isTrue h2=>isTrue (List.mem_cons_of_mem _ h2)
  | isFalse h2=>isFalse (by simp[h,h2])
def qBu(v:List Eng.Node)(a:Nat):BA:=(v.getD a (ET.dft .node)).key
structure NmR (obj:Bool) (nm:MapC) (names:List BA):Prop where
 some_:nm.isSome=obj
 mem:∀s,obj=true->(0<mget nm s↔s∈names)
theorem mfind_mset(l:List (BA × Int))(s t:BA)(x:Int):mfind (mset l s x) t=if t=s then some x else mfind l t:=by
 induction l with
 | nil =>
  show(bif decide (t=s) then some x else none)=_;by_cases h:t=s
  ·rw[if_pos h,deT h];rfl
  ·rw[if_neg h,deF h];rfl
 | cons y r ih =>
  unfold mset;by_cases hs:s=y.1
  ·rw[deT hs,cnT];show(bif decide (t=s) then some x else mfind r t)=_;by_cases h:t=s
   ·rw[if_pos h,deT h];rfl
   ·rw[if_neg h,deF h,cnF];show mfind r t=(bif decide (t=y.1) then some y.2 else mfind r t);rw[deF (by rw[<-hs];exact h),cnF]
  ·rw[deF hs,cnF];unfold mfind;rw[ih];by_cases hy:t=y.1
   ·rw[deT hy,cnT,cnT,if_neg (by rw[hy];exact λh=>hs h.symm)]
   ·rw[deF hy,cnF,cnF]
theorem NmR.put{obj:Bool}{nm:MapC}{names:List BA}(h:NmR obj nm names)(s:BA):NmR obj (mput nm s 1) (names++[s]):=by
 cases nm with
 | none =>
  refine⟨h.some_,λt ht=>?_⟩;have:=h.some_;rw[ht] at this;cases this
 | some l =>
  refine⟨h.some_,λt ht=>?_⟩;have h2:=h.mem t ht;show 0<(mfind (mset l s 1) t).getD 0↔_;rw[mfind_mset,List.mem_append,List.mem_singleton];by_cases hts:t=s
  ·rw[if_pos hts];exact⟨λ_=>.inr hts,λ_=>by decide⟩
  ·rw[if_neg hts];exact⟨λh=>.inl (h2.1 h),λh=>h2.2 (h.resolve_right hts)⟩
inductive Rd (O:Type)
 | ok (b:Nat) (x:O)
 | bad (c:Int) (b:Nat)
def qDo(c:Int):Bool:=decide (c=32) || decide (c=9) || decide (c=10) || decide (c=13)
theorem qDq{t:BA}{a:Nat}(h:qDo (bAt t a)=true):a<t.size:=by
 unfold qDo at h;simp only[Bool.or_eq_true,decide_eq_true_eq] at h;have:=(qD5 (s:=t) (i:=a) (by omega)).2;omega
def skipN(t:BA):Nat->Nat->Nat
 | 0,a=>a
 | n+1,a=>if qDo (bAt t (a:Int))=true then skipN t n (a+1) else a
@[irreducible] def qAz (t:BA) (a:Nat):Nat:=skipN t (t.size - a) a
theorem skipS_yes{t:BA}{a:Nat}(h:qDo (bAt t a)=true):qAz t a=qAz t (a+1):=by
 have:=qDq h;unfold qAz;rw[show t.size - a=(t.size - (a+1))+1 by omega];show(if qDo (bAt t (a:Int))=true then _ else _)=_;rw[if_pos h]
theorem skipS_no{t:BA}{a:Nat}(h:qDo (bAt t a)=false):qAz t a=a:=by
 unfold qAz;cases t.size - a with
 | zero=>rfl
 | succ n =>
  show(if qDo (bAt t (a:Int))=true then _ else _)=_;rw[if_neg (by rw[h];decide)]
theorem qCs(t:BA)(a:Nat):a<=qAz t a:=by
 by_cases h:qDo (bAt t a)=true
 ·rw[skipS_yes h];have:=qCs t (a+1);omega
 ·rw[skipS_no (by simpa using h)];exact Nat.le_refl _
termination_by t.size - a
decreasing_by have:=qDq h;omega
theorem qBt(t:BA)(a:Nat)(ha:a<=t.size):qAz t a<=t.size:=by
 by_cases h:qDo (bAt t a)=true
 ·rw[skipS_yes h];exact qBt t (a+1) (by have:=qDq h;omega)
 ·rw[skipS_no (by simpa using h)];exact ha
termination_by t.size - a
decreasing_by have:=qDq h;omega
def digR(t:BA)(a:Nat):Rd Unit:=if qE2 t a=a then .bad 31 a else .ok (qE2 t a) ()
def litR(t:BA)(w:List Int)(a:Nat):Rd Unit :=
 match w with
 | []=>.ok a ()
 | c::w=>if bAt t a=c then litR t w (a+1) else .bad 31 a
def hexS(c:Int):Int:=if 48<=c/\c<=57 then c - 48 else if 97<=c/\c<=102 then c - 97+10 else if 65<=c/\c<=70 then c - 65+10 else -1
def hexBad(half:Bool)(i:Nat)(u d:Int):Prop:=d<0\/(half=true/\(i=0/\d≠13\/i=1/\d<12))\/(half=false/\i=1/\u=13/\12<=d)
instance (half:Bool) (i:Nat) (u d:Int):Decidable (hexBad half i u d):=by unfold hexBad;exact inferInstance
def fourR(t:BA)(half:Bool)(from_:Nat):Nat->Nat->Nat->Int->Rd Int
 | 0,_,a,u=>.ok a u
 | m+1,i,a,u=>if bAt t a<0 then .bad 31 t.size else if hexBad half i u (hexS (bAt t a)) then .bad 33 from_ else fourR t half from_ m (i+1) (a+1) (16*u+hexS (bAt t a))
def pairR(t:BA)(from_:Nat)(a:Nat)(u:Int):Rd Int :=
 if bAt t a<0 then .bad 31 t.size
 else if bAt t a≠92 then .bad 33 from_
 else if bAt t (a+1:Nat)<0 then .bad 31 t.size
 else if bAt t (a+1:Nat)≠117 then .bad 33 from_
 else match fourR t true from_ 4 0 (a+2) 0 with
  | .bad c b=>.bad c b
  | .ok b w=>.ok b (65536+1024*(u - 55296)+w - 56320)
def saidS(c:Int):Int:=if c=34\/c=92\/c=47 then c else if c=98 then 8 else if c=102 then 12 else if c=110 then 10 else if c=114 then 13 else if c=116 then 9 else -1
def escR(t:BA)(a:Nat):Rd Int :=
 if bAt t (a+1:Nat)<0 then .bad 31 t.size
 else if bAt t (a+1:Nat)=117 then
  match fourR t false a 4 0 (a+2) 0 with
  | .bad c b=>.bad c b
  | .ok b u=>if u<55296\/57343<u then .ok b u else pairR t a b u
 else if saidS (bAt t (a+1:Nat))<0 then .bad 33 a
 else .ok (a+2) (saidS (bAt t (a+1:Nat)))
def utfL(u:Int):List Int :=
 if u<128 then [u] else if u<2048 then [192+u / 64,128+u % 64] else if u<65536 then [224+u / 4096,128+u / 64 % 64,128+u % 64] else [240+u / 262144,128+u / 4096 % 64,128+u / 64 % 64,128+u % 64]
def quoR(t:BA):Nat->Nat->List Int->Rd (List Int)
 | 0,a,_=>.bad 31 a
 | n+1,a,acc =>
  if bAt t a<32 then .bad 31 a
  else if bAt t a=34 then .ok (a+1) acc
  else if bAt t a=92 then
   match escR t a with
   | .bad c b=>.bad c b
   | .ok b u=>quoR t n b (acc++utfL u)
  else if bAt t a<128 then quoR t n (a+1) (acc++[bAt t a])
  else if seqK t a=0 then quoR t n (a+seqW t a) (acc++qBi (t.extract a (a+seqW t a)))
  else .bad (seqK t a) (if seqK t a=31 then t.size else a)
def signS(t:BA)(a:Nat):Nat:=if bAt t a=45 then a+1 else a
def zeroR(t:BA)(a:Nat):Rd Unit:=if bAt t a=48 then .ok (a+1) () else digR t a
def dotR(t:BA)(a:Nat):Rd Unit:=if bAt t a=46 then digR t (a+1) else .ok a ()
def powR(t:BA)(a:Nat):Rd Unit :=
 if bAt t a=101\/bAt t a=69 then digR t (if bAt t (a+1:Nat)=43\/bAt t (a+1:Nat)=45 then a+2 else a+1) else .ok a ()
def numR(t:BA)(a:Nat):Rd Unit :=
 match zeroR t (signS t a) with
 | .bad c b=>.bad c b
 | .ok b _ =>
  match dotR t b with
  | .bad c b=>.bad c b
  | .ok b _=>powR t b
def nd0(k:Int)(x:BA)(w:Bool)(i:Int)(n:Int):Eng.Node:=⟨k,(⟨#[]⟩:BA),x,w,i,n⟩
noncomputable def scalR(t:BA)(a:Nat):Rd (List Eng.Node) :=
 if bAt t a=34 then match quoR t (t.size+1) (a+1) [] with
  | .bad c b=>.bad c b
  | .ok b l=>.ok b [nd0 5 (qBe l) false 0 0]
 else if bAt t a=45\/(48<=bAt t a/\bAt t a<=57) then match numR t a with
  | .bad c b=>.bad c b
  | .ok b _=>.ok b [nd0 4 (t.extract a b) (wholeV (t.extract a b)).2 (wholeV (t.extract a b)).1 0]
 else if bAt t a=110 then match litR t [110,117,108,108] a with
  | .bad c b=>.bad c b
  | .ok b _=>.ok b [nd0 1 ⟨#[]⟩ false 0 0]
 else if bAt t a=102 then match litR t [102,97,108,115,101] a with
  | .bad c b=>.bad c b
  | .ok b _=>.ok b [nd0 2 ⟨#[]⟩ false 0 0]
 else if bAt t a=116 then match litR t [116,114,117,101] a with
  | .bad c b=>.bad c b
  | .ok b _=>.ok b [nd0 3 ⟨#[]⟩ false 0 0]
 else .bad 31 a
def qFz(k:BA):List Eng.Node->List Eng.Node
 | []=>[]
 | n::r=>⟨n.kind,k,n.text,n.whole,n.int,n.kids⟩::r
def qGi(t:BA)(val:Nat->Rd (List Eng.Node))(obj:Bool)(names:List BA)(a:Nat):Rd (BA × List Eng.Node) :=
 if obj then
  if bAt t a=34 then match quoR t (t.size+1) (a+1) [] with
   | .bad c b=>.bad c b
   | .ok b l =>
    if qBe l∈names then .bad 34 a
    else if bAt t (qAz t b)=58 then match val (qAz t (qAz t b+1)) with
     | .bad c b=>.bad c b
     | .ok b x=>.ok b (qBe l,qFz (qBe l) x)
    else .bad 31 (qAz t b)
  else .bad 31 a
 else match val a with
  | .bad c b=>.bad c b
  | .ok b x=>.ok b (⟨#[]⟩,x)
def lastC(obj:Bool):Int:=if obj then 125 else 93
def rowR(t:BA)(val:Nat->Rd (List Eng.Node))(obj:Bool):Nat->Nat->Nat->List Eng.Node->List BA->Rd (Nat × List Eng.Node)
 | 0,a,_,_,_=>.bad 31 a
 | m+1,a,k,acc,names =>
  match qGi t val obj names a with
  | .bad c b=>.bad c b
  | .ok b x =>
   if bAt t (qAz t b)=lastC obj then .ok (qAz t b+1) (k+1,acc++x.2)
   else if bAt t (qAz t b)=44 then rowR t val obj m (qAz t (qAz t b+1)) (k+1) (acc++x.2) (names++[x.1])
   else .bad 31 (qAz t b)
def kindC(obj:Bool):Int:=if obj then 7 else 6
def boxR(t:BA)(val:Nat->Rd (List Eng.Node))(obj:Bool)(a:Nat):Rd (List Eng.Node) :=
 if bAt t (qAz t (a+1))=lastC obj then .ok (qAz t (a+1)+1) [nd0 (kindC obj) ⟨#[]⟩ false 0 0]
 else match rowR t val obj (t.size+1) (qAz t (a+1)) 0 [] [] with
  | .bad c b=>.bad c b
  | .ok b x=>.ok b (nd0 (kindC obj) ⟨#[]⟩ false 0 x.1::x.2)
noncomputable def valR(t:BA):Nat->Nat->Rd (List Eng.Node)
 | 0,a=>if bAt t a=91\/bAt t a=123 then .bad 11 a else scalR t a
 | d+1,a=>if bAt t a=91\/bAt t a=123 then boxR t (valR t d) (decide (bAt t a=123)) a else scalR t a
noncomputable def readR(t:BA):Rd (List Eng.Node) :=
 match valR t 32 (qAz t 0) with
 | .bad c b=>.bad c b
 | .ok b l=>if qAz t b<t.size then .bad 31 (qAz t b) else .ok (qAz t b) l
theorem qBp{t:BA}{a:Nat}(h:0<=bAt t a):a<t.size:=by
 have:=(qD5 h).2;omega
theorem digR_adv{t:BA}{a b:Nat}{x:Unit}(ha:a<=t.size)(h:digR t a=.ok b x):a<b/\b<=t.size/\b=qE2 t a:=by
 unfold digR at h;have h1:=manyS_ge t a;have h2:=manyS_le t a ha;split at h
 ·cases h
 ·cases h;omega
theorem litR_adv{t:BA}:∀ {w:List Int} {a b:Nat} {x:Unit},(∀c∈w,0<=c)->litR t w a=.ok b x->b=a+w.length/\(w≠[]->b<=t.size)
 | [],a,b,x,_,h=>by
  cases h;exact⟨rfl,λh=>(h rfl).elim⟩
 | c::w,a,b,x,hc,h=>by
  unfold litR at h;split at h
  ·rename_i h1;have h2:=litR_adv (λc hc'=>hc c (List.mem_cons_of_mem _ hc')) h;have h3:=qBp (t:=t) (a:=a) (by rw[h1];exact hc c List.mem_cons_self);refine⟨by rw[h2.1,List.length_cons];omega,λ_=>?_⟩;cases w with
   | nil=>rw[h2.1];exact h3
   | cons _ _=>exact h2.2 (by simp)
  ·cases h
theorem qGg(c:Int) : -1<=hexS c/\hexS c<=15:=by
 unfold hexS;repeat' split
 all_goals omega
theorem fourR_ok{t:BA}{half:Bool}{f a b:Nat}{u:Int}(h:fourR t half f 4 0 a 0=.ok b u) :
  b=a+4/\b<=t.size/\0<=u/\u<=65535/\(half=true->56320<=u/\u<=57343)/\(half=false->¬(56320<=u/\u<=57343)):=by
 have r0:=qGg (bAt t a);have r1:=qGg (bAt t (a+1:Nat));have r2:=qGg (bAt t (a+1+1:Nat));have r3:=qGg (bAt t (a+1+1+1:Nat));simp only[fourR] at h;split at h
 ·cases h
 split at h
 ·cases h
 rename_i n0 b0;split at h
 ·cases h
 split at h
 ·cases h
 rename_i n1 b1;split at h
 ·cases h
 split at h
 ·cases h
 rename_i n2 b2;split at h
 ·cases h
 split at h
 ·cases h
 rename_i n3 b3;have h3:=qBp (t:=t) (a:=a+1+1+1) (by omega);simp only[Rd.ok.injEq] at h;obtain⟨rfl,rfl⟩:=h;unfold hexBad at b0 b1 b2 b3;simp only[not_or] at b0 b1 b2 b3;refine⟨rfl,by omega,by omega,by omega,λhh=>?_,λhh=>?_⟩
 ·subst hh;simp only[true_and,Nat.zero_add] at b0 b1;omega
 ·subst hh;simp only[true_and,Nat.zero_add] at b0 b1;omega
theorem saidS_range(c:Int) : -1<=saidS c/\saidS c<=116:=by
 unfold saidS;repeat' split
 all_goals omega
def Code(u:Int):Prop:=0<=u/\u<=1114111/\¬(55296<=u/\u<=57343)
theorem escR_ok{t:BA}{a b:Nat}{u:Int}(h:escR t a=.ok b u):a<b/\b<=t.size/\Code u:=by
 unfold escR at h;have hr:=saidS_range (bAt t (a+1:Nat));split at h
 ·cases h
 ·rename_i h0;have hl:=qBp (t:=t) (a:=a+1) (by omega);split at h
  ·split at h
   ·cases h
   ·rename_i b' u' hf;have h4:=fourR_ok hf;have h5:=h4.2.2.2.2.2 rfl;split at h
    ·cases h;exact⟨by omega,h4.2.1,by unfold Code;omega⟩
    ·unfold pairR at h;repeat' split at h
     all_goals first | (cases h;done) | skip
     rename_i hw;have h6:=fourR_ok hw;have h7:=h6.2.2.2.2.1 rfl;cases h;exact⟨by omega,h6.2.1,by unfold Code;omega⟩
  ·split at h
   ·cases h
   ·cases h;exact⟨by omega,by omega,by unfold Code;omega⟩
theorem utfL_range{u:Int}(h:Code u):∀x∈utfL u,0<=x/\x<256:=by
 unfold Code at h;unfold utfL;intro x hx;repeat' split at hx
 all_goals
  simp only[List.mem_cons,List.not_mem_nil,or_false] at hx;omega
theorem utfL_len(u:Int):1<=(utfL u).length/\(utfL u).length<=4:=by
 unfold utfL;repeat' split
 all_goals simp
theorem bytesL_range'(s:BA):∀x∈qBi s,0<=x/\x<256:=by
 intro x hx;unfold qBi at hx;rw[List.mem_map] at hx;obtain⟨b,_,rfl⟩:=hx;have:=b.toNat_lt;omega
theorem quoR_ok{t:BA}:∀ {n a b:Nat} {acc l:List Int},quoR t n a acc=.ok b l->(∀x∈acc,0<=x/\x<256)->a<b/\b<=t.size/\(∀x∈l,0<=x/\x<256)/\l.length<=acc.length+4*(b - a)
 | 0,a,b,acc,l,h,_=>by cases h
 | n+1,a,b,acc,l,h,hacc=>by
  unfold quoR at h;split at h
  ·cases h
  ·rename_i h0;have ha:=qBp (t:=t) (a:=a) (by omega);split at h
   ·cases h;exact⟨by omega,by omega,hacc,by omega⟩
   ·split at h
    ·split at h
     ·cases h
     ·rename_i b' u he;have h1:=escR_ok he;have h2:=quoR_ok h (by
       intro x hx;rcases List.mem_append.1 hx with hx | hx
       ·exact hacc x hx
       ·exact utfL_range h1.2.2 x hx)
      have h3:=utfL_len u;rw[List.length_append] at h2;exact⟨by omega,h2.2.1,h2.2.2.1,by omega⟩
    ·split at h
     ·have hb:=bAt_range t a;have h2:=quoR_ok h (by
       intro x hx;rcases List.mem_append.1 hx with hx | hx
       ·exact hacc x hx
       ·rw[List.mem_singleton.1 hx];omega)
      rw[List.length_append,List.length_singleton] at h2;exact⟨by omega,h2.2.1,h2.2.2.1,by omega⟩
     ·split at h
      ·rename_i hk;have hw:=seqW_in ha (by have:=by8_in ha;omega) hk;have h2:=quoR_ok h (by
        intro x hx;rcases List.mem_append.1 hx with hx | hx
        ·exact hacc x hx
        ·exact bytesL_range' _ x hx)
       have h3:(qBi (t.extract a (a+seqW t a))).length<=4:=by
        unfold qBi;rw[List.length_map,Array.length_toList];show(t.extract a (a+seqW t a)).size<=4;rw[ByteArray.size_extract];omega
       rw[List.length_append] at h2;exact⟨by omega,h2.2.1,h2.2.2.1,by omega⟩
      ·cases h
theorem qBw{O:Type}{c:Bool}{p:Prop}[Decidable p](h:c=true↔p)(x y:O):(bif c then x else y)=if p then x else y:=by
 by_cases hp:p
 ·rw[if_pos hp,h.2 hp,cnT]
 ·rw[if_neg hp];cases c with
  | false=>rfl
  | true=>exact(hp (h.1 rfl)).elim
theorem blank_cond(t:BA)(a:Nat):((decide ((a:Int)<(t.size:Int))) && ((((decide ((bAt t a)=(32:Int))) || (decide ((bAt t a)=(9:Int)))) || (decide ((bAt t a)=(10:Int)))) || (decide ((bAt t a)=(13:Int)))))=qDo (bAt t a):=by
 by_cases h:a<t.size
 ·rw[deT (by omega),Bool.true_and];rfl
 ·rw[deF (by omega),Bool.false_and,qB4 (by omega)];rfl
theorem digR_code{t:BA}{a b:Nat}{c:Int}(h:digR t a=.bad c b):c=31:=by
 unfold digR at h;split at h
 ·cases h;rfl
 ·cases h
theorem ext_le(t:BA)(a b:Nat)(hs:t.size<=3000000):(t.extract a b).size<=3000000:=by
 rw[ByteArray.size_extract];omega
theorem bytesL_cons{s:BA}{i:Nat}(h:i<s.size):(qBi s).drop i=bAt s i::(qBi s).drop (i+1):=by
 have hl:i<(qBi s).length:=by simp only[qBi,List.length_map,Array.length_toList];exact h
 rw[List.drop_eq_getElem_cons hl];congr 1
 rw[bAt_in h];simp only[qBi,List.getElem_map];rfl
theorem litR_code{t:BA}:∀ {w:List Int} {a b:Nat} {c:Int},litR t w a=.bad c b->c=31
 | [],_,_,_,h=>by cases h
 | _::w,a,b,c,h=>by
  unfold litR at h;split at h
  ·exact litR_code h
  ·cases h;rfl
theorem u8_mod'{x:Int}(h:0<=x/\x<256):x % 256=x:=by omega
theorem fourR_code{t:BA}{hf:Bool}{f:Nat}:∀ {m i a b:Nat} {u c:Int},fourR t hf f m i a u=.bad c b->c=31\/c=33
 | 0,_,_,_,_,_,h=>by cases h
 | m+1,i,a,b,u,c,h=>by
  unfold fourR at h;split at h
  ·cases h;exact .inl rfl
  ·split at h
   ·cases h;exact .inr rfl
   ·exact fourR_code h
theorem escR_code{t:BA}{a b:Nat}{c:Int}(h:escR t a=.bad c b):c=31\/c=33:=by
 unfold escR at h;split at h
 ·cases h;exact .inl rfl
 ·split at h
  ·split at h
   ·rename_i h2;cases h;exact fourR_code h2
   ·split at h
    ·cases h
    ·unfold pairR at h;split at h
     ·cases h;exact .inl rfl
     ·split at h
      ·cases h;exact .inr rfl
      ·split at h
       ·cases h;exact .inl rfl
       ·split at h
        ·cases h;exact .inr rfl
        ·split at h
         ·rename_i h2;cases h;exact fourR_code h2
         ·cases h
  ·split at h
   ·cases h;exact .inr rfl
   ·cases h
theorem quoR_code{t:BA}:∀ {n a b:Nat} {acc:List Int} {c:Int},quoR t n a acc=.bad c b->c=31\/c=32\/c=33
 | 0,_,_,_,_,h=>by cases h;exact .inl rfl
 | n+1,a,b,acc,c,h=>by
  unfold quoR at h;split at h
  ·cases h;exact .inl rfl
  ·split at h
   ·cases h
   ·split at h
    ·split at h
     ·rename_i h2;cases h;rcases escR_code h2 with h3 | h3
      ·exact .inl h3
      ·exact .inr (.inr h3)
     ·exact quoR_code h
    ·split at h
     ·exact quoR_code h
     ·split at h
      ·exact quoR_code h
      ·rename_i h5;have:=seqK_cases t a;simp only[Rd.bad.injEq] at h;omega
end Go.Proofs.YtbokbmjcodoccacDoor
