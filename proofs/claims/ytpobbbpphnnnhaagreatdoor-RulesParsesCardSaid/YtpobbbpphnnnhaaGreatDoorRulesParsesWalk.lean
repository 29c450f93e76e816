/-
  Texts of a claim.
-/
import Derived.Below
import Derived.Carry
import Derived.Lib.LaidU8
import Derived.Shelf.Lay
import Derived.Ground.NamesProg
import Derived.Test.YtpobbbpphnnnhaaGreatDoorEngHand
import Derived.Test.YtpobbbpphnnnhaaGreatDoorPRuleP4
import Derived.Test.YtpobbbpphnnnhaaGreatDoorEngPan
import Derived.Test.YtpobbbpphnnnhaaGreatDoorProg
import Derived.Test.YtpobbbpphnnnhaaGreatDoorJS
import Derived.Test.YtpobbbpphnnnhaaGreatDoorGC
import Derived.Test.YtpobbbpphnnnhaaGreatDoorJP
import Derived.Test.YtpobbbpphnnnhaaGreatDoorJQ
import Derived.Test.YtpobbbpphnnnhaaGreatDoorRP
import Derived.Test.YtpobbbpphnnnhaaGreatDoorEngN
import Derived.Test.YtpobbbpphnnnhaaGreatDoorEngO
import Derived.Test.YtpobbbpphnnnhaaGreatDoorRows
namespace Go.Proofs.YtpobbbpphnnnhaaGreatDoor
open Go.Eng
set_option linter.unusedVariables false
set_option linter.unusedSimpArgs false
abbrev qGb:Type:=qHl→Option (qHl × Int)
def Ag (SS:qGb→Prop) (f:qGb→Option (qHl × Int)) (t:BA) (o K:Nat) (res:Rd (RNl × Int)):Prop :=
 ∃z,RR t o K res z∧∀self,SS self→f self=some z
def tpR (z:qHl × Int):Int × BA × Int × Int × Int × Int × RNl:=(z.2,z.1.text,z.1.at_,z.1.open_,z.1.err,z.1.bad,z.1.out)
def AgL (SS:qGb→Prop) (f:qGb→Option (Int × BA × Int × Int × Int × Int × RNl)) (t:BA) (o K:Nat) (res:Rd (RNl × Int)):Prop :=
 ∃z,RR t o K res z∧∀self,SS self→f self=some (tpR z)
theorem RR.mono {t:BA} {o K K':Nat} {res:Rd (RNl × Int)} {z:qHl × Int} (h:RR t o K res z) (hk:K≤K'):RR t o K' res z:=by
 cases res with
 | ok b x=>exact h
 | bad c b =>
  obtain ⟨h1,h2,h3,h4,h5,h6,h7,h8,h9⟩:=h;exact ⟨h1,h2,h3,h4,h5,h6,h7,h8,by omega⟩
section
variable {t:BA} (hs:t.size≤1024)
include hs
theorem v_opens {a o:Nat} {out:RNl} (n:Int) (hn:0≤n∧n≤100) (ha:a≤t.size) (ho:o≤32):zcg_s ⟨t,(a:Int),out,(o:Int),0,0⟩ n=some (if o=32 then (⟨t,(a:Int),out,(o:Int),11,(a:Int)⟩,false) else (⟨t,(a:Int)+n,out,((o+1:Nat):Int),0,0⟩,true)):=by
 unfold zcg_s;dsimp only;by_cases h:o=32
 ·rw [deT (by omega),cnT,if_pos h,qE7 _ rfl];rfl
 ·rw [deF (by omega),cnF,if_neg h,qAb (by unfold qAf; omega),qAb (by unfold qAf; omega)];rfl
theorem v_atom {g:RuT} (hg:AdvG t g) {SS:qGb→Prop} {a o:Nat} {out:RNl} (ha:a≤t.size) (ho:o≤32) (hl:out.length≤a)
  (h0:∀a' o':Nat,a<a'→a'≤t.size→o'≤32→Ag SS (fun self=>self ⟨t,(a':Int),out,(o':Int),0,0⟩) t o' 1190 (g 0 a' o' out 0))
  (h3:∀a' o':Nat,a<a'→a'≤t.size→o'≤32→Ag SS (fun self=>zcj_t self ⟨t,(a':Int),out,(o':Int),0,0⟩) t o' 1192 (g 3 a' o' out 0)) :
  Ag SS (fun self=>zbz_t self ⟨t,(a:Int),out,(o:Int),0,0⟩) t o 1190 (atomF t g a o out):=by
 have h1:=qB6 t a;have h2:=qA6 t a ha;have hb:=skip_idem t a;have hp2:qE4 t true a=qE4 t true (qAq t a):=by unfold qE4; rw [hb]
 have hpa:qFb t a=qFb t (qAq t a):=by unfold qFb; rw [hp2]
 have hte:testS t a out=testS t (qAq t a) out:=by unfold testS; rw [hpa]
 unfold Ag zbz_t atomF;simp only [qC7 hs,obS,hte,decide_true,Bool.not_true,cnF];generalize qAq t a=i at *
 by_cases hi:t.size≤i
 ·rw [if_pos hi];refine ⟨_,?_,fun self hS=>by rw [deF (show ¬i<t.size by omega),Bool.not_false,cnT,qE7 _ rfl]; rfl⟩;exact ⟨by decide,h2,rfl,rfl,rfl,rfl,by show (0:Int)≤(i:Int); omega,by show (i:Int)+_≤_; omega,by show out.length+_≤_; omega⟩
 ·rw [if_neg hi,deT (show i<t.size by omega),Bool.not_true];simp only [cnF,v_word hs _ _ _ _ i h2,obS,show (⟨#[110,111,116]⟩:BA)=bNot from rfl,show (⟨#[104,97,115]⟩:BA)=bHas from rfl,v_opens hs (out:=out) 3 (by omega) h2 ho,v_opens hs (out:=out) 1 (by omega) h2 ho];by_cases w1:qA5 t i=bNot
  ·have hin:=qCc h2 w1;have e:bNot.size=3:=rfl;rw [if_pos w1,deT w1];simp only [cnT];by_cases h32:o=32
   ·rw [if_pos h32,if_pos h32];refine ⟨_,?_,fun self hS=>rfl⟩;exact ⟨by decide,h2,rfl,rfl,rfl,rfl,by show (0:Int)≤(i:Int); omega,by show (i:Int)+_≤_; omega,by show out.length+_≤_; omega⟩
   ·rw [if_neg h32,if_neg h32];simp only [Bool.not_true,cnF];obtain ⟨z,hz1,hz2⟩:=h0 (i+3) (o+1) (by omega) (by omega) (by omega);rw [show (i:Int)+3=((i+3:Nat):Int) by omega];cases hr:g 0 (i+3) (o+1) out 0 with
    | bad c b =>
     rw [hr] at hz1;obtain ⟨⟨zt,za,zl,zo,ze,zb⟩,zv⟩:=z;obtain ⟨q1,q2,q3,q4,q5,q6,q7,q8,q9⟩:=hz1;dsimp only at q3 q4 q5 q6 q7 q8 q9;subst q3 q4 q5 q6;refine ⟨_,?_,fun self hS=>by
      have h7:=hz2 self hS;dsimp only at h7;rw [h7,obS,qAb (show qAf (((o+1:Nat):Int) - 1) by unfold qAf; omega),v_node _ _ (by show zl.length≤_; omega)];rfl⟩
     exact ⟨q1,q2,rfl,rfl,rfl,by show ((o+1:Nat):Int) - 1=_; omega,q7,by show za+_≤_; omega,by simp only [List.length_append,List.length_cons,List.length_nil]; omega⟩
    | ok b x =>
     obtain ⟨p1,p2,p3⟩:=hg 0 (i+3) (o+1) b out 0 x (by omega) hr;rw [hr] at hz1;cases hz1;refine ⟨_,?_,fun self hS=>by
      have h7:=hz2 self hS;dsimp only at h7;rw [h7,obS,qAb (show qAf (((o+1:Nat):Int) - 1) by unfold qAf; omega),v_node _ _ (by show x.1.length≤_; omega)];rfl⟩
     show _=_;rw [show (((o+1:Nat):Int) - 1)=(o:Int) by omega]
  ·rw [if_neg w1,deF w1];simp only [cnF];by_cases w2:qA5 t i=bHas
   ·have hin:=qCc h2 w2;have e:bHas.size=3:=rfl;rw [if_pos w2,deT w2];simp only [cnT];obtain ⟨l',k1⟩:=v_path hs (o:Int) out (i+3) (by omega);rw [show (i:Int)+3=((i+3:Nat):Int) by omega,qAb (by unfold qAf; omega),k1,obS];cases hp:qFb t (i+3) with
    | bad c b =>
     obtain ⟨rfl,hb⟩:=pathS_bad (by omega) hp;dsimp only;rw [v_node _ _ (by show out.length≤_; omega),obS];refine ⟨_,?_,fun self hS=>rfl⟩;exact ⟨by decide,hb,rfl,rfl,rfl,rfl,by show (0:Int)≤(b:Int); omega,by show (b:Int)+_≤_; omega,by simp only [List.length_append,List.length_cons,List.length_nil]; omega⟩
    | ok b l =>
     dsimp only;rw [v_node _ _ (by show out.length≤_; omega),obS];exact ⟨_,rfl,fun self hS=>rfl⟩
   ·rw [if_neg w2,deF w2];simp only [cnF];simp only [qAb (show 0≤(i:Int)∧(i:Int)<(t.size:Int) by omega)];by_cases h40:bAt t (i:Int)=40
    ·have h5:=bNN (by omega) h40;rw [if_pos h40,deT h40];simp only [Bool.not_true,cnF];by_cases h32:o=32
     ·rw [if_pos h32,if_pos h32];refine ⟨_,?_,fun self hS=>rfl⟩;exact ⟨by decide,h2,rfl,rfl,rfl,rfl,by show (0:Int)≤(i:Int); omega,by show (i:Int)+_≤_; omega,by show out.length+_≤_; omega⟩
     ·rw [if_neg h32,if_neg h32];simp only [Bool.not_true,cnF];obtain ⟨z,hz1,hz2⟩:=h3 (i+1) (o+1) (by omega) (by omega) (by omega);rw [show (i:Int)+1=((i+1:Nat):Int) by omega];cases hr:g 3 (i+1) (o+1) out 0 with
      | bad c b =>
       rw [hr] at hz1;obtain ⟨⟨zt,za,zl,zo,ze,zb⟩,zv⟩:=z;obtain ⟨q1,q2,q3,q4,q5,q6,q7,q8,q9⟩:=hz1;dsimp only at q3 q4 q5 q6 q7 q8 q9;subst q3 q4 q5 q6;refine ⟨(⟨zt,za+1,zl,((o+1:Nat):Int) - 1,ze,(b:Int)⟩,zv),?_,fun self hS=>by
        have h7:=hz2 self hS;dsimp only at h7;unfold qHk;rw [h7,obS];dsimp only;rw [deF q1,cnF,qAb (fun h=>by cases h),Bool.false_and,cnF,qAb (by unfold qAf; omega),qAb (by unfold qAf; omega),obS]⟩
       exact ⟨q1,q2,rfl,rfl,rfl,by show ((o+1:Nat):Int) - 1=_; omega,by show 0≤za+1; omega,by show za+1+_≤_; omega,by show zl.length+_≤_; omega⟩
      | ok b x =>
       obtain ⟨p1,p2,p3⟩:=hg 3 (i+1) (o+1) b out 0 x (by omega) hr;have h6:=qB6 t b;have h7:=qA6 t b p1;rw [hr] at hz1;cases hz1;show ∃z,RR t o 1190 (if bAt t (qAq t b:Int)=41 then .ok (qAq t b+1) x else .bad 180 (qAq t b)) z∧_;by_cases h41:bAt t (qAq t b:Int)=41
       ·have h8:=bNN (by omega) h41;rw [if_pos h41];refine ⟨(⟨t,((qAq t b+1:Nat):Int),x.1,(o:Int),0,0⟩,x.2),rfl,fun self hS=>by
         have h7:=hz2 self hS;dsimp only at h7;unfold qHk;rw [h7,obS];dsimp only;rw [deT rfl,cnT,qC7 hs,obS];dsimp only;rw [deT h8,Bool.not_true,qAb (fun _ _=>by omega),h41,deT rfl,Bool.not_true,Bool.or_false,Bool.and_false,cnF,qAb (by unfold qAf; omega),qAb (by unfold qAf; omega),obS,show (((o+1:Nat):Int) - 1)=(o:Int) by omega,show ((qAq t b:Nat):Int)+1=((qAq t b+1:Nat):Int) by omega]⟩
       ·rw [if_neg h41];refine ⟨(⟨t,(qAq t b:Int)+1,x.1,((o+1:Nat):Int) - 1,180,(qAq t b:Int)⟩,x.2),?_,fun self hS=>by
         have h7:=hz2 self hS;dsimp only at h7;unfold qHk;rw [h7,obS];dsimp only;rw [deT rfl,cnT,qC7 hs,obS];dsimp only;rw [qAb (fun h _=>by have h9:qAq t b<t.size:=(by simpa using h); omega),deF h41,Bool.not_false,Bool.or_true,Bool.and_true,cnT,qE7 _ rfl,obS];dsimp only;rw [qAb (by unfold qAf; omega),qAb (by unfold qAf; omega),obS]⟩
        exact ⟨by decide,h7,rfl,rfl,rfl,by show ((o+1:Nat):Int) - 1=_; omega,by show 0≤(qAq t b:Int)+1; omega,by show (qAq t b:Int)+1+_≤_; omega,by show x.1.length+_≤_; omega⟩
    ·rw [if_neg h40,deF h40];simp only [Bool.not_false,cnT];obtain ⟨z,k1,k2⟩:=v_test hs h2 ho (show out.length≤i by omega);exact ⟨z,k2,fun self hS=>by rw [k1]; rfl⟩
omit hs in
theorem v_stop0 (self:qGb) (a:Int) (z:qHl) (h:z.err≠0) (w:BA) (op:Int):zcc_p1 self w op a z.text z.at_ z.open_ z.err z.bad z.out=some (tpR (z,a)):=by
 refine qAi ?_;unfold qDp;dsimp only;rw [deF h,cnF];rfl
omit hs in
theorem v_stop1 (self:qGb) (a:Int) (z:qHl) (h:z.err≠0) (w:BA) (op:Int):zcd_p1 self w op a z.text z.at_ z.open_ z.err z.bad z.out=some (tpR (z,a)):=by
 refine qAi ?_;unfold qDq;dsimp only;rw [deF h,cnF];rfl
omit hs in
theorem v_conj {g:RuT} (hg:AdvG t g) {SS:qGb→Prop} {a o:Nat} {out:RNl} (ha:a≤t.size) (ho:o≤32) (hl:out.length≤a)
  (h0:Ag SS (fun self=>self ⟨t,(a:Int),out,(o:Int),0,0⟩) t o 1190 (g 0 a o out 0))
  (h2:∀(b:Nat) (x:RNl × Int),a<b→b≤t.size→x.1.length≤b→AgL SS (fun self=>zcc_p1 self bAnd 1 x.2 t (b:Int) (o:Int) 0 0 x.1) t o 1191 (g 2 b o x.1 x.2)) :
  Ag SS (fun self=>zcc_t self ⟨t,(a:Int),out,(o:Int),0,0⟩ bAnd 1) t o 1191 (thenF g 0 2 a o out):=by
 obtain ⟨z,hz1,hz2⟩:=h0;unfold thenF;cases hr:g 0 a o out 0 with
 | bad c b =>
  rw [hr] at hz1;refine ⟨z,hz1.mono (by omega),fun self hS=>?_⟩;have h7:=hz2 self hS;unfold zcc_t zcc_p0;dsimp only at h7 ⊢;rw [h7,obS,v_stop0 self z.2 z.1 (by rw [hz1.2.2.2.1]; exact hz1.1),obS];rfl
 | ok b x =>
  obtain ⟨q1,q2,q3⟩:=hg 0 a o b out 0 x ha hr;rw [if_pos (.inl rfl)] at q2;rw [hr] at hz1;cases hz1;obtain ⟨y,hy1,hy2⟩:=h2 b x q2 q1 (by omega);refine ⟨y,hy1,fun self hS=>?_⟩;have h7:=hz2 self hS;have h8:=hy2 self hS;unfold zcc_t zcc_p0;dsimp only at h7 h8 ⊢;rw [h7,obS,h8,obS];rfl
omit hs in
theorem v_rule {g:RuT} (hg:AdvG t g) {SS:qGb→Prop} {a o:Nat} {out:RNl} (ha:a≤t.size) (ho:o≤32) (hl:out.length≤a)
  (h0:Ag SS (fun self=>zcc_t self ⟨t,(a:Int),out,(o:Int),0,0⟩ bAnd 1) t o 1191 (g 1 a o out 0))
  (h2:∀(b:Nat) (x:RNl × Int),a<b→b≤t.size→x.1.length≤b→AgL SS (fun self=>zcd_p1 self bOr 2 x.2 t (b:Int) (o:Int) 0 0 x.1) t o 1192 (g 4 b o x.1 x.2)) :
  Ag SS (fun self=>zcj_t self ⟨t,(a:Int),out,(o:Int),0,0⟩) t o 1192 (thenF g 1 4 a o out):=by
 obtain ⟨z,hz1,hz2⟩:=h0;unfold thenF;cases hr:g 1 a o out 0 with
 | bad c b =>
  rw [hr] at hz1;refine ⟨z,hz1.mono (by omega),fun self hS=>?_⟩;have h7:=hz2 self hS;unfold zcj_t zcd_t zcd_p0;rw [show (⟨#[97,110,100]⟩:BA)=bAnd from rfl];dsimp only at h7 ⊢;rw [h7,obS,v_stop1 self z.2 z.1 (by rw [hz1.2.2.2.1]; exact hz1.1),obS];rfl
 | ok b x =>
  obtain ⟨q1,q2,q3⟩:=hg 1 a o b out 0 x ha hr;rw [if_pos (.inr (.inl rfl))] at q2;rw [hr] at hz1;cases hz1;obtain ⟨y,hy1,hy2⟩:=h2 b x q2 q1 (by omega);refine ⟨y,hy1,fun self hS=>?_⟩;have h7:=hz2 self hS;have h8:=hy2 self hS;unfold zcj_t zcd_t zcd_p0;rw [show (⟨#[97,110,100]⟩:BA)=bAnd from rfl,show (⟨#[111,114]⟩:BA)=bOr from rfl];dsimp only at h7 h8 ⊢;rw [h7,obS,h8,obS];rfl
theorem v_more {g:RuT} (hg:AdvG t g) {SS:qGb→Prop} {a o:Nat} {out:RNl} {acc:Int} (ha:a≤t.size) (ho:o≤32) (hl:out.length≤a)
  (h0:∀a':Nat,a<a'→a'≤t.size→Ag SS (fun self=>self ⟨t,(a':Int),out,(o:Int),0,0⟩) t o 1190 (g 0 a' o out 0))
  (h2:∀(b:Nat) (out':RNl) (x:Int),a<b→b≤t.size→out'.length≤b→AgL SS (fun self=>zcc_p1 self bAnd 1 x t (b:Int) (o:Int) 0 0 out') t o 1191 (g 2 b o out' x)) :
  AgL SS (fun self=>zcc_p1 self bAnd 1 acc t (a:Int) (o:Int) 0 0 out) t o 1191 (moreF t g bAnd 1 0 2 a o out acc):=by
 have g1:=qB6 t a;have g2:=qA6 t a ha;have e:bAnd.size=3:=rfl;unfold moreF;by_cases w1:qA5 t (qAq t a)=bAnd
 ·have hin:=qCc g2 w1;rw [if_pos w1];obtain ⟨z,hz1,hz2⟩:=h0 (qAq t a+bAnd.size) (by omega) hin;have hst:∀self,SS self→qDp self bAnd 1 acc t (a:Int) (o:Int) 0 0 out=(zce_s z.1 ⟨1,acc,z.2,[],0,⟨#[]⟩⟩).bind fun r47=>some (.inl (r47.2,r47.1.text,r47.1.at_,r47.1.open_,r47.1.err,r47.1.bad,r47.1.out)):=fun self hS=>by
   have h7:=hz2 self hS;unfold qDp;dsimp only at h7;rw [deT rfl,cnT,qC7 hs,obS];dsimp only;rw [deT (by omega),cnT,v_word hs _ _ _ _ _ g2,obS,deT w1,cnT,qAb (by unfold qAf; omega),deF (by omega),cnF,show ((qAq t a:Nat):Int)+(bAnd.size:Int)=((qAq t a+bAnd.size:Nat):Int) by omega,h7,obS]
  cases hr:g 0 (qAq t a+bAnd.size) o out 0 with
  | bad c b =>
   rw [hr] at hz1;have hz:=hz1;obtain ⟨q1,q2,q3,q4,q5,q6,q7,q8,q9⟩:=hz1;refine ⟨(⟨z.1.text,z.1.at_,z.1.out++[(1,acc,z.2,[],0,⟨#[]⟩,())],z.1.open_,z.1.err,z.1.bad⟩,(z.1.out.length:Int)),?_,fun self hS=>?_⟩
   ·exact ⟨q1,q2,q3,q4,q5,q6,q7,q8,by simp only [List.length_append,List.length_cons,List.length_nil]; omega⟩
   ·have h8:=hst self hS;rw [v_node _ _ (by omega),obS] at h8;exact (qAr h8).trans (v_stop0 self _ _ (by show z.1.err≠0; rw [q4]; exact q1) bAnd 1)
  | ok b x =>
   obtain ⟨q1,q2,q3⟩:=hg 0 _ o b out 0 x hin hr;rw [if_pos (.inl rfl)] at q2;rw [hr] at hz1;cases hz1;obtain ⟨y,hy1,hy2⟩:=h2 b (x.1++[(1,acc,x.2,[],0,⟨#[]⟩,())]) (x.1.length:Int) (by omega) q1 (by simp only [List.length_append,List.length_cons,List.length_nil]; omega);refine ⟨y,hy1,fun self hS=>?_⟩;have h8:=hst self hS;rw [v_node _ _ (by show x.1.length≤_; omega),obS] at h8;exact (qAr h8).trans (hy2 self hS)
 ·rw [if_neg w1];refine ⟨(⟨t,(qAq t a:Int),out,(o:Int),0,0⟩,acc),rfl,fun self hS=>qAi ?_⟩;unfold qDp;rw [deT rfl,cnT,qC7 hs,obS];dsimp only;cases decide (qAq t a<t.size) with
  | false=>rfl
  | true =>
   rw [cnT,v_word hs _ _ _ _ _ g2,obS,deF w1];rfl
theorem v_more2 {g:RuT} (hg:AdvG t g) {SS:qGb→Prop} {a o:Nat} {out:RNl} {acc:Int} (ha:a≤t.size) (ho:o≤32) (hl:out.length≤a)
  (h0:∀a':Nat,a+1<a'→a'≤t.size→Ag SS (fun self=>zcc_t self ⟨t,(a':Int),out,(o:Int),0,0⟩ bAnd 1) t o 1191 (g 1 a' o out 0))
  (h2:∀(b:Nat) (out':RNl) (x:Int),a<b→b≤t.size→out'.length≤b→AgL SS (fun self=>zcd_p1 self bOr 2 x t (b:Int) (o:Int) 0 0 out') t o 1192 (g 4 b o out' x)) :
  AgL SS (fun self=>zcd_p1 self bOr 2 acc t (a:Int) (o:Int) 0 0 out) t o 1192 (moreF t g bOr 2 1 4 a o out acc):=by
 have g1:=qB6 t a;have g2:=qA6 t a ha;have e:bOr.size=2:=rfl;unfold moreF;by_cases w1:qA5 t (qAq t a)=bOr
 ·have hin:=qCc g2 w1;rw [if_pos w1];obtain ⟨z,hz1,hz2⟩:=h0 (qAq t a+bOr.size) (by omega) hin;have hst:∀self,SS self→qDq self bOr 2 acc t (a:Int) (o:Int) 0 0 out=(zce_s z.1 ⟨2,acc,z.2,[],0,⟨#[]⟩⟩).bind fun r47=>some (.inl (r47.2,r47.1.text,r47.1.at_,r47.1.open_,r47.1.err,r47.1.bad,r47.1.out)):=fun self hS=>by
   have h7:=hz2 self hS;unfold qDq;dsimp only at h7;rw [deT rfl,cnT,qC7 hs,obS];dsimp only;rw [deT (by omega),cnT,v_word hs _ _ _ _ _ g2,obS,deT w1,cnT,qAb (by unfold qAf; omega),deT rfl,cnT,show ((qAq t a:Nat):Int)+(bOr.size:Int)=((qAq t a+bOr.size:Nat):Int) by omega,show (⟨#[97,110,100]⟩:BA)=bAnd from rfl,h7,obS]
  cases hr:g 1 (qAq t a+bOr.size) o out 0 with
  | bad c b =>
   rw [hr] at hz1;have hz:=hz1;obtain ⟨q1,q2,q3,q4,q5,q6,q7,q8,q9⟩:=hz1;refine ⟨(⟨z.1.text,z.1.at_,z.1.out++[(2,acc,z.2,[],0,⟨#[]⟩,())],z.1.open_,z.1.err,z.1.bad⟩,(z.1.out.length:Int)),?_,fun self hS=>?_⟩
   ·exact ⟨q1,q2,q3,q4,q5,q6,q7,q8,by simp only [List.length_append,List.length_cons,List.length_nil]; omega⟩
   ·have h8:=hst self hS;rw [v_node _ _ (by omega),obS] at h8;exact (qAr h8).trans (v_stop1 self _ _ (by show z.1.err≠0; rw [q4]; exact q1) bOr 2)
  | ok b x =>
   obtain ⟨q1,q2,q3⟩:=hg 1 _ o b out 0 x hin hr;rw [if_pos (.inr (.inl rfl))] at q2;rw [hr] at hz1;cases hz1;obtain ⟨y,hy1,hy2⟩:=h2 b (x.1++[(2,acc,x.2,[],0,⟨#[]⟩,())]) (x.1.length:Int) (by omega) q1 (by simp only [List.length_append,List.length_cons,List.length_nil]; omega);refine ⟨y,hy1,fun self hS=>?_⟩;have h8:=hst self hS;rw [v_node _ _ (by show x.1.length≤_; omega),obS] at h8;exact (qAr h8).trans (hy2 self hS)
 ·rw [if_neg w1];refine ⟨(⟨t,(qAq t a:Int),out,(o:Int),0,0⟩,acc),rfl,fun self hS=>qAi ?_⟩;unfold qDq;rw [deT rfl,cnT,qC7 hs,obS];dsimp only;cases decide (qAq t a<t.size) with
  | false=>rfl
  | true =>
   rw [cnT,v_word hs _ _ _ _ _ g2,obS,deF w1];rfl
omit hs in
theorem Ag.sub {SS SS':qGb→Prop} {f:qGb→Option (qHl × Int)} {o K:Nat} {res:Rd (RNl × Int)} (h:Ag SS f t o K res) (hss:∀s,SS' s→SS s):Ag SS' f t o K res:=by
 obtain ⟨z,h1,h2⟩:=h;exact ⟨z,h1,fun s hS=>h2 s (hss s hS)⟩
omit hs in
theorem AgL.sub {SS SS':qGb→Prop} {f:qGb→Option (Int × BA × Int × Int × Int × Int × RNl)} {o K:Nat} {res:Rd (RNl × Int)} (h:AgL SS f t o K res) (hss:∀s,SS' s→SS s):AgL SS' f t o K res:=by
 obtain ⟨z,h1,h2⟩:=h;exact ⟨z,h1,fun s hS=>h2 s (hss s hS)⟩
def SSn (n:Nat) (self:qGb):Prop:=∃k,n≤k∧self=zbz_n k
omit hs in
theorem SSn_sub (n:Nat) (s:qGb) (h:SSn (n+1) s):SSn n s:=by
 obtain ⟨k,h1,h2⟩:=h;exact ⟨k,by omega,h2⟩
def Four (t:BA) (SS:qGb→Prop) (n:Nat):Prop :=
 (∀(a o:Nat) (out:RNl),5*(t.size+1 - a)+2≤n→a≤t.size→o≤32→out.length≤a→Ag SS (fun self=>zcc_t self ⟨t,(a:Int),out,(o:Int),0,0⟩ bAnd 1) t o 1191 (ruS t n 1 a o out 0)) ∧
 (∀(a o:Nat) (out:RNl) (acc:Int),5*(t.size+1 - a)+1≤n→a≤t.size→o≤32→out.length≤a→AgL SS (fun self=>zcc_p1 self bAnd 1 acc t (a:Int) (o:Int) 0 0 out) t o 1191 (ruS t n 2 a o out acc)) ∧
 (∀(a o:Nat) (out:RNl),5*(t.size+1 - a)+3≤n→a≤t.size→o≤32→out.length≤a→Ag SS (fun self=>zcj_t self ⟨t,(a:Int),out,(o:Int),0,0⟩) t o 1192 (ruS t n 3 a o out 0)) ∧
 (∀(a o:Nat) (out:RNl) (acc:Int),5*(t.size+1 - a)+1≤n→a≤t.size→o≤32→out.length≤a→AgL SS (fun self=>zcd_p1 self bOr 2 acc t (a:Int) (o:Int) 0 0 out) t o 1192 (ruS t n 4 a o out acc))
def AtomOK (t:BA) (SS:qGb→Prop) (n:Nat):Prop :=
 ∀(a o:Nat) (out:RNl),5*(t.size+1 - a)+1≤n→a≤t.size→o≤32→out.length≤a→Ag SS (fun self=>self ⟨t,(a:Int),out,(o:Int),0,0⟩) t o 1190 (ruS t n 0 a o out 0)
theorem v_four {SS:qGb→Prop} {n:Nat} (i0:AtomOK t SS n) (i:Four t SS n):Four t SS (n+1):=by
 obtain ⟨i1,i2,i3,i4⟩:=i;have hg:=ruS_adv (t:=t) n;refine ⟨fun a o out h ha ho hl=>?_,fun a o out acc h ha ho hl=>?_,fun a o out h ha ho hl=>?_,fun a o out acc h ha ho hl=>?_⟩
 ·exact v_conj hg ha ho hl (i0 a o out (by omega) ha ho hl) (fun b x h1 h2 h3=>i2 b o x.1 x.2 (by omega) h2 ho h3)
 ·exact v_more hs hg ha ho hl (fun a' h1 h2=>i0 a' o out (by omega) h2 ho (by omega)) (fun b out' x h1 h2 h3=>i2 b o out' x (by omega) h2 ho h3)
 ·exact v_rule hg ha ho hl (i1 a o out (by omega) ha ho hl) (fun b x h1 h2 h3=>i4 b o x.1 x.2 (by omega) h2 ho h3)
 ·exact v_more2 hs hg ha ho hl (fun a' h1 h2=>i1 a' o out (by omega) h2 ho (by omega)) (fun b out' x h1 h2 h3=>i4 b o out' x (by omega) h2 ho h3)
omit hs in
theorem v_four0 (SS:qGb→Prop):Four t SS 0:=⟨fun a o out h=>by omega,fun a o out acc h=>by omega,fun a o out h=>by omega,fun a o out acc h=>by omega⟩
omit hs in
theorem Four.sub {SS SS':qGb→Prop} {n:Nat} (h:Four t SS n) (hss:∀s,SS' s→SS s):Four t SS' n:=by
 obtain ⟨i1,i2,i3,i4⟩:=h;exact ⟨fun a o out h ha ho hl=>(i1 a o out h ha ho hl).sub hss,fun a o out acc h ha ho hl=>(i2 a o out acc h ha ho hl).sub hss,fun a o out h ha ho hl=>(i3 a o out h ha ho hl).sub hss,fun a o out acc h ha ho hl=>(i4 a o out acc h ha ho hl).sub hss⟩
theorem v_all:∀n:Nat,AtomOK t (SSn n) n∧Four t (SSn n) n
 | 0=>⟨fun a o out h=>by omega,v_four0 _⟩
 | n+1=>by
  obtain ⟨i0,i⟩:=v_all n;have hg:=ruS_adv (t:=t) n;refine ⟨fun a o out h ha ho hl=>?_,?_⟩
  ·obtain ⟨z,h1,h2⟩:=v_atom hs hg (SS:=SSn n) ha ho hl (fun a' o' h1 h2 h3=>i0 a' o' out (by omega) h2 h3 (by omega)) (fun a' o' h1 h2 h3=>i.2.2.1 a' o' out (by omega) h2 h3 (by omega));refine ⟨z,h1,fun s hS=>?_⟩;obtain ⟨k,k1,rfl⟩:=hS;obtain ⟨k',rfl⟩:∃k',k=k'+1:=⟨k - 1,by omega⟩;exact h2 _ ⟨k',by omega,rfl⟩
  ·exact (v_four hs i0 i).sub (SSn_sub n)
theorem v_s0 (n:Nat):AtomOK t (fun s=>s=zbz_s) n:=fun a o out h ha ho hl=>by
 obtain ⟨z,h1,h2⟩:=(v_all hs n).1 a o out h ha ho hl;refine ⟨z,h1,fun s hS=>?_⟩;subst hS;exact evt_eq (N:=n) fun k hk=>h2 _ ⟨k,hk,rfl⟩
theorem v_s:∀n:Nat,Four t (fun s=>s=zbz_s) n
 | 0=>v_four0 _
 | n+1=>v_four hs (v_s0 hs n) (v_s n)
end
theorem v_Parse (t:BA):zbx_s t=some ((ruleR t).1,(ruleR t).2.1,(ruleR t).2.2):=by
 unfold zbx_s ruleR;by_cases h:1024<t.size
 ·rw [deT (by omega),if_pos h];rfl
 ·have hs:t.size≤1024:=by omega
  rw [deF (by omega),if_neg h,cnF];obtain ⟨z,h1,h2⟩:=(v_s hs (5*t.size+9)).2.2.1 0 0 [] (by omega) (by omega) (by omega) (by simp);have h3:=h2 _ rfl;dsimp only at h3;rw [show zcj_s ⟨t,0,[],0,0,0⟩=zcj_t zbz_s ⟨t,((0:Nat):Int),[],((0:Nat):Int),0,0⟩ from rfl,h3,obS];cases hr:ruS t (5*t.size+9) 3 0 0 [] 0 with
  | bad c b =>
   rw [hr] at h1;obtain ⟨q1,q2,q3,q4,q5,q6,q7,q8,q9⟩:=h1;rw [q4,q5,deF q1,cnF];unfold zbx_p0;rw [deF q1];rfl
  | ok b x =>
   obtain ⟨q1,q2,q3⟩:=ruS_adv _ 3 0 0 b [] 0 x (by omega) hr;rw [hr] at h1;cases h1;dsimp only;rw [deT rfl,cnT,qC7 hs,obS];dsimp only;by_cases h5:qAq t b<t.size
   ·rw [deT h5,cnT,qE7 _ rfl,if_pos h5];rfl
   ·rw [deF h5,cnF,if_neg h5];rfl
end Go.Proofs.YtpobbbpphnnnhaaGreatDoor
namespace Go.Proofs.YtpobbbpphnnnhaaGreatDoor
open Go.Eng
set_option linter.unusedVariables false
set_option linter.unusedSimpArgs false
set_option maxRecDepth 100000
noncomputable section
def zbt_q:IQ:=(.seq (rg 2 [oP 2 (.mv vF)]) (.seq (rg 5 [oM 10 t0,oP 11 (.call 4 [t10]),oM 9 t11,oP 12 (.extract t9 0),oP 13 (.extract t9 1),oP 14 (.extract t9 2),oM 3 t12,oM 4 t13,oM 5 t14]) (.seq (rg 8 [oM 16 t0,oP 17 (.call 5 [t16]),oM 15 t17,oP 18 (.extract t15 0),oP 19 (.extract t15 1),oP 20 (.extract t15 2),oM 6 t18,oM 7 t19,oM 8 t20]) (.seq (rg 2 [oM 21 t4,oM 22 t7,oP 23 (.bi .eql t21 t22),oM 24 t23,oF 25 (.mv t5) 24,oF 26 (.mv t8) 24,oF 27 (.bi .eql t25 t26) 24,oP 28 (.pick t24 t27 vF),oM 29 t28,oF 30 (.mv t3) 29,oF 31 (.mv t6) 29,oF 32 (.call 6 [t30,t31]) 29,oP 33 (.pick t29 t32 vF),oM 2 t33]) (.cn [2] .ret)))))
def zbt_s (text:BA):Option Bool :=
 (qC6 text).bind fun r1 =>
 (zbx_s text).bind fun r2 =>
 bif ((decide (r1.2.1=r2.2.1)) && (decide (r1.2.2=r2.2.2))) then (
  (zbu_s r1.1 r2.1).bind fun r3 =>
  some r3)
 else (
  some false)
def zbt_c:CS:=mkC (qAa (dVC (dCO dS)) dNil) dNil (fun x y=>zbt_s x.1) (fun x y r=>.c (.o (.vB r))) fun x y r=>[]
theorem zbt_val:qAj Tryz.prog 3 zbt_c:=vl0 zbt_q [.tmp 2] 34 9 0 [(4,rules_Parse_w),(5,zbx_w),(6,zbu_w)] ⟨rules_Parse_ok,zbx_ok,zbu_ok,tV⟩ fun x y=>by
 simp only [zbt_s,-eq_self,qAc,qAe,obA,obS,slL,slR,qAd];kernel_rfl
end
theorem pathN_len {t:BA}:∀ {n a b:Nat} {l l':List BA},a≤t.size→pathN t n a l=.ok b l'→l'.length+a≤b+l.length
 | 0,a,b,l,l',_,h=>by cases h
 | n+1,a,b,l,l',ha,h=>by
  have h1:=qB6 t a;have h2:=qA6 t a ha;unfold pathN at h;split at h
  ·rename_i hd;have h3:=bNN (by omega) hd;split at h
   ·cases h
   ·rename_i b1 w hp;have h4:=qDd (by omega) hp;have h5:=pathN_len h4.2 h;simp only [List.length_append,List.length_cons,List.length_nil] at h5;omega
  ·cases h;omega
theorem pathS_len {t:BA} {a b:Nat} {l:List BA} (hs:t.size≤1024) (ha:a≤t.size) (h:qFb t a=.ok b l):l.length≤2000:=by
 have h0:=pathS_adv ha h;unfold qFb at h;split at h
 ·cases h
 ·rename_i b1 w hp;have h5:=pathN_len (qDd ha hp).2 h;simp only [List.length_cons,List.length_nil] at h5;omega
def SPl (out:RNl):Prop:=∀y∈out,y.2.2.2.1.length≤2000
theorem SPl.snoc {out:RNl} (h:SPl out) {y:Int × Int × Int × (List BA) × Int × BA × Unit} (hy:y.2.2.2.1.length≤2000):SPl (out++[y]):=by
 intro z hz;rcases List.mem_append.1 hz with hz | hz
 ·exact h z hz
 ·rw [List.mem_singleton.1 hz];exact hy
def SPG (t:BA) (g:RuT):Prop:=∀m a o b (out:RNl) (acc:Int) (x:RNl × Int),a≤t.size→SPl out→g m a o out acc=.ok b x→SPl x.1
section
variable {t:BA} (hs:t.size≤1024)
include hs
theorem atomF_sp {g:RuT} (hg:SPG t g) {a o b:Nat} {out:RNl} {x:RNl × Int} (ha:a≤t.size) (ho:SPl out) (h:atomF t g a o out=.ok b x):SPl x.1:=by
 have h2:=qA6 t a ha;unfold atomF at h;split at h
 ·cases h
 ·split at h
  ·rename_i hw;have hin:=qCc h2 hw;have e:bNot.size=3:=rfl;split at h
   ·cases h
   ·split at h
    ·cases h
    ·rename_i b1 x1 hr;have:=hg 0 _ _ _ _ _ _ (by omega) ho hr;cases h;exact this.snoc (by simp)
  ·split at h
   ·rename_i hw;have hin:=qCc h2 hw;have e:bHas.size=3:=rfl;split at h
    ·cases h
    ·rename_i b1 l hp;have h3:=pathS_len hs (by omega) hp;cases h;exact ho.snoc h3
   ·split at h
    ·rename_i hc;have h5:=bNN (by omega) hc;split at h
     ·cases h
     ·split at h
      ·cases h
      ·rename_i b1 x1 hr;have:=hg 3 _ _ _ _ _ _ (by omega) ho hr;split at h
       ·cases h;exact this
       ·cases h
    ·unfold testS at h;split at h
     ·cases h
     ·rename_i i l hp;have h3:=pathS_len hs ha hp;split at h
      ·cases h
      ·split at h
       ·cases h
       ·cases h;exact ho.snoc h3
omit hs in
theorem thenF_sp {g:RuT} (hv:AdvG t g) (hg:SPG t g) {m m' a o b:Nat} {out:RNl} {x:RNl × Int} (ha:a≤t.size) (ho:SPl out) (h:thenF g m m' a o out=.ok b x):SPl x.1:=by
 unfold thenF at h;split at h
 ·cases h
 ·rename_i b1 x1 hr;exact hg _ _ _ _ _ _ _ (hv _ _ _ _ _ _ _ ha hr).1 (hg _ _ _ _ _ _ _ ha ho hr) h
omit hs in
theorem moreF_sp {g:RuT} (hv:AdvG t g) (hg:SPG t g) {w:BA} {op acc:Int} {m m' a o b:Nat} {out:RNl} {x:RNl × Int} (ha:a≤t.size) (ho:SPl out) (h:moreF t g w op m m' a o out acc=.ok b x):SPl x.1:=by
 have h2:=qA6 t a ha;unfold moreF at h;split at h
 ·rename_i hw;have hin:=qCc h2 hw;split at h
  ·cases h
  ·rename_i b1 x1 hr;exact hg _ _ _ _ _ _ _ (hv _ _ _ _ _ _ _ (by omega) hr).1 ((hg _ _ _ _ _ _ _ (by omega) ho hr).snoc (by simp)) h
 ·cases h;exact ho
theorem ruS_sp:∀n,SPG t (ruS t n)
 | 0=>fun m a o b out acc x _ _ h=>by cases h
 | n+1=>fun m a o b out acc x ha ho h=>by
  have ih:=ruS_sp n;have iv:=ruS_adv (t:=t) n;match m,h with
  | 0,h=>exact atomF_sp hs ih ha ho h
  | 1,h=>exact thenF_sp iv ih ha ho h
  | 2,h=>exact moreF_sp iv ih ha ho h
  | 3,h=>exact thenF_sp iv ih ha ho h
  | m+4,h=>exact moreF_sp iv ih ha ho h
end
theorem ruleR_len (t:BA):(ruleR t).1.length≤2000∧SPl (ruleR t).1:=by
 have h0:SPl []:=fun y h=>by cases h
 unfold ruleR;split
 ·exact ⟨by simp,h0⟩
 ·rename_i hs;split
  ·exact ⟨by simp,h0⟩
  ·rename_i b x hr;split
   ·exact ⟨by simp,h0⟩
   ·have h1:=ruS_adv _ 3 0 0 b [] 0 x (by omega) hr;have h2:=ruS_sp (by omega) _ 3 0 0 b [] 0 x (by omega) h0 hr;refine ⟨?_,h2⟩;have h3:=h1.1;have h4:=h1.2.2;simp only [List.length_nil] at h4;show x.1.length≤2000;omega
theorem same_texts {a:List BA} (h:a.length≤2000):zbv_s a a=some true:=by
 unfold zbv_s zbv_p0;rw [deT rfl,Bool.not_true,cnF];have key:∀n i:Nat,i+n=a.length→qAw (fun x:Int=>qEk x a a) (i:Int)=some (.inr ()):=by
  intro n;induction n with
  | zero =>
   intro i hi;refine qAi ?_;unfold qEk;rw [deF (by omega),cnF]
  | succ n ih =>
   intro i hi;refine (qAr (y:=((i+1:Nat):Int)) ?_).trans (ih (i+1) (by omega));unfold qEk;rw [deT (by omega),cnT,qAb (by omega),qAb (by omega),qAb (by omega),qAb (by omega),deT rfl,Bool.not_true,cnF,qAb (by unfold qAf; omega)];rfl
 rw [show (0:Int)=((0:Nat):Int) from rfl,key a.length 0 (by omega)];rfl
theorem same_nodes {a:RNl} (h:a.length≤2000) (hp:SPl a):zbu_s a a=some true:=by
 unfold zbu_s zbu_p0;rw [deT rfl,Bool.not_true,cnF];have key:∀n i:Nat,i+n=a.length→qAw (fun x:Int=>qEj x a a) (i:Int)=some (.inr ()):=by
  intro n;induction n with
  | zero =>
   intro i hi;refine qAi ?_;unfold qEj;rw [deF (by omega),cnF]
  | succ n ih =>
   intro i hi;refine (qAr (y:=((i+1:Nat):Int)) ?_).trans (ih (i+1) (by omega));have g1:0≤(i:Int)∧(i:Int)<(a.length:Int):=by omega
   have g2:Int.toNat (i:Int)<a.length:=by omega
   have g3:((a.getD (Int.toNat (i:Int)) (NT.dft [.int .i64,.int .i64,.int .i64,.rw .str,.int .i64,.str])).2.2.2.1).length≤2000:=by
    rw [List.getD_eq_getElem?_getD,List.getElem?_eq_getElem g2];exact hp _ (List.getElem_mem g2)
   unfold qEj;simp only [qBq,qB2,qCe,qCf,qCg];generalize a.getD (Int.toNat (i:Int)) (NT.dft [.int .i64,.int .i64,.int .i64,.rw .str,.int .i64,.str])=x at *
   simp only [decide_true,Bool.not_true,Bool.or_false,qAb g1,qAb g2,deT g1.2,cnT,qAb (fun _:True=>g1),qAb (fun _:True=>g2),same_texts g3,obS,cnF];rw [qAb (by unfold qAf; omega)];rfl
 rw [show (0:Int)=((0:Nat):Int) from rfl,key a.length 0 (by omega)];rfl
theorem rulesParses_plain (t:BA):zbt_s t=some true:=by
 obtain ⟨h1,h2⟩:=ruleR_len t;unfold zbt_s;rw [u_Parse,obS,v_Parse,obS];dsimp only;rw [deT rfl,deT rfl,Bool.and_true,cnT,same_nodes h1 h2];rfl
end Go.Proofs.YtpobbbpphnnnhaaGreatDoor
namespace Go.Eng
open Go.RowKit
set_option linter.unusedVariables false
theorem reach_of {x:Nat} (h:decide (x≤reachBytes)=true):x≤140737488351232:=by
 have h2:=of_decide_eq_true h;exact h2
theorem size_of_weights {H:Type} {P:Program} {T:TypeId} {s:BA} (h:∀x∈(DataW.lit (.string s.data.toList):DataW H).weights P T,x≤140737488351232):s.size≤140737488351232:=by
 have h2:=h s.data.toList.length (by simp only [DataW.weights]; exact List.mem_singleton.2 rfl);rw [Array.length_toList] at h2;exact h2
structure LowB (w w':World):Prop where
 os:w'.os=w.os
 output:w'.output=w.output
 size:w.heap.size≤w'.heap.size
 block:∀k,k<w.heap.size→w'.heap[k]?=w.heap[k]?
theorem lowB_of_stays {w w':World} (h:Stays (fun _=>False) w w'):LowB w w':=⟨h.os,h.output,h.size,fun k hk=>h.block k hk id⟩
theorem LowB.frame {W w':World} (h:LowB W w') (may:MemPlace→Prop):W.keptBut w' may:=by
 refine ⟨h.os,h.output,fun i hi=>?_⟩;rw [h.block i hi];split <;> simp_all
theorem LowB.same {W w':World} (h:LowB W w') {p:MemPlace} (hp:p.block<W.heap.size):W.sameAt w' p:=by
 cases p with
 | cell b o=>exact World.cell?_of_block (w:=W) (h.block b hp)
 | map b=>exact h.block b hp
theorem LowB.trod {H:Type} {enc:TypeId × Value→H} {P:Program} {t:TypeId} (hl:laidOutB P=true) (hr:P.readableRec t=true) (hrow:t<P.types.size) {W W':World} {v:Value} {d:DataW H} {ps:List MemPlace}
  (h:DataW.Trod enc P W 0 (fun _=>true) true t v d ps) (hb:LowB W W') (hlt:∀x∈ps,x.block<W.heap.size) :
  DataW.Trod enc P W' 0 (fun b=>decide (b<W.heap.size)) true t v d ps :=
 WideElems.Trod_stays hl hr hrow h (fun x hx=>hb.same (hlt x hx)) (fun x hx=>by simpa using hlt x hx)
theorem callS {P:Program} {f:Nat} {C:CS} (h:qAj P f C) {args:List SV} {v:SV} (hc:C args [] (SV × List SB) (fun v hp'=>some (v,hp'))=some (v,[])) (hs:args.all SV.shut=true) (hv:v.shut=true) (w:World) (ht:qFv noX w) (vs:List Value) (hvs:args.map (SV.den fun _=>undef)=vs) :
  Calls P f vs.toArray w fun e w'=>e=.returned (v.den fun _=>undef)∧LowB w w':=by
 have:=h.2 args [] v [] hc (fun v hv=>SV.shut_lt (List.all_eq_true.1 hs v hv) _) noX w (fun _=>undef) (HpSat.nil _ _ ht _);rw [hvs] at this;exact this.mono fun e w' ⟨ρ',_,_,a,_,_,b⟩=>⟨by rw [a,SV.shut_den hv ρ' fun _=>undef],lowB_of_stays b⟩
end Go.Eng
namespace Go.Proofs
open Go.Shelf
shelf_lay Lays.n260 Nm 260 at Tryz as Tryz.laysSlow
end Go.Proofs
namespace Go.Proofs.YtpobbbpphnnnhaaGreatDoor
open Go.Eng Go.Shelf
set_option linter.unusedVariables false
theorem first_data:(Rows.laid_unicode_utf8_first:DataW Unit)=Lib.firstData:=by kernel_rfl
theorem accept_data:(Rows.laid_unicode_utf8_acceptRanges:DataW Unit)=Lib.acceptData:=by kernel_rfl
theorem slice_var {P:Program} {W:World} {t e:TypeId} {cs:Array Value} {fuel:Nat} {ds:List (DataW Unit)} {p:List MemPlace} (ht:P.underlying t=some (.slice e)) (h0:0<ds.length)
  (hd:DataW.trod (fun _=>()) P W 0 (fun _=>true) false fuel t cs.toList=some (.slice ds [],p)) :
  ∃a cap f,cs.toList=[.slice (some a) ds.length cap]∧ds.length≤cap∧∀i d,ds[i]?=some d→∃l q,W.cells? 0 (a.add (i*P.cellsOf e)) (P.cellsOf e)=some l∧DataW.trod (fun _=>()) P W 0 (fun _=>true) false f e l=some (d,q):=by
 rcases DataW.trod_slice ht hd with ⟨_,h⟩ | ⟨a,len,cap,elems,rest,n,rfl,hc,hx,hb,hl,hm,he,hg,_,_⟩
 ·cases h
 ·have h1:elems.map (·.1)=ds:=by
   have:=congrArg Prod.fst hx;simp only [DataW.slice.injEq] at this;exact this.1.symm
  have h2:ds.length=len:=by rw [←h1,List.length_map,he]
  refine ⟨a,cap,n,by rw [h2]; exact hc,by omega,fun i d hi=>?_⟩;have hil:i<len:=by
   rw [←h2];exact (List.getElem?_eq_some_iff.1 hi).1
  have h3:=hg i hil;rw [←h1,List.getElem?_map] at hi;obtain ⟨x,hx1,hx2⟩:=Option.map_eq_some_iff.1 hi;rw [hx1] at h3;obtain ⟨l,hl1,hl2⟩:=Option.bind_eq_some_iff.1 h3;exact ⟨l,x.2,hl1,hl2.trans (by rw [←hx2])⟩
theorem var_cell {P:Program} {W:World} {n:String} {g:Nat} {cs:Array Value} {v:Value} (hg:P.globalNamed n=some g) (hvar:W.var? P n=some cs) (hc:cs.toList=[v]):W.cell? ⟨g,0,none⟩=some v:=by
 rw [World.var?_cell hg hvar 0,←Array.getElem?_toList,hc];rfl
theorem cell_lt {W:World} {a:Addr} {v:Value} (h:W.cell? a=some v):a.block<W.heap.size:=by
 rcases Nat.lt_or_ge a.block W.heap.size with h' | h'
 ·exact h'
 ·unfold World.cell? at h;simp [Array.getElem?_eq_none h'] at h
theorem qG4 (a:Addr) (j:Nat):(a.add j).block=a.block:=by unfold Addr.add; split <;> rfl
theorem bytes_eq {a b:BA} (h:a.data.toList=b.data.toList):a=b:=by
 cases a;cases b;exact congrArg ByteArray.mk (Array.toList_inj.1 h)
theorem kw_tab {W:World} (h:Lib.VarReads Tryz.prog W "signet/rules.keywords" Rows.laid_signet_rules_keywords):TabIn noX W 2 .str kwT:=by
 obtain ⟨g,t,cs,fuel,p,hg,hty,hvar,hd⟩:=h;have hg':Tryz.prog.globalNamed "signet/rules.keywords" = some 2:=by kernel_rfl
 obtain rfl:=Option.some.inj (hg'.symm.trans hg);have hty':(Tryz.prog.globals[2]?).map (·.type)=some 41:=by kernel_rfl
 obtain rfl:=Option.some.inj (hty'.symm.trans hty);have hce:Tryz.prog.cellsOf 9=1:=by kernel_rfl
 obtain ⟨a,cap,f,hc,hl,hel⟩:=slice_var (e:=9) (by kernel_rfl) (by decide) hd;have hv:=var_cell hg hvar hc;refine ⟨_,hv,cell_lt hv,fun h=>h,some a,cap,rfl,hl,fun j u hu=>?_⟩;have hk:∀i s,kwT[i]?=some s→W.cell? (a.add i)=some (.string s):=fun i s hs=>by
  have hds:([.lit (.string [97,110,100]),.lit (.string [111,114]),.lit (.string [110,111,116]),.lit (.string [104,97,115]),.lit (.string [99,111,110,116,97,105,110,115]),.lit (.string [116,114,117,101]),.lit (.string [102,97,108,115,101]),.lit (.string [110,117,108,108])]:List (DataW Unit))=kwT.map fun s=>.lit (.string s.data.toList):=rfl
  obtain ⟨l,q,h1,h2⟩:=hel i (.lit (.string s.data.toList)) (by rw [hds,List.getElem?_map,hs]; rfl);rw [hce,Nat.mul_one] at h1;obtain ⟨s',rfl,h3,_⟩:=DataW.trod_string (by kernel_rfl) h2;have h4:=(World.cells?_some h1).2.2 0 (by omega);rw [Addr.add_add,Nat.add_zero] at h4;have h5:s'.data.toList=s.data.toList:=by
   simp only [Prod.mk.injEq,DataW.lit.injEq,Lit.string.injEq] at h3;exact h3.1.symm
  have h6:s'=s:=bytes_eq h5;rw [h4,h6];rfl
 have hen:kwT.flatMap ET.str.enc=kwT.map fun s=>Value.string s:=rfl
 rw [hen,List.getElem?_map] at hu;obtain ⟨s,hs1,hs2⟩:=Option.map_eq_some_iff.1 hu;have h7:=hk j s hs1;rw [hs2] at h7;have h8:=cell_lt h7;rw [qG4] at h8;exact ⟨a,rfl,h7,h8,fun h=>h⟩
noncomputable def opsT:TypeId:=((Tryz.prog.globals[0]?).map (·.type)).getD 0
noncomputable def opsE:TypeId:=match Tryz.prog.underlying opsT with | some (.slice e)=>e | _=>0
noncomputable def opsF:Array Field:=match Tryz.prog.underlying opsE with | some (.struct fs)=>fs | _ => #[]
theorem tag_cells {W:World} {f:Nat} {l:List Value} {q:List MemPlace} {s:BA} {n:Int} (hl:l.length=2) (h:DataW.trod (fun _=>()) Tryz.prog W 0 (fun _=>true) false f opsE l=some (.agg [.lit (.string s.data.toList),.lit (.int .i64 n)],q)):l=[.string s,.int .i64 n]:=by
 obtain ⟨c0,c1,rfl⟩:∃c0 c1,l=[c0,c1]:=by
  match l,hl with
  | [a,b],_=>exact ⟨a,b,rfl⟩
 obtain ⟨xs,m,rfl,hx,hln,hxl,hall⟩:=DataW.trod_struct (fs:=opsF) (by kernel_rfl) h;have hm:xs.map (·.1)=[.lit (.string s.data.toList),.lit (.int .i64 n)]:=by
  have:=congrArg Prod.fst hx;simp only [DataW.agg.injEq] at this;exact this.symm
 have hxl2:xs.length=2:=by
  have:=congrArg List.length hm;simpa using this
 clear hxl hx h hln;obtain ⟨x0,x1,rfl⟩:∃x0 x1,xs=[x0,x1]:=by
  clear hall hm;match xs,hxl2 with
  | [a,b],_=>exact ⟨a,b,rfl⟩
 simp only [List.map_cons,List.map_nil,List.cons.injEq,and_true] at hm;have f0:(opsF[0]?).map (fun f=>(f.type,f.offset))=some (9,0):=by kernel_rfl
 have f1:(opsF[1]?).map (fun f=>(f.type,f.offset))=some (40,1):=by kernel_rfl
 obtain ⟨g0,e0,k0⟩:=Option.map_eq_some_iff.1 f0;obtain ⟨g1,e1,k1⟩:=Option.map_eq_some_iff.1 f1;have h0:=hall 0 g0 e0;have h1:=hall 1 g1 e1;simp only [Prod.mk.injEq] at k0 k1;have c0e:Tryz.prog.cellsOf 9=1:=by kernel_rfl
 have c1e:Tryz.prog.cellsOf 40=1:=by kernel_rfl
 rw [k0.1,k0.2,c0e] at h0;rw [k1.1,k1.2,c1e] at h1;obtain ⟨s',a1,a2,_⟩:=DataW.trod_string (by kernel_rfl) h0;obtain ⟨n',b1,b2,_⟩:=DataW.trod_int (k:=.i64) (by kernel_rfl) h1;simp only [List.drop_zero,List.take_succ_cons,List.take_zero,List.cons.injEq,and_true,List.drop_succ_cons] at a1 b1;have a3:=hm.1;have b3:=hm.2;rw [a2] at a3;rw [b2] at b3;simp only [DataW.lit.injEq,Lit.string.injEq,Lit.int.injEq,true_and] at a3 b3;rw [a1,b1,bytes_eq a3,b3]
theorem ops_tab {W:World} (h:Lib.VarReads Tryz.prog W "signet/rules.operators" Rows.laid_signet_rules_operators):TabIn noX W 0 .tag opT:=by
 obtain ⟨g,t,cs,fuel,p,hg,hty,hvar,hd⟩:=h;have hg':Tryz.prog.globalNamed "signet/rules.operators" = some 0:=by kernel_rfl
 obtain rfl:=Option.some.inj (hg'.symm.trans hg);have hty':(Tryz.prog.globals[0]?).map (·.type)=some opsT:=by kernel_rfl
 obtain rfl:=Option.some.inj (hty'.symm.trans hty);have hce:Tryz.prog.cellsOf opsE=2:=by kernel_rfl
 obtain ⟨a,cap,f,hc,hl,hel⟩:=slice_var (e:=opsE) (by kernel_rfl) (by decide) hd;have hv:=var_cell hg hvar hc;refine ⟨_,hv,cell_lt hv,fun h=>h,some a,cap,rfl,hl,fun j u hu=>?_⟩;have hk:∀i s,opT[i]?=some s→W.cell? (a.add (2*i))=some (.string s.text)∧W.cell? (a.add (2*i+1))=some (.int .i64 s.num):=fun i s hs=>by
  have hds:([.agg [.lit (.string [33,61]),.lit (.int .i64 6)],.agg [.lit (.string [60,61]),.lit (.int .i64 8)],.agg [.lit (.string [62,61]),.lit (.int .i64 10)],.agg [.lit (.string [61]),.lit (.int .i64 5)],.agg [.lit (.string [60]),.lit (.int .i64 7)],.agg [.lit (.string [62]),.lit (.int .i64 9)]]:List (DataW Unit))=opT.map fun s=>.agg [.lit (.string s.text.data.toList),.lit (.int .i64 s.num)]:=rfl
  obtain ⟨l,q,h1,h2⟩:=hel i (.agg [.lit (.string s.text.data.toList),.lit (.int .i64 s.num)]) (by rw [hds,List.getElem?_map,hs]; rfl);rw [hce] at h1;obtain ⟨_,h3,h4⟩:=World.cells?_some h1;have h5:=tag_cells h3 h2;have h6:=h4 0 (by omega);have h7:=h4 1 (by omega);rw [Addr.add_add,h5] at h6 h7;rw [show 2*i=i*2+0 by omega,show i*2+0+1=i*2+1 by omega];exact ⟨h6,h7⟩
 have key:∀(n:Nat) (l:List Tag) (j:Nat) (u:Value),(∀i s,l[i]?=some s→W.cell? (a.add (2*(n+i)))=some (.string s.text)∧W.cell? (a.add (2*(n+i)+1))=some (.int .i64 s.num))→(l.flatMap ET.tag.enc)[j]?=some u→W.cell? (a.add (2*n+j))=some u:=by
  intro n l;induction l generalizing n with
  | nil=>intro j u _ h; cases h
  | cons x l ih =>
   intro j u hx hj;rw [List.flatMap_cons] at hj;have h0:=hx 0 x rfl;match j,hj with
   | 0,hj =>
    cases hj;exact h0.1
   | 1,hj =>
    cases hj;exact h0.2
   | j+2,hj =>
    have:=ih (n+1) j u (fun i s hs=>by rw [show n+1+i=n+(i+1) by omega]; exact hx (i+1) s hs) hj;rw [show 2*n+(j+2)=2*(n+1)+j by omega];exact this
 have h7:=key 0 opT j u (fun i s hs=>by rw [Nat.zero_add]; exact hk i s hs) hu;rw [Nat.mul_zero,Nat.zero_add] at h7;have h8:=cell_lt h7;rw [qG4] at h8;exact ⟨a,rfl,h7,h8,fun h=>h⟩
theorem rules_tabs {W:World} (h3:Lib.VarReads Tryz.prog W "unicode/utf8.first" Rows.laid_unicode_utf8_first) (h4:Lib.VarReads Tryz.prog W "unicode/utf8.acceptRanges" Rows.laid_unicode_utf8_acceptRanges) (h5:Lib.VarReads Tryz.prog W "signet/rules.keywords" Rows.laid_signet_rules_keywords) (h6:Lib.VarReads Tryz.prog W "signet/rules.operators" Rows.laid_signet_rules_operators):qFv noX W:=by
 rw [first_data] at h3;rw [accept_data] at h4;exact ⟨utf8Tabs_of_reads Tryz.laysSlow ⟨by kernel_rfl,by kernel_rfl,by kernel_rfl,by kernel_rfl,by kernel_rfl,by kernel_rfl,by kernel_rfl⟩ h3 h4,⟨fun h=>h,fun h=>h⟩,kw_tab h5,ops_tab h6⟩
end Go.Proofs.YtpobbbpphnnnhaaGreatDoor
namespace Go.Proofs.YtpobbbpphnnnhaaGreatDoor
open Go.Eng
set_option linter.unusedVariables false
set_option linter.unusedSimpArgs false
theorem rulesParses_tabs {W:World} (h:laidMetH Tryz.prog Rows.rulesParsesRow.laid W):qFv noX W:=by
 have h':laidMet Tryz.prog Rows.rulesParsesRow.laid W:=h;exact rules_tabs (Lib.laidMet.reads h' (List.mem_cons_of_mem _ (List.mem_cons_of_mem _ (List.mem_cons_of_mem _ List.mem_cons_self)))) (Lib.laidMet.reads h' List.mem_cons_self) (Lib.laidMet.reads h' (List.mem_cons_of_mem _ List.mem_cons_self)) (Lib.laidMet.reads h' (List.mem_cons_of_mem _ (List.mem_cons_of_mem _ List.mem_cons_self)))
theorem rulesParses_walk (s0:BA) (W:World) (h0:s0.size≤140737488351232) (hT:qFv noX W):Calls Tryz.prog 3 #[.string s0] W fun e w'=>e=.returned (.bool true)∧LowB W w':=by
 refine callS zbt_val (args:=[.c (.o (.val (.string s0)))]) (v:=.c (.o (.val (.bool true)))) ?_ rfl rfl W hT [.string s0] rfl;show ((zbt_s s0).bind fun r=>some ((.c (.o (.val (.bool r))),[]):SV × List SB))=_;rw [rulesParses_plain s0];rfl
end Go.Proofs.YtpobbbpphnnnhaaGreatDoor
