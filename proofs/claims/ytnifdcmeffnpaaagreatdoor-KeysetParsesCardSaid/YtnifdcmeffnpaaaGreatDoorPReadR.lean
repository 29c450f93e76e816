/-
  Texts of a claim.
-/
import Derived.Test.YtnifdcmeffnpaaaGreatDoorPLexQ
namespace Go.Proofs.YtnifdcmeffnpaaaGreatDoor
open Go.Eng
set_option linter.unusedVariables false
set_option linter.unusedSimpArgs false
def Adv (t:BA) (val:Nat→Rd (List Eng.Node)):Prop:=∀a b l,a≤t.size→val a=.ok b l→a<b∧b≤t.size∧l≠[]∧l.length≤b - a
theorem zeroR_adv {t:BA} {a b:Nat} {x:Unit} (ha:a≤t.size) (h:zeroR t a=.ok b x):a<b∧b≤t.size:=by
 unfold zeroR at h;split at h
 ·have:=qA7 (t:=t) (a:=a) (by omega);cases h;omega
 ·have:=qEb ha h;omega
theorem dotR_adv {t:BA} {a b:Nat} {x:Unit} (ha:a≤t.size) (h:dotR t a=.ok b x):a≤b∧b≤t.size:=by
 unfold dotR at h;split at h
 ·have:=qA7 (t:=t) (a:=a) (by omega);have:=qEb (by omega) h;omega
 ·cases h;omega
theorem powR_adv {t:BA} {a b:Nat} {x:Unit} (ha:a≤t.size) (h:powR t a=.ok b x):a≤b∧b≤t.size:=by
 unfold powR at h;split at h
 ·have:=qA7 (t:=t) (a:=a) (by omega);split at h
  ·have:=qA7 (t:=t) (a:=a+1) (by omega);have:=qEb (by omega) h;omega
  ·have:=qEb (by omega) h;omega
 ·cases h;omega
theorem numR_adv {t:BA} {a b:Nat} {x:Unit} (ha:a<t.size) (h:numR t a=.ok b x):a<b∧b≤t.size:=by
 unfold numR at h;have hs:a≤signS t a∧signS t a≤t.size:=by unfold signS; split <;> omega
 split at h
 ·cases h
 ·rename_i b1 x1 h1;have:=zeroR_adv hs.2 h1;split at h
  ·cases h
  ·rename_i b2 x2 h2;have:=dotR_adv this.2 h2;have:=powR_adv this.2 h;omega
theorem scalR_adv (t:BA):Adv t (qFp t):=by
 intro a b l ha h;unfold qFp at h;split at h
 ·have:=qA7 (t:=t) (a:=a) (by omega);split at h
  ·cases h
  ·rename_i h1;have:=quoR_ok h1 (by simp);cases h;exact ⟨by omega,this.2.1,by simp,by simp; omega⟩
 ·split at h
  ·rename_i hc;have:=qA7 (t:=t) (a:=a) (by omega);split at h
   ·cases h
   ·rename_i h1;have:=numR_adv this h1;cases h;exact ⟨this.1,this.2,by simp,by simp; omega⟩
  ·split at h
   ·split at h
    ·cases h
    ·rename_i h1;have:=litR_adv (by decide) h1;cases h;exact ⟨by rw [this.1]; simp,this.2 (by simp),by simp,by rw [this.1]; simp⟩
   ·split at h
    ·split at h
     ·cases h
     ·rename_i h1;have:=litR_adv (by decide) h1;cases h;exact ⟨by rw [this.1]; simp,this.2 (by simp),by simp,by rw [this.1]; simp⟩
    ·split at h
     ·split at h
      ·cases h
      ·rename_i h1;have:=litR_adv (by decide) h1;cases h;exact ⟨by rw [this.1]; simp,this.2 (by simp),by simp,by rw [this.1]; simp⟩
     ·cases h
theorem setKey_len (k:BA) (l:List Eng.Node):(qFl k l).length=l.length:=by cases l <;> rfl
theorem setKey_nil {k:BA} {l:List Eng.Node} (h:l≠[]):qFl k l≠[]:=by cases l <;> simp_all [qFl]
theorem itemR_adv {t:BA} {val:Nat→Rd (List Eng.Node)} (hv:Adv t val) {obj:Bool} {names:List BA} {a b:Nat} {x:BA × List Eng.Node} (ha:a≤t.size) (h:qE7 t val obj names a=.ok b x) :
  a<b∧b≤t.size∧x.2≠[]∧x.2.length≤b - a:=by
 unfold qE7 at h;split at h
 ·split at h
  ·have:=qA7 (t:=t) (a:=a) (by omega);split at h
   ·cases h
   ·rename_i b1 l h1;have h2:=quoR_ok h1 (by simp);split at h
    ·cases h
    ·split at h
     ·rename_i hc;have h3:=qA7 (t:=t) (a:=qAt t b1) (by omega);have h4:=qBy t b1;have h5:=qBy t (qAt t b1+1);have h6:=qBh t (qAt t b1+1) (by omega);split at h
      ·cases h
      ·rename_i h7;have h8:=hv _ _ _ h6 h7;cases h;exact ⟨by omega,h8.2.1,setKey_nil h8.2.2.1,by simp only [setKey_len]; omega⟩
     ·cases h
  ·cases h
 ·split at h
  ·cases h
  ·rename_i h7;have h8:=hv _ _ _ ha h7;cases h;exact h8
theorem qGo (obj:Bool):0≤qDy obj:=by cases obj <;> decide
theorem rowR_adv {t:BA} {val:Nat→Rd (List Eng.Node)} (hv:Adv t val) {obj:Bool}:∀ {m a k:Nat} {acc:List Eng.Node} {names:List BA} {b:Nat} {x:Nat × List Eng.Node},a≤t.size→rowR t val obj m a k acc names=.ok b x →
  a<b∧b≤t.size∧x.2.length≤acc.length+(b - a)∧k<x.1∧x.1 - k≤b - a
 | 0,a,k,acc,names,b,x,ha,h=>by cases h
 | m+1,a,k,acc,names,b,x,ha,h=>by
  unfold rowR at h;split at h
  ·cases h
  ·rename_i b1 x1 h1;have h2:=itemR_adv hv ha h1;have h4:=qBy t b1;have h3:=qGo obj;split at h
   ·have h5:=qA7 (t:=t) (a:=qAt t b1) (by omega);cases h;exact ⟨by omega,by omega,by simp only [List.length_append]; omega,by simp,by simp only; omega⟩
   ·split at h
    ·have h5:=qA7 (t:=t) (a:=qAt t b1) (by omega);have h6:=qBy t (qAt t b1+1);have h7:=qBh t (qAt t b1+1) (by omega);have h8:=rowR_adv hv h7 h;rw [List.length_append] at h8;exact ⟨by omega,h8.2.1,by omega,by omega,by omega⟩
    ·cases h
theorem boxR_adv {t:BA} {val:Nat→Rd (List Eng.Node)} (hv:Adv t val) {obj:Bool} {a b:Nat} {l:List Eng.Node} (ha:a<t.size) (h:boxR t val obj a=.ok b l):a<b∧b≤t.size∧l≠[]∧l.length≤b - a:=by
 unfold boxR at h;have h1:=qBy t (a+1);have h2:=qBh t (a+1) (by omega);have h3:=qGo obj;split at h
 ·have h5:=qA7 (t:=t) (a:=qAt t (a+1)) (by omega);cases h;exact ⟨by omega,by omega,by simp,by simp; omega⟩
 ·split at h
  ·cases h
  ·rename_i h4;have h5:=rowR_adv hv h2 h4;cases h;exact ⟨by omega,h5.2.1,by simp,by
    have:=h5.2.2.1;simp only [List.length_nil,Nat.zero_add] at this;rw [List.length_cons];omega⟩
theorem qEv (t:BA):∀d,Adv t (valR t d)
 | 0=>fun a b l ha h=>by
  unfold valR at h;split at h
  ·cases h
  ·exact scalR_adv t a b l ha h
 | d+1=>fun a b l ha h=>by
  unfold valR at h;split at h
  ·exact boxR_adv (qEv t d) (qA7 (t:=t) (a:=a) (by omega)) h
  ·exact scalR_adv t a b l ha h
def GotIs (g:qG0) (r:Rd (List Eng.Node)):Prop:=match r with
 | .bad c b=>g.code=c∧g.bad=(b:Int)∧c≠0
 | .ok b l=>g.at_=(b:Int)∧g.l=l∧g.code=0
theorem r_scal (t:BA) (hs:t.size≤3000000) (self:BA→Int→Int→Option qG0) (a:Nat) (ha:a≤t.size) (o:Int) (hn:¬(bAt t a=91∨bAt t a=123)):∃g,(∀self,zct_t self t (a:Int) o=some g)∧GotIs g (qFp t a):=by
 unfold qFp;have h0:∀self,zct_t self t (a:Int) o=zct_t (fun _ _ _=>none) t (a:Int) o:=by
  intro self;have hb:(decide (bAt t a=91) || decide (bAt t a=123))=false:=by simpa using hn
  unfold zct_t;simp only [r_at,obS,hb,cnF]
 suffices h:∃g,zct_t (fun _ _ _=>none) t (a:Int) o=some g∧GotIs g (qFp t a) by
  obtain ⟨g,h1,h2⟩:=h;exact ⟨g,fun self=>(h0 self).trans h1,by unfold qFp at h2; exact h2⟩
 unfold zct_t qFp;rw [r_at,obS,qA5 (p:=bAt t a=91∨bAt t a=123) (by simp),if_neg hn];by_cases h1:bAt t a=34
 ·have hl:=qA7 (t:=t) (a:=a) (by omega);rw [deT h1,cnT,if_pos h1,qAa (by unfold qAe; omega),show (a:Int)+1=((a+1:Nat):Int) by omega];obtain ⟨g,hg,hg2⟩:=r_quo t hs (a+1) (by omega);rw [hg,obS];cases h:quoR t (t.size+1) (a+1) [] with
  | bad c b =>
   rw [h] at hg2;obtain ⟨e1,e2,e3⟩:=hg2;rw [deF (by rw [e1]; exact e3),cnF];exact ⟨_,rfl,e1,e2,e3⟩
  | ok b l =>
   rw [h] at hg2;have hg2:g=⟨(b:Int),[],qAw l,0,0⟩:=hg2;rw [hg2];exact ⟨_,rfl,rfl,rfl,rfl⟩
 ·rw [deF h1,cnF,if_neg h1,qA5 (p:=bAt t a=45∨(48≤bAt t a∧bAt t a≤57)) (by simp)];by_cases h2:bAt t a=45∨(48≤bAt t a∧bAt t a≤57)
  ·have hl:=qA7 (t:=t) (a:=a) (by omega);rw [if_pos h2,if_pos h2,r_num t hs hl];cases h:numR t a with
   | bad c b =>
    refine ⟨_,rfl,rfl,rfl,?_⟩;have:c=31:=by
     unfold numR at h;split at h
     ·rename_i h3;cases h;unfold zeroR at h3;split at h3
      ·cases h3
      ·exact qDk h3
     ·split at h
      ·rename_i h3;cases h;unfold dotR at h3;split at h3
       ·exact qDk h3
       ·cases h3
      ·unfold powR at h;split at h
       ·exact qDk h
       ·cases h
    omega
   | ok b x=>exact ⟨_,rfl,rfl,rfl,rfl⟩
  ·rw [if_neg h2,if_neg h2];have lit:∀(w:BA) (k:Int),w.size≤10→∃g,((zcn_s t (a:Int) w k).bind fun r6=>some r6)=some g∧GotIs g (match litR t (qBb w) a with
     | .bad c b=>.bad c b
     | .ok b _=>.ok b [nd0 k ⟨#[]⟩ false 0 0]):=by
    intro w k hw;rw [r_lit t hs w hw a (by omega) k];cases h:litR t (qBb w) a with
    | bad c b =>
     have:=litR_code h;exact ⟨_,rfl,rfl,rfl,by omega⟩
    | ok b x=>exact ⟨_,rfl,rfl,rfl,rfl⟩
   by_cases h3:bAt t a=110
   ·rw [deT h3,cnT,if_pos h3];exact lit ⟨#[110,117,108,108]⟩ 1 (by decide)
   ·rw [deF h3,cnF,if_neg h3];by_cases h4:bAt t a=102
    ·rw [deT h4,cnT,if_pos h4];exact lit ⟨#[102,97,108,115,101]⟩ 2 (by decide)
    ·rw [deF h4,cnF,if_neg h4];by_cases h5:bAt t a=116
     ·rw [deT h5,cnT,if_pos h5];exact lit ⟨#[116,114,117,101]⟩ 3 (by decide)
     ·rw [deF h5,cnF,if_neg h5];exact ⟨_,rfl,rfl,rfl,by decide⟩
section
variable {t:BA} (hs:t.size≤1000000) {val:Nat→Rd (List Eng.Node)} (hv:Adv t val) {o:Int} {V:Nat→qG0} (hV:∀a,a≤t.size→GotIs (V a) (val a))
include hs hv hV
theorem r_item {obj:Bool} {names:List BA} {a:Nat} (ha:a≤t.size) (nm:List BA) (hnm:obj=true→nm=names) (hnl:nm.length≤2000000) :
  ∃g,(∀self:BA→Int→Int→Option qG0,(∀a:Nat,a≤t.size→self t (a:Int) o=some (V a))→zcm_t self t (a:Int) obj nm o=some g)∧(match qE7 t val obj names a with
   | .bad c b=>g.code=c∧g.bad=(b:Int)∧c≠0
   | .ok b x=>g.at_=(b:Int)∧g.l=x.2∧g.code=0∧(obj=true→g.s=x.1)):=by
 unfold zcm_t qE7;cases obj with
 | false =>
  refine ⟨V a,fun self hself=>?_,?_⟩
  ·rw [Bool.not_false,cnT,hself a ha];rfl
  ·have:=hV a ha;rw [if_neg (by simp)];cases h:val a with
   | bad c b=>rw [h] at this; exact this
   | ok b l=>rw [h] at this; exact ⟨this.1,this.2.1,this.2.2,fun h=>by cases h⟩
 | true =>
  have hnm:=hnm rfl;subst hnm;simp only [if_true,Bool.not_true,cnF];by_cases h1:bAt t a=34
  ·have hl:=qA7 (t:=t) (a:=a) (by omega);obtain ⟨g,hg,hg2⟩:=r_quo t (by omega) (a+1) (by omega);rw [if_pos h1];have e0:∀self:BA→Int→Int→Option qG0,((qDi t (a:Int)).bind fun r2 =>
    bif (!decide (r2=(34:Int))) then (
     (qEh (31:Int) (a:Int)).bind fun r3 =>
     some r3)
    else (
     gd (qAe ((a:Int)+(1:Int))) <|
     (zcp_s t ((a:Int)+(1:Int))).bind fun r4 =>
     bif (!decide (r4.code=(0:Int))) then (
      some r4)
     else (
      (zce_s nm r4.s).bind fun r5 =>
      bif r5 then (
       (qEh (34:Int) (a:Int)).bind fun r6 =>
       some r6)
      else (
       (zcs_s t r4.at_).bind fun r7 =>
       (qDi t r7).bind fun r8 =>
       bif (!decide (r8=(58:Int))) then (
        (qEh (31:Int) r7).bind fun r9 =>
        some r9)
       else (
        gd (qAe (r7+(1:Int))) <|
        (zcs_s t (r7+(1:Int))).bind fun r10 =>
        (self t r10 o).bind fun r11 =>
        bif decide (r11.code=(0:Int)) then (
         gd (0≤(0:Int)∧(0:Int)<r11.l.length) <|
         gd ((Int.toNat (0:Int))<r11.l.length) <|
         gd ((Int.toNat (0:Int))<r11.l.length) <|
         some (⟨r11.at_,(r11.l.set (Int.toNat (0:Int)) (⟨(r11.l.getD (Int.toNat (0:Int)) (ET.dft .node)).kind,r4.s,(r11.l.getD (Int.toNat (0:Int)) (ET.dft .node)).text,(r11.l.getD (Int.toNat (0:Int)) (ET.dft .node)).whole,(r11.l.getD (Int.toNat (0:Int)) (ET.dft .node)).int,(r11.l.getD (Int.toNat (0:Int)) (ET.dft .node)).kids⟩:Eng.Node)),r4.s,r11.code,r11.bad⟩:qG0))
        else (
         some r11)))))) =
     bif (!decide (g.code=(0:Int))) then (
      some g)
     else (
      (zce_s nm g.s).bind fun r5 =>
      bif r5 then (
       (qEh (34:Int) (a:Int)).bind fun r6 =>
       some r6)
      else (
       (zcs_s t g.at_).bind fun r7 =>
       (qDi t r7).bind fun r8 =>
       bif (!decide (r8=(58:Int))) then (
        (qEh (31:Int) r7).bind fun r9 =>
        some r9)
       else (
        gd (qAe (r7+(1:Int))) <|
        (zcs_s t (r7+(1:Int))).bind fun r10 =>
        (self t r10 o).bind fun r11 =>
        bif decide (r11.code=(0:Int)) then (
         gd (0≤(0:Int)∧(0:Int)<r11.l.length) <|
         gd ((Int.toNat (0:Int))<r11.l.length) <|
         gd ((Int.toNat (0:Int))<r11.l.length) <|
         some (⟨r11.at_,(r11.l.set (Int.toNat (0:Int)) (⟨(r11.l.getD (Int.toNat (0:Int)) (ET.dft .node)).kind,g.s,(r11.l.getD (Int.toNat (0:Int)) (ET.dft .node)).text,(r11.l.getD (Int.toNat (0:Int)) (ET.dft .node)).whole,(r11.l.getD (Int.toNat (0:Int)) (ET.dft .node)).int,(r11.l.getD (Int.toNat (0:Int)) (ET.dft .node)).kids⟩:Eng.Node)),g.s,r11.code,r11.bad⟩:qG0))
        else (
         some r11)))):=by
    intro self;rw [r_at,obS,deT h1,Bool.not_true,cnF,qAa (by unfold qAe; omega),show (a:Int)+1=((a+1:Nat):Int) by omega,hg,obS]
   simp only [e0];cases h:quoR t (t.size+1) (a+1) [] with
   | bad c b =>
    rw [h] at hg2;obtain ⟨e1,e2,e3⟩:=hg2;refine ⟨g,fun self _=>?_,e1,e2,e3⟩;rw [deF (by rw [e1]; exact e3),Bool.not_false,cnT]
   | ok b l =>
    rw [h] at hg2;have hg2:g=⟨(b:Int),[],qAw l,0,0⟩:=hg2;have hq:=quoR_ok h (by simp);have k1:=qBy t b;have k2:=qBh t b hq.2.1;subst hg2;dsimp only;have e1:∀(X:Option qG0) (Y:Bool→Option qG0),(bif (!decide ((0:Int)=0)) then X else (zce_s nm (qAw l)).bind Y)=Y (decide (qAw l∈nm)):=by
     intro X Y;rw [deT rfl,Bool.not_true,cnF,p_among _ _ hnl,obS]
    by_cases hm:qAw l∈nm
    ·rw [if_pos hm];refine ⟨badG 34 a,fun self _=>?_,rfl,rfl,by decide⟩;refine (e1 _ _).trans ?_;rw [deT hm,cnT];rfl
    ·rw [if_neg hm];by_cases hc:bAt t (qAt t b)=58
     ·have hl2:=qA7 (t:=t) (a:=qAt t b) (by omega);have k3:=qBy t (qAt t b+1);have k4:=qBh t (qAt t b+1) (by omega);have hVa:=hV _ k4;rw [if_pos hc];have e2:∀(self:BA→Int→Int→Option qG0),(∀a:Nat,a≤t.size→self t (a:Int) o=some (V a))→∀(A B:Option qG0) (Y:qG0→Option qG0) (D:Int→Option qG0),(bif decide (qAw l∈nm) then A else
        (zcs_s t (b:Int)).bind fun r7 =>
        (qDi t r7).bind fun r8 =>
        bif (!decide (r8=(58:Int))) then D r7
        else (
         gd (qAe (r7+(1:Int))) <|
         (zcs_s t (r7+(1:Int))).bind fun r10 =>
         (self t r10 o).bind Y))=Y (V (qAt t (qAt t b+1))):=by
       intro self hself A B Y D;rw [deF hm,cnF,r_skip t (by omega),obS,r_at,obS,deT hc,Bool.not_true,cnF,qAa (by unfold qAe; omega),show (qAt t b:Int)+1=((qAt t b+1:Nat):Int) by omega,r_skip t (by omega),obS,hself _ k4,obS]
      generalize V (qAt t (qAt t b+1))=v at *
      cases h7:val (qAt t (qAt t b+1)) with
      | bad c e =>
       rw [h7] at hVa;obtain ⟨f1,f2,f3⟩:=hVa;refine ⟨v,fun self hself=>?_,f1,f2,f3⟩;refine (e1 _ _).trans ?_;refine (e2 self hself _ none _ _).trans ?_;rw [deF (by rw [f1]; exact f3),cnF]
      | ok e x =>
       rw [h7] at hVa;obtain ⟨f1,f2,f3⟩:=hVa;have hx:=(hv _ _ _ k4 h7).2.2.1;cases x with
       | nil=>exact (hx rfl).elim
       | cons n x =>
        refine ⟨⟨(e:Int),qFl (qAw l) (n::x),qAw l,0,v.bad⟩,fun self hself=>?_,rfl,rfl,rfl,fun _=>rfl⟩;refine (e1 _ _).trans ?_;refine (e2 self hself _ none _ _).trans ?_;rw [deT f3,cnT,qAa (by rw [f2]; simp),qAa (by rw [f2]; simp),qAa (by rw [f2]; simp),f1,f2,f3];rfl
     ·rw [if_neg hc];refine ⟨badG 31 (qAt t b),fun self _=>?_,rfl,rfl,by decide⟩;refine (e1 _ _).trans ?_;rw [deF hm,cnF,r_skip t (by omega),obS,r_at,obS,deF hc,Bool.not_false,cnT];rfl
  ·rw [if_neg h1];refine ⟨badG 31 a,fun self _=>?_,rfl,rfl,by decide⟩;rw [r_at,obS,deF h1,Bool.not_false,cnT];rfl
def hdN (obj:Bool) (k:Nat):Eng.Node:=nd0 (qGe obj) ⟨#[]⟩ false 0 (k:Int)
omit hs hv hV in
theorem hd_set (obj:Bool) (k:Nat) (acc:List Eng.Node):(hdN obj k::acc).set (Int.toNat (0:Int)) (⟨((hdN obj k::acc).getD (Int.toNat (0:Int)) (ET.dft .node)).kind,((hdN obj k::acc).getD (Int.toNat (0:Int)) (ET.dft .node)).key,((hdN obj k::acc).getD (Int.toNat (0:Int)) (ET.dft .node)).text,((hdN obj k::acc).getD (Int.toNat (0:Int)) (ET.dft .node)).whole,((hdN obj k::acc).getD (Int.toNat (0:Int)) (ET.dft .node)).int,(((hdN obj k::acc).getD (Int.toNat (0:Int)) (ET.dft .node)).kids)+(1:Int)⟩:Eng.Node)=hdN obj (k+1)::acc:=by
 show (⟨_,_,_,_,_,(k:Int)+1⟩:Eng.Node)::acc=hdN obj (k+1)::acc;unfold hdN nd0;rw [show ((k+1:Nat):Int)=(k:Int)+1 by omega];rfl
theorem r_row {obj:Bool}:∀(m a k:Nat) (acc:List Eng.Node) (names nm:List BA),t.size - a<m→a≤t.size→acc.length≤a→k≤a→nm.length≤a→(obj=true→nm=names) →
  ∃g:Int × BA × Int × Int × (List Eng.Node),(∀self:BA→Int→Int→Option qG0,(∀a:Nat,a≤t.size→self t (a:Int) o=some (V a))→zcq_p1 self t (a:Int) obj o (qDy obj) (hdN obj k::acc) nm=some g)∧(match rowR t val obj m a k acc names with
   | .bad c b=>g.2.2.1=c∧g.2.2.2.1=(b:Int)∧c≠0
   | .ok b x=>g=((b:Int),⟨#[]⟩,0,0,hdN obj x.1::x.2))
 | 0,a,k,acc,names,nm,h,_,_,_,_,_=>by omega
 | m+1,a,k,acc,names,nm,h,ha,hacc,hk,hnl,hnm=>by
  obtain ⟨g,hg,hg2⟩:=r_item hs hv hV (o:=o) (obj:=obj) (names:=names) ha nm hnm (by omega);have e1:∀(self:BA→Int→Int→Option qG0) {x},qCp self t (a:Int) obj o (qDy obj) (hdN obj k::acc) nm=some (.inr x)→zcq_p1 self t (a:Int) obj o (qDy obj) (hdN obj k::acc) nm=some x:=fun self _ h=>qAh h
  have e2:∀(self:BA→Int→Int→Option qG0) {a' out' nm'},qCp self t (a:Int) obj o (qDy obj) (hdN obj k::acc) nm=some (.inl (a',out',nm'))→zcq_p1 self t (a:Int) obj o (qDy obj) (hdN obj k::acc) nm=zcq_p1 self t a' obj o (qDy obj) out' nm':=fun self _ _ _ h=>qAs h
  unfold rowR;cases hi:qE7 t val obj names a with
  | bad c b =>
   rw [hi] at hg2;obtain ⟨f1,f2,f3⟩:=hg2;refine ⟨(g.at_,g.s,g.code,g.bad,g.l),fun self hself=>e1 self ?_,f1,f2,f3⟩;unfold qCp;rw [hg self hself,obS,deF (by rw [f1]; exact f3),Bool.not_false,cnT]
  | ok b x =>
   rw [hi] at hg2;obtain ⟨f1,f2,f3,f4⟩:=hg2;dsimp only;have hadv:=itemR_adv hv ha hi;have k1:=qBy t b;have k2:=qBh t b hadv.2.1;have k3:=qGo obj;have pre:∀(self:BA→Int→Int→Option qG0),(∀a:Nat,a≤t.size→self t (a:Int) o=some (V a))→qCp self t (a:Int) obj o (qDy obj) (hdN obj k::acc) nm =
     bif decide (bAt t (qAt t b)=qDy obj) then (
      gd (qAe ((qAt t b:Int)+(1:Int))) <|
      some (.inr (((qAt t b:Int)+(1:Int)),(⟨#[]⟩:BA),(0:Int),(0:Int),hdN obj (k+1)::(acc++x.2))))
     else (
      bif decide (bAt t (qAt t b)=(44:Int)) then (
       gd (qAe ((qAt t b:Int)+(1:Int))) <|
       (zcs_s t ((qAt t b:Int)+(1:Int))).bind fun r30 =>
       some (.inl (r30,hdN obj (k+1)::(acc++x.2),(nm++[g.s]))))
      else (
       (qEh (31:Int) (qAt t b:Int)).bind fun r31 =>
       some (.inr (r31.at_,r31.s,r31.code,r31.bad,r31.l)))):=by
    intro self hself;unfold qCp;rw [hg self hself,obS,deT f3,Bool.not_true,cnF];have hx:=hadv.2.2.2;rw [qAa (by simp only [List.length_cons,List.length_nil]; omega),f2,qAa (by simp only [List.length_cons]; omega)];rw [show (hdN obj k::acc)++x.2=hdN obj k::(acc++x.2) from rfl];rw [qAa (by simp only [List.length_cons]; omega),qAa (by simp),qAa (by simp),qAa (by
     show qAe ((k:Int)+1);unfold qAe; omega),qAa (by simp only [List.length_cons]; omega),qAa (by simp),qAa (by simp),hd_set,f1,r_skip t (by omega),obS,r_at,obS]
   by_cases hla:bAt t (qAt t b)=qDy obj
   ·rw [deT hla] at pre;rw [if_pos hla];refine ⟨(((qAt t b+1:Nat):Int),⟨#[]⟩,0,0,hdN obj (k+1)::(acc++x.2)),fun self hself=>e1 self ?_,rfl⟩;rw [pre self hself,cnT,qAa (by unfold qAe; omega)];rfl
   ·rw [deF hla] at pre;rw [if_neg hla];by_cases hc:bAt t (qAt t b)=44
    ·have hl2:=qA7 (t:=t) (a:=qAt t b) (by omega);have k4:=qBy t (qAt t b+1);have k5:=qBh t (qAt t b+1) (by omega);rw [deT hc] at pre;rw [if_pos hc];have hx:=hadv.2.2.2;obtain ⟨g5,h5,h6⟩:=r_row (obj:=obj) m (qAt t (qAt t b+1)) (k+1) (acc++x.2) (names++[x.1]) (nm++[g.s]) (by omega) k5 (by rw [List.length_append]; omega) (by omega) (by rw [List.length_append,List.length_singleton]; omega) (fun ho=>by rw [hnm ho,f4 ho]);refine ⟨g5,fun self hself=>?_,h6⟩;rw [e2 self (a':=(qAt t (qAt t b+1):Int)) (out':=hdN obj (k+1)::(acc++x.2)) (nm':=nm++[g.s]) (by
      rw [pre self hself,cnF,cnT,qAa (by unfold qAe; omega),show (qAt t b:Int)+1=((qAt t b+1:Nat):Int) by omega,r_skip t (by omega),obS])]
     exact h5 self hself
    ·rw [deF hc] at pre;rw [if_neg hc];refine ⟨(0,⟨#[]⟩,31,(qAt t b:Int),[]),fun self hself=>e1 self ?_,rfl,rfl,by decide⟩;rw [pre self hself,cnF,cnF];rfl
theorem r_box {obj:Bool} {a:Nat} (ha:a<t.size):∃g,(∀self:BA→Int→Int→Option qG0,(∀a:Nat,a≤t.size→self t (a:Int) o=some (V a))→zcq_t self t (a:Int) obj o=some g)∧GotIs g (boxR t val obj a):=by
 have k1:=qBy t (a+1);have k2:=qBh t (a+1) (by omega);have k3:=qGo obj;suffices h:∃g5:Int × BA × Int × Int × (List Eng.Node),(∀self:BA→Int→Int→Option qG0,(∀a:Nat,a≤t.size→self t (a:Int) o=some (V a))→zcq_p0 self t (a:Int) obj o (qGe obj) (qDy obj)=some g5)∧GotIs ⟨g5.1,g5.2.2.2.2,g5.2.1,g5.2.2.1,g5.2.2.2.1⟩ (boxR t val obj a) by
  obtain ⟨g5,h1,h2⟩:=h;refine ⟨_,fun self hself=>?_,h2⟩;unfold zcq_t;have h1:=h1 self hself;cases obj with
  | true =>
   rw [cnT];show ((zcq_p0 self t (a:Int) true o (qGe true) (qDy true)).bind _)=_;rw [h1];rfl
  | false =>
   rw [cnF];show ((zcq_p0 self t (a:Int) false o (qGe false) (qDy false)).bind _)=_;rw [h1];rfl
 have pre:∀self:BA→Int→Int→Option qG0,zcq_p0 self t (a:Int) obj o (qGe obj) (qDy obj) =
   bif decide (bAt t (qAt t (a+1))=qDy obj) then (
    gd (qAe ((qAt t (a+1):Int)+(1:Int))) <|
    some (((qAt t (a+1):Int)+(1:Int)),(⟨#[]⟩:BA),(0:Int),(0:Int),[hdN obj 0]))
   else (
    (zcq_p1 self t (qAt t (a+1):Int) obj o (qDy obj) [hdN obj 0] []).bind fun o32 =>
    some (o32.1,o32.2.1,o32.2.2.1,o32.2.2.2.1,o32.2.2.2.2)):=by
  intro self;unfold zcq_p0;rw [qAa (by unfold qAe; omega),show (a:Int)+1=((a+1:Nat):Int) by omega,r_skip t (by omega),obS,r_at,obS];rfl
 unfold boxR;by_cases h:bAt t (qAt t (a+1))=qDy obj
 ·rw [if_pos h];refine ⟨(((qAt t (a+1)+1:Nat):Int),⟨#[]⟩,0,0,[hdN obj 0]),fun self _=>?_,rfl,rfl,rfl⟩;rw [pre,deT h,cnT,qAa (by unfold qAe; omega)];rfl
 ·rw [if_neg h];obtain ⟨g5,h5,h6⟩:=r_row hs hv hV (o:=o) (obj:=obj) (t.size+1) (qAt t (a+1)) 0 [] [] [] (by omega) k2 (by simp) (by omega) (by simp) (fun _=>rfl);refine ⟨g5,fun self hself=>?_,?_⟩
  ·rw [pre,deF h,cnF,h5 self hself];rfl
  ·cases hr:rowR t val obj (t.size+1) (qAt t (a+1)) 0 [] [] with
   | bad c b =>
    rw [hr] at h6;exact h6
   | ok b x =>
    rw [hr] at h6;have h6:g5=_:=h6;rw [h6];exact ⟨rfl,rfl,rfl⟩
end
theorem value_is (t:BA) (hs:t.size≤1000000):∀d:Nat,d≤32→∀a:Nat,∃g,a≤t.size→(∀n,d<n→zct_n n t (a:Int) (32 - (d:Int))=some g)∧GotIs g (valR t d a):=by
 intro d;induction d with
 | zero =>
  intro hd a;by_cases ha:a≤t.size
  ·unfold valR;by_cases hb:bAt t a=91∨bAt t a=123
   ·refine ⟨badG 11 a,fun _=>⟨fun n hn=>?_,?_⟩⟩
    ·obtain ⟨m,rfl⟩:∃m,n=m+1:=⟨n - 1,by omega⟩;show zct_t (zct_n m) t (a:Int) _=_;unfold zct_t;rw [r_at,obS,qA5 (p:=bAt t a=91∨bAt t a=123) (by simp),if_pos hb];rfl
    ·rw [if_pos hb];exact ⟨rfl,rfl,by decide⟩
   ·obtain ⟨g,h1,h2⟩:=r_scal t (by omega) (fun _ _ _=>none) a ha (32 - ((0:Nat):Int)) hb;refine ⟨g,fun _=>⟨fun n hn=>?_,by rw [if_neg hb]; exact h2⟩⟩;obtain ⟨m,rfl⟩:∃m,n=m+1:=⟨n - 1,by omega⟩;exact h1 _
  ·exact ⟨badG 0 0,fun h=>(ha h).elim⟩
 | succ d ih =>
  intro hd a;by_cases ha:a≤t.size
  ·unfold valR;by_cases hb:bAt t a=91∨bAt t a=123
   ·obtain ⟨V,hV⟩:=Classical.axiomOfChoice (ih (by omega));have hl:=qA7 (t:=t) (a:=a) (by omega);obtain ⟨g,h1,h2⟩:=r_box (t:=t) hs (val:=valR t d) (qEv t d) (o:=32 - (d:Int)) (V:=V) (fun a ha=>(hV a ha).2) (obj:=decide (bAt t a=123)) hl;refine ⟨g,fun _=>⟨fun n hn=>?_,by rw [if_pos hb]; exact h2⟩⟩;obtain ⟨m,rfl⟩:∃m,n=m+1:=⟨n - 1,by omega⟩;show zct_t (zct_n m) t (a:Int) _=_;unfold zct_t;rw [r_at,obS,qA5 (p:=bAt t a=91∨bAt t a=123) (by simp),if_pos hb,deF (by omega),cnF,qAa (by unfold qAe; omega),show (32:Int) - ((d+1:Nat):Int)+1=32 - (d:Int) by omega,h1 _ (fun a ha=>(hV a ha).1 m (by omega))];rfl
   ·obtain ⟨g,h1,h2⟩:=r_scal t (by omega) (fun _ _ _=>none) a ha (32 - ((d+1:Nat):Int)) hb;refine ⟨g,fun _=>⟨fun n hn=>?_,by rw [if_neg hb]; exact h2⟩⟩;obtain ⟨m,rfl⟩:∃m,n=m+1:=⟨n - 1,by omega⟩;exact h1 _
  ·exact ⟨badG 0 0,fun h=>(ha h).elim⟩
def tellR (r:Rd (List Eng.Node)):(List Eng.Node) × Int × Int:=match r with
 | .bad c b=>([],c,(b:Int))
 | .ok _ l=>(l,0,0)
noncomputable def parseR (t:BA):(List Eng.Node) × Int × Int:=if 262144<t.size then ([],10,0) else tellR (readR t)
theorem r_Parse (t:BA):zca_s t=some (parseR t):=by
 unfold zca_s parseR;by_cases h:262144<t.size
 ·rw [deT (by omega),cnT,if_pos h]
 ·rw [deF (by omega),cnF,if_neg h];have k:=qBh t 0 (by omega);obtain ⟨g,hg⟩:=value_is t (by omega) 32 (by decide) (qAt t 0);obtain ⟨h1,h2⟩:=hg k;have hval:zct_s t (qAt t 0:Int) 0=some g:=evt_eq (N:=33) fun n hn=>by
   have:=h1 n (by omega);exact this
  rw [show (0:Int)=((0:Nat):Int) from rfl,r_skip t (by omega),obS];rw [show ((0:Nat):Int)=0 from rfl,hval,obS];unfold readR;cases hr:valR t 32 (qAt t 0) with
  | bad c b =>
   rw [hr] at h2;obtain ⟨f1,f2,f3⟩:=h2;rw [deF (by rw [f1]; exact f3),Bool.not_false,cnT,f1,f2];rfl
  | ok b l =>
   rw [hr] at h2;obtain ⟨f1,f2,f3⟩:=h2;have hadv:=qEv t 32 _ _ _ k hr;rw [deT f3,Bool.not_true,cnF,f1,r_skip t (by omega),obS];dsimp only;by_cases hl:qAt t b<t.size
   ·rw [deT (by omega),cnT,if_pos hl];rfl
   ·rw [deF (by omega),cnF,if_neg hl,f2];rfl
end Go.Proofs.YtnifdcmeffnpaaaGreatDoor
