/-
  The document reads a text as the grammar says. No program.
-/
import Derived.Test.YticplgndjpljiaaDoorPLexQ
namespace Go.Proofs.YticplgndjpljiaaDoor
open Go.Eng
set_option linter.unusedVariables false
set_option linter.unusedSimpArgs false
def Adv (t:ByteArray) (val:Nat→Rd (List Eng.Node)):Prop:=∀a b l,a≤t.size→val a=.ok b l→a<b∧b≤t.size∧l≠[]∧l.length≤b - a
theorem zeroR_adv {t:ByteArray} {a b:Nat} {x:Unit} (ha:a≤t.size) (h:zeroR t a=.ok b x):a<b∧b≤t.size:=by
 unfold zeroR at h
 split at h
 ·have:=qA1 (t:=t) (a:=a) (by omega)
  cases h
  omega
 ·have:=qCy ha h
  omega
theorem dotR_adv {t:ByteArray} {a b:Nat} {x:Unit} (ha:a≤t.size) (h:dotR t a=.ok b x):a≤b∧b≤t.size:=by
 unfold dotR at h
 split at h
 ·have:=qA1 (t:=t) (a:=a) (by omega)
  have:=qCy (by omega) h
  omega
 ·cases h
  omega
theorem powR_adv {t:ByteArray} {a b:Nat} {x:Unit} (ha:a≤t.size) (h:powR t a=.ok b x):a≤b∧b≤t.size:=by
 unfold powR at h
 split at h
 ·have:=qA1 (t:=t) (a:=a) (by omega)
  split at h
  ·have:=qA1 (t:=t) (a:=a+1) (by omega)
   have:=qCy (by omega) h
   omega
  ·have:=qCy (by omega) h
   omega
 ·cases h
  omega
theorem numR_adv {t:ByteArray} {a b:Nat} {x:Unit} (ha:a<t.size) (h:numR t a=.ok b x):a<b∧b≤t.size:=by
 unfold numR at h
 have hs:a≤signS t a∧signS t a≤t.size:=by unfold signS; split <;> omega
 split at h
 ·cases h
 ·rename_i b1 x1 h1
  have:=zeroR_adv hs.2 h1
  split at h
  ·cases h
  ·rename_i b2 x2 h2
   have:=dotR_adv this.2 h2
   have:=powR_adv this.2 h
   omega
theorem scalR_adv (t:ByteArray):Adv t (qEn t):=by
 intro a b l ha h
 unfold qEn at h
 split at h
 ·have:=qA1 (t:=t) (a:=a) (by omega)
  split at h
  ·cases h
  ·rename_i h1
   have:=qFn h1 (by simp)
   cases h
   exact ⟨by omega,this.2.1,by simp,by simp; omega⟩
 ·split at h
  ·rename_i hc
   have:=qA1 (t:=t) (a:=a) (by omega)
   split at h
   ·cases h
   ·rename_i h1
    have:=numR_adv this h1
    cases h
    exact ⟨this.1,this.2,by simp,by simp; omega⟩
  ·split at h
   ·split at h
    ·cases h
    ·rename_i h1
     have:=litR_adv (by decide) h1
     cases h
     exact ⟨by rw [this.1]; simp,this.2 (by simp),by simp,by rw [this.1]; simp⟩
   ·split at h
    ·split at h
     ·cases h
     ·rename_i h1
      have:=litR_adv (by decide) h1
      cases h
      exact ⟨by rw [this.1]; simp,this.2 (by simp),by simp,by rw [this.1]; simp⟩
    ·split at h
     ·split at h
      ·cases h
      ·rename_i h1
       have:=litR_adv (by decide) h1
       cases h
       exact ⟨by rw [this.1]; simp,this.2 (by simp),by simp,by rw [this.1]; simp⟩
     ·cases h
theorem setKey_len (k:ByteArray) (l:List Eng.Node):(qCz k l).length=l.length:=by cases l <;> rfl
theorem setKey_nil {k:ByteArray} {l:List Eng.Node} (h:l≠[]):qCz k l≠[]:=by cases l <;> simp_all [qCz]
theorem itemR_adv {t:ByteArray} {val:Nat→Rd (List Eng.Node)} (hv:Adv t val) {obj:Bool} {names:List ByteArray} {a b:Nat} {x:ByteArray × List Eng.Node} (ha:a≤t.size) (h:qEx t val obj names a=.ok b x) :
  a<b∧b≤t.size∧x.2≠[]∧x.2.length≤b - a:=by
 unfold qEx at h
 split at h
 ·split at h
  ·have:=qA1 (t:=t) (a:=a) (by omega)
   split at h
   ·cases h
   ·rename_i b1 l h1
    have h2:=qFn h1 (by simp)
    split at h
    ·cases h
    ·split at h
     ·rename_i hc
      have h3:=qA1 (t:=t) (a:=qAu t b1) (by omega)
      have h4:=qBs t b1
      have h5:=qBs t (qAu t b1+1)
      have h6:=qA5 t (qAu t b1+1) (by omega)
      split at h
      ·cases h
      ·rename_i h7
       have h8:=hv _ _ _ h6 h7
       cases h
       exact ⟨by omega,h8.2.1,setKey_nil h8.2.2.1,by simp only [setKey_len]; omega⟩
     ·cases h
  ·cases h
 ·split at h
  ·cases h
  ·rename_i h7
   have h8:=hv _ _ _ ha h7
   cases h
   exact h8
theorem qGj (obj:Bool):0≤qD7 obj:=by cases obj <;> decide
theorem rowR_adv {t:ByteArray} {val:Nat→Rd (List Eng.Node)} (hv:Adv t val) {obj:Bool}:∀ {m a k:Nat} {acc:List Eng.Node} {names:List ByteArray} {b:Nat} {x:Nat × List Eng.Node},a≤t.size→rowR t val obj m a k acc names=.ok b x →
  a<b∧b≤t.size∧x.2.length≤acc.length+(b - a)∧k<x.1∧x.1 - k≤b - a
 | 0,a,k,acc,names,b,x,ha,h=>by cases h
 | m+1,a,k,acc,names,b,x,ha,h=>by
  unfold rowR at h
  split at h
  ·cases h
  ·rename_i b1 x1 h1
   have h2:=itemR_adv hv ha h1
   have h4:=qBs t b1
   have h3:=qGj obj
   split at h
   ·have h5:=qA1 (t:=t) (a:=qAu t b1) (by omega)
    cases h
    exact ⟨by omega,by omega,by simp only [List.length_append]; omega,by simp,by simp only; omega⟩
   ·split at h
    ·have h5:=qA1 (t:=t) (a:=qAu t b1) (by omega)
     have h6:=qBs t (qAu t b1+1)
     have h7:=qA5 t (qAu t b1+1) (by omega)
     have h8:=rowR_adv hv h7 h
     rw [List.length_append] at h8
     exact ⟨by omega,h8.2.1,by omega,by omega,by omega⟩
    ·cases h
theorem boxR_adv {t:ByteArray} {val:Nat→Rd (List Eng.Node)} (hv:Adv t val) {obj:Bool} {a b:Nat} {l:List Eng.Node} (ha:a<t.size) (h:boxR t val obj a=.ok b l):a<b∧b≤t.size∧l≠[]∧l.length≤b - a:=by
 unfold boxR at h
 have h1:=qBs t (a+1)
 have h2:=qA5 t (a+1) (by omega)
 have h3:=qGj obj
 split at h
 ·have h5:=qA1 (t:=t) (a:=qAu t (a+1)) (by omega)
  cases h
  exact ⟨by omega,by omega,by simp,by simp; omega⟩
 ·split at h
  ·cases h
  ·rename_i h4
   have h5:=rowR_adv hv h2 h4
   cases h
   exact ⟨by omega,h5.2.1,by simp,by
    have:=h5.2.2.1
    simp only [List.length_nil,Nat.zero_add] at this
    rw [List.length_cons]
    omega⟩
theorem qEh (t:ByteArray):∀d,Adv t (valR t d)
 | 0=>fun a b l ha h=>by
  unfold valR at h
  split at h
  ·cases h
  ·exact scalR_adv t a b l ha h
 | d+1=>fun a b l ha h=>by
  unfold valR at h
  split at h
  ·exact boxR_adv (qEh t d) (qA1 (t:=t) (a:=a) (by omega)) h
  ·exact scalR_adv t a b l ha h
def GotIs (g:qGw) (r:Rd (List Eng.Node)):Prop:=match r with
 | .bad c b=>g.code=c∧g.bad=(b:Int)∧c≠0
 | .ok b l=>g.at_=(b:Int)∧g.l=l∧g.code=0
theorem r_scal (t:ByteArray) (hs:t.size≤3000000) (self:ByteArray→Int→Int→Option qGw) (a:Nat) (ha:a≤t.size) (o:Int) (hn:¬(bAt t a=91∨bAt t a=123)):∃g,(∀self,zcm_t self t (a:Int) o=some g)∧GotIs g (qEn t a):=by
 unfold qEn
 have h0:∀self,zcm_t self t (a:Int) o=zcm_t (fun _ _ _=>none) t (a:Int) o:=by
  intro self
  have hb:(decide (bAt t a=91) || decide (bAt t a=123))=false:=by simpa using hn
  unfold zcm_t
  simp only [r_at,obS,hb,cnF]
 suffices h:∃g,zcm_t (fun _ _ _=>none) t (a:Int) o=some g∧GotIs g (qEn t a) by
  obtain ⟨g,h1,h2⟩:=h
  exact ⟨g,fun self=>(h0 self).trans h1,by unfold qEn at h2; exact h2⟩
 unfold zcm_t qEn
 rw [r_at,obS,qA7 (p:=bAt t a=91∨bAt t a=123) (by simp),if_neg hn]
 by_cases h1:bAt t a=34
 ·have hl:=qA1 (t:=t) (a:=a) (by omega)
  rw [deT h1,cnT,if_pos h1,qAb (by unfold qAe; omega),show (a:Int)+1=((a+1:Nat):Int) by omega]
  obtain ⟨g,hg,hg2⟩:=r_quo t hs (a+1) (by omega)
  rw [hg,obS]
  cases h:quoR t (t.size+1) (a+1) [] with
  | bad c b =>
   rw [h] at hg2
   obtain ⟨e1,e2,e3⟩:=hg2
   rw [deF (by rw [e1]; exact e3),cnF]
   exact ⟨_,rfl,e1,e2,e3⟩
  | ok b l =>
   rw [h] at hg2
   have hg2:g=⟨(b:Int),[],qAw l,0,0⟩:=hg2
   rw [hg2]
   exact ⟨_,rfl,rfl,rfl,rfl⟩
 ·rw [deF h1,cnF,if_neg h1,qA7 (p:=bAt t a=45∨(48≤bAt t a∧bAt t a≤57)) (by simp)]
  by_cases h2:bAt t a=45∨(48≤bAt t a∧bAt t a≤57)
  ·have hl:=qA1 (t:=t) (a:=a) (by omega)
   rw [if_pos h2,if_pos h2,r_num t hs hl]
   cases h:numR t a with
   | bad c b =>
    refine ⟨_,rfl,rfl,rfl,?_⟩
    have:c=31:=by
     unfold numR at h
     split at h
     ·rename_i h3
      cases h
      unfold zeroR at h3
      split at h3
      ·cases h3
      ·exact qDi h3
     ·split at h
      ·rename_i h3
       cases h
       unfold dotR at h3
       split at h3
       ·exact qDi h3
       ·cases h3
      ·unfold powR at h
       split at h
       ·exact qDi h
       ·cases h
    omega
   | ok b x=>exact ⟨_,rfl,rfl,rfl,rfl⟩
  ·rw [if_neg h2,if_neg h2]
   have lit:∀(w:ByteArray) (k:Int),w.size≤10→∃g,((zcg_s t (a:Int) w k).bind fun r6=>some r6)=some g∧GotIs g (match litR t (qA8 w) a with
     | .bad c b=>.bad c b
     | .ok b _=>.ok b [nd0 k ⟨#[]⟩ false 0 0]):=by
    intro w k hw
    rw [r_lit t hs w hw a (by omega) k]
    cases h:litR t (qA8 w) a with
    | bad c b =>
     have:=litR_code h
     exact ⟨_,rfl,rfl,rfl,by omega⟩
    | ok b x=>exact ⟨_,rfl,rfl,rfl,rfl⟩
   by_cases h3:bAt t a=110
   ·rw [deT h3,cnT,if_pos h3]
    exact lit ⟨#[110,117,108,108]⟩ 1 (by decide)
   ·rw [deF h3,cnF,if_neg h3]
    by_cases h4:bAt t a=102
    ·rw [deT h4,cnT,if_pos h4]
     exact lit ⟨#[102,97,108,115,101]⟩ 2 (by decide)
    ·rw [deF h4,cnF,if_neg h4]
     by_cases h5:bAt t a=116
     ·rw [deT h5,cnT,if_pos h5]
      exact lit ⟨#[116,114,117,101]⟩ 3 (by decide)
     ·rw [deF h5,cnF,if_neg h5]
      exact ⟨_,rfl,rfl,rfl,by decide⟩
section
variable {t:ByteArray} (hs:t.size≤1000000) {val:Nat→Rd (List Eng.Node)} (hv:Adv t val) {o:Int} {V:Nat→qGw} (hV:∀a,a≤t.size→GotIs (V a) (val a))
include hs hv hV
theorem r_item {obj:Bool} {names:List ByteArray} {a:Nat} (ha:a≤t.size) (nm:List ByteArray) (hnm:obj=true→nm=names) (hnl:nm.length≤2000000) :
  ∃g,(∀self:ByteArray→Int→Int→Option qGw,(∀a:Nat,a≤t.size→self t (a:Int) o=some (V a))→zcf_t self t (a:Int) obj nm o=some g)∧(match qEx t val obj names a with
   | .bad c b=>g.code=c∧g.bad=(b:Int)∧c≠0
   | .ok b x=>g.at_=(b:Int)∧g.l=x.2∧g.code=0∧(obj=true→g.s=x.1)):=by
 unfold zcf_t qEx
 cases obj with
 | false =>
  refine ⟨V a,fun self hself=>?_,?_⟩
  ·rw [Bool.not_false,cnT,hself a ha]
   rfl
  ·have:=hV a ha
   rw [if_neg (by simp)]
   cases h:val a with
   | bad c b=>rw [h] at this; exact this
   | ok b l=>rw [h] at this; exact ⟨this.1,this.2.1,this.2.2,fun h=>by cases h⟩
 | true =>
  have hnm:=hnm rfl
  subst hnm
  simp only [if_true,Bool.not_true,cnF]
  by_cases h1:bAt t a=34
  ·have hl:=qA1 (t:=t) (a:=a) (by omega)
   obtain ⟨g,hg,hg2⟩:=r_quo t (by omega) (a+1) (by omega)
   rw [if_pos h1]
   have e0:∀self:ByteArray→Int→Int→Option qGw,((qDg t (a:Int)).bind fun r2 =>
    bif (!decide (r2=(34:Int))) then (
     (qEr (31:Int) (a:Int)).bind fun r3 =>
     some r3)
    else (
     gd (qAe ((a:Int)+(1:Int))) <|
     (zci_s t ((a:Int)+(1:Int))).bind fun r4 =>
     bif (!decide (r4.code=(0:Int))) then (
      some r4)
     else (
      (zbx_s nm r4.s).bind fun r5 =>
      bif r5 then (
       (qEr (34:Int) (a:Int)).bind fun r6 =>
       some r6)
      else (
       (zcl_s t r4.at_).bind fun r7 =>
       (qDg t r7).bind fun r8 =>
       bif (!decide (r8=(58:Int))) then (
        (qEr (31:Int) r7).bind fun r9 =>
        some r9)
       else (
        gd (qAe (r7+(1:Int))) <|
        (zcl_s t (r7+(1:Int))).bind fun r10 =>
        (self t r10 o).bind fun r11 =>
        bif decide (r11.code=(0:Int)) then (
         gd (0≤(0:Int)∧(0:Int)<r11.l.length) <|
         gd ((Int.toNat (0:Int))<r11.l.length) <|
         gd ((Int.toNat (0:Int))<r11.l.length) <|
         some (⟨r11.at_,(r11.l.set (Int.toNat (0:Int)) (⟨(r11.l.getD (Int.toNat (0:Int)) (ET.dft .node)).kind,r4.s,(r11.l.getD (Int.toNat (0:Int)) (ET.dft .node)).text,(r11.l.getD (Int.toNat (0:Int)) (ET.dft .node)).whole,(r11.l.getD (Int.toNat (0:Int)) (ET.dft .node)).int,(r11.l.getD (Int.toNat (0:Int)) (ET.dft .node)).kids⟩:Eng.Node)),r4.s,r11.code,r11.bad⟩:qGw))
        else (
         some r11)))))) =
     bif (!decide (g.code=(0:Int))) then (
      some g)
     else (
      (zbx_s nm g.s).bind fun r5 =>
      bif r5 then (
       (qEr (34:Int) (a:Int)).bind fun r6 =>
       some r6)
      else (
       (zcl_s t g.at_).bind fun r7 =>
       (qDg t r7).bind fun r8 =>
       bif (!decide (r8=(58:Int))) then (
        (qEr (31:Int) r7).bind fun r9 =>
        some r9)
       else (
        gd (qAe (r7+(1:Int))) <|
        (zcl_s t (r7+(1:Int))).bind fun r10 =>
        (self t r10 o).bind fun r11 =>
        bif decide (r11.code=(0:Int)) then (
         gd (0≤(0:Int)∧(0:Int)<r11.l.length) <|
         gd ((Int.toNat (0:Int))<r11.l.length) <|
         gd ((Int.toNat (0:Int))<r11.l.length) <|
         some (⟨r11.at_,(r11.l.set (Int.toNat (0:Int)) (⟨(r11.l.getD (Int.toNat (0:Int)) (ET.dft .node)).kind,g.s,(r11.l.getD (Int.toNat (0:Int)) (ET.dft .node)).text,(r11.l.getD (Int.toNat (0:Int)) (ET.dft .node)).whole,(r11.l.getD (Int.toNat (0:Int)) (ET.dft .node)).int,(r11.l.getD (Int.toNat (0:Int)) (ET.dft .node)).kids⟩:Eng.Node)),g.s,r11.code,r11.bad⟩:qGw))
        else (
         some r11)))):=by
    intro self
    rw [r_at,obS,deT h1,Bool.not_true,cnF,qAb (by unfold qAe; omega),show (a:Int)+1=((a+1:Nat):Int) by omega,hg,obS]
   simp only [e0]
   cases h:quoR t (t.size+1) (a+1) [] with
   | bad c b =>
    rw [h] at hg2
    obtain ⟨e1,e2,e3⟩:=hg2
    refine ⟨g,fun self _=>?_,e1,e2,e3⟩
    rw [deF (by rw [e1]; exact e3),Bool.not_false,cnT]
   | ok b l =>
    rw [h] at hg2
    have hg2:g=⟨(b:Int),[],qAw l,0,0⟩:=hg2
    have hq:=qFn h (by simp)
    have k1:=qBs t b
    have k2:=qA5 t b hq.2.1
    subst hg2
    dsimp only
    have e1:∀(X:Option qGw) (Y:Bool→Option qGw),(bif (!decide ((0:Int)=0)) then X else (zbx_s nm (qAw l)).bind Y)=Y (decide (qAw l∈nm)):=by
     intro X Y
     rw [deT rfl,Bool.not_true,cnF,p_among _ _ hnl,obS]
    by_cases hm:qAw l∈nm
    ·rw [if_pos hm]
     refine ⟨badG 34 a,fun self _=>?_,rfl,rfl,by decide⟩
     refine (e1 _ _).trans ?_
     rw [deT hm,cnT]
     rfl
    ·rw [if_neg hm]
     by_cases hc:bAt t (qAu t b)=58
     ·have hl2:=qA1 (t:=t) (a:=qAu t b) (by omega)
      have k3:=qBs t (qAu t b+1)
      have k4:=qA5 t (qAu t b+1) (by omega)
      have hVa:=hV _ k4
      rw [if_pos hc]
      have e2:∀(self:ByteArray→Int→Int→Option qGw),(∀a:Nat,a≤t.size→self t (a:Int) o=some (V a))→∀(A B:Option qGw) (Y:qGw→Option qGw) (D:Int→Option qGw),(bif decide (qAw l∈nm) then A else
        (zcl_s t (b:Int)).bind fun r7 =>
        (qDg t r7).bind fun r8 =>
        bif (!decide (r8=(58:Int))) then D r7
        else (
         gd (qAe (r7+(1:Int))) <|
         (zcl_s t (r7+(1:Int))).bind fun r10 =>
         (self t r10 o).bind Y))=Y (V (qAu t (qAu t b+1))):=by
       intro self hself A B Y D
       rw [deF hm,cnF,r_skip t (by omega),obS,r_at,obS,deT hc,Bool.not_true,cnF,qAb (by unfold qAe; omega),show (qAu t b:Int)+1=((qAu t b+1:Nat):Int) by omega,r_skip t (by omega),obS,hself _ k4,obS]
      generalize V (qAu t (qAu t b+1))=v at *
      cases h7:val (qAu t (qAu t b+1)) with
      | bad c e =>
       rw [h7] at hVa
       obtain ⟨f1,f2,f3⟩:=hVa
       refine ⟨v,fun self hself=>?_,f1,f2,f3⟩
       refine (e1 _ _).trans ?_
       refine (e2 self hself _ none _ _).trans ?_
       rw [deF (by rw [f1]; exact f3),cnF]
      | ok e x =>
       rw [h7] at hVa
       obtain ⟨f1,f2,f3⟩:=hVa
       have hx:=(hv _ _ _ k4 h7).2.2.1
       cases x with
       | nil=>exact (hx rfl).elim
       | cons n x =>
        refine ⟨⟨(e:Int),qCz (qAw l) (n::x),qAw l,0,v.bad⟩,fun self hself=>?_,rfl,rfl,rfl,fun _=>rfl⟩
        refine (e1 _ _).trans ?_
        refine (e2 self hself _ none _ _).trans ?_
        rw [deT f3,cnT,qAb (by rw [f2]; simp),qAb (by rw [f2]; simp),qAb (by rw [f2]; simp),f1,f2,f3]
        rfl
     ·rw [if_neg hc]
      refine ⟨badG 31 (qAu t b),fun self _=>?_,rfl,rfl,by decide⟩
      refine (e1 _ _).trans ?_
      rw [deF hm,cnF,r_skip t (by omega),obS,r_at,obS,deF hc,Bool.not_false,cnT]
      rfl
  ·rw [if_neg h1]
   refine ⟨badG 31 a,fun self _=>?_,rfl,rfl,by decide⟩
   rw [r_at,obS,deF h1,Bool.not_false,cnT]
   rfl
def hdN (obj:Bool) (k:Nat):Eng.Node:=nd0 (qDv obj) ⟨#[]⟩ false 0 (k:Int)
omit hs hv hV in
theorem hd_set (obj:Bool) (k:Nat) (acc:List Eng.Node):(hdN obj k::acc).set (Int.toNat (0:Int)) (⟨((hdN obj k::acc).getD (Int.toNat (0:Int)) (ET.dft .node)).kind,((hdN obj k::acc).getD (Int.toNat (0:Int)) (ET.dft .node)).key,((hdN obj k::acc).getD (Int.toNat (0:Int)) (ET.dft .node)).text,((hdN obj k::acc).getD (Int.toNat (0:Int)) (ET.dft .node)).whole,((hdN obj k::acc).getD (Int.toNat (0:Int)) (ET.dft .node)).int,(((hdN obj k::acc).getD (Int.toNat (0:Int)) (ET.dft .node)).kids)+(1:Int)⟩:Eng.Node)=hdN obj (k+1)::acc:=by
 show (⟨_,_,_,_,_,(k:Int)+1⟩:Eng.Node)::acc=hdN obj (k+1)::acc
 unfold hdN nd0
 rw [show ((k+1:Nat):Int)=(k:Int)+1 by omega]
 rfl
theorem r_row {obj:Bool}:∀(m a k:Nat) (acc:List Eng.Node) (names nm:List ByteArray),t.size - a<m→a≤t.size→acc.length≤a→k≤a→nm.length≤a→(obj=true→nm=names) →
  ∃g:Int × ByteArray × Int × Int × (List Eng.Node),(∀self:ByteArray→Int→Int→Option qGw,(∀a:Nat,a≤t.size→self t (a:Int) o=some (V a))→zcj_p1 self t (a:Int) obj o (qD7 obj) (hdN obj k::acc) nm=some g)∧(match rowR t val obj m a k acc names with
   | .bad c b=>g.2.2.1=c∧g.2.2.2.1=(b:Int)∧c≠0
   | .ok b x=>g=((b:Int),⟨#[]⟩,0,0,hdN obj x.1::x.2))
 | 0,a,k,acc,names,nm,h,_,_,_,_,_=>by omega
 | m+1,a,k,acc,names,nm,h,ha,hacc,hk,hnl,hnm=>by
  obtain ⟨g,hg,hg2⟩:=r_item hs hv hV (o:=o) (obj:=obj) (names:=names) ha nm hnm (by omega)
  have e1:∀(self:ByteArray→Int→Int→Option qGw) {x},qCt self t (a:Int) obj o (qD7 obj) (hdN obj k::acc) nm=some (.inr x)→zcj_p1 self t (a:Int) obj o (qD7 obj) (hdN obj k::acc) nm=some x:=fun self _ h=>qAj h
  have e2:∀(self:ByteArray→Int→Int→Option qGw) {a' out' nm'},qCt self t (a:Int) obj o (qD7 obj) (hdN obj k::acc) nm=some (.inl (a',out',nm'))→zcj_p1 self t (a:Int) obj o (qD7 obj) (hdN obj k::acc) nm=zcj_p1 self t a' obj o (qD7 obj) out' nm':=fun self _ _ _ h=>qAv h
  unfold rowR
  cases hi:qEx t val obj names a with
  | bad c b =>
   rw [hi] at hg2
   obtain ⟨f1,f2,f3⟩:=hg2
   refine ⟨(g.at_,g.s,g.code,g.bad,g.l),fun self hself=>e1 self ?_,f1,f2,f3⟩
   unfold qCt
   rw [hg self hself,obS,deF (by rw [f1]; exact f3),Bool.not_false,cnT]
  | ok b x =>
   rw [hi] at hg2
   obtain ⟨f1,f2,f3,f4⟩:=hg2
   dsimp only
   have hadv:=itemR_adv hv ha hi
   have k1:=qBs t b
   have k2:=qA5 t b hadv.2.1
   have k3:=qGj obj
   have pre:∀(self:ByteArray→Int→Int→Option qGw),(∀a:Nat,a≤t.size→self t (a:Int) o=some (V a))→qCt self t (a:Int) obj o (qD7 obj) (hdN obj k::acc) nm =
     bif decide (bAt t (qAu t b)=qD7 obj) then (
      gd (qAe ((qAu t b:Int)+(1:Int))) <|
      some (.inr (((qAu t b:Int)+(1:Int)),(⟨#[]⟩:ByteArray),(0:Int),(0:Int),hdN obj (k+1)::(acc++x.2))))
     else (
      bif decide (bAt t (qAu t b)=(44:Int)) then (
       gd (qAe ((qAu t b:Int)+(1:Int))) <|
       (zcl_s t ((qAu t b:Int)+(1:Int))).bind fun r30 =>
       some (.inl (r30,hdN obj (k+1)::(acc++x.2),(nm++[g.s]))))
      else (
       (qEr (31:Int) (qAu t b:Int)).bind fun r31 =>
       some (.inr (r31.at_,r31.s,r31.code,r31.bad,r31.l)))):=by
    intro self hself
    unfold qCt
    rw [hg self hself,obS,deT f3,Bool.not_true,cnF]
    have hx:=hadv.2.2.2
    rw [qAb (by simp only [List.length_cons,List.length_nil]; omega),f2,qAb (by simp only [List.length_cons]; omega)]
    rw [show (hdN obj k::acc)++x.2=hdN obj k::(acc++x.2) from rfl]
    rw [qAb (by simp only [List.length_cons]; omega),qAb (by simp),qAb (by simp),qAb (by
     show qAe ((k:Int)+1)
     unfold qAe; omega),qAb (by simp only [List.length_cons]; omega),qAb (by simp),qAb (by simp),hd_set,f1,r_skip t (by omega),obS,r_at,obS]
   by_cases hla:bAt t (qAu t b)=qD7 obj
   ·rw [deT hla] at pre
    rw [if_pos hla]
    refine ⟨(((qAu t b+1:Nat):Int),⟨#[]⟩,0,0,hdN obj (k+1)::(acc++x.2)),fun self hself=>e1 self ?_,rfl⟩
    rw [pre self hself,cnT,qAb (by unfold qAe; omega)]
    rfl
   ·rw [deF hla] at pre
    rw [if_neg hla]
    by_cases hc:bAt t (qAu t b)=44
    ·have hl2:=qA1 (t:=t) (a:=qAu t b) (by omega)
     have k4:=qBs t (qAu t b+1)
     have k5:=qA5 t (qAu t b+1) (by omega)
     rw [deT hc] at pre
     rw [if_pos hc]
     have hx:=hadv.2.2.2
     obtain ⟨g5,h5,h6⟩:=r_row (obj:=obj) m (qAu t (qAu t b+1)) (k+1) (acc++x.2) (names++[x.1]) (nm++[g.s]) (by omega) k5 (by rw [List.length_append]; omega) (by omega) (by rw [List.length_append,List.length_singleton]; omega) (fun ho=>by rw [hnm ho,f4 ho])
     refine ⟨g5,fun self hself=>?_,h6⟩
     rw [e2 self (a':=(qAu t (qAu t b+1):Int)) (out':=hdN obj (k+1)::(acc++x.2)) (nm':=nm++[g.s]) (by
      rw [pre self hself,cnF,cnT,qAb (by unfold qAe; omega),show (qAu t b:Int)+1=((qAu t b+1:Nat):Int) by omega,r_skip t (by omega),obS])]
     exact h5 self hself
    ·rw [deF hc] at pre
     rw [if_neg hc]
     refine ⟨(0,⟨#[]⟩,31,(qAu t b:Int),[]),fun self hself=>e1 self ?_,rfl,rfl,by decide⟩
     rw [pre self hself,cnF,cnF]
     rfl
theorem r_box {obj:Bool} {a:Nat} (ha:a<t.size):∃g,(∀self:ByteArray→Int→Int→Option qGw,(∀a:Nat,a≤t.size→self t (a:Int) o=some (V a))→zcj_t self t (a:Int) obj o=some g)∧GotIs g (boxR t val obj a):=by
 have k1:=qBs t (a+1)
 have k2:=qA5 t (a+1) (by omega)
 have k3:=qGj obj
 suffices h:∃g5:Int × ByteArray × Int × Int × (List Eng.Node),(∀self:ByteArray→Int→Int→Option qGw,(∀a:Nat,a≤t.size→self t (a:Int) o=some (V a))→zcj_p0 self t (a:Int) obj o (qDv obj) (qD7 obj)=some g5)∧GotIs ⟨g5.1,g5.2.2.2.2,g5.2.1,g5.2.2.1,g5.2.2.2.1⟩ (boxR t val obj a) by
  obtain ⟨g5,h1,h2⟩:=h
  refine ⟨_,fun self hself=>?_,h2⟩
  unfold zcj_t
  have h1:=h1 self hself
  cases obj with
  | true =>
   rw [cnT]
   show ((zcj_p0 self t (a:Int) true o (qDv true) (qD7 true)).bind _)=_
   rw [h1]
   rfl
  | false =>
   rw [cnF]
   show ((zcj_p0 self t (a:Int) false o (qDv false) (qD7 false)).bind _)=_
   rw [h1]
   rfl
 have pre:∀self:ByteArray→Int→Int→Option qGw,zcj_p0 self t (a:Int) obj o (qDv obj) (qD7 obj) =
   bif decide (bAt t (qAu t (a+1))=qD7 obj) then (
    gd (qAe ((qAu t (a+1):Int)+(1:Int))) <|
    some (((qAu t (a+1):Int)+(1:Int)),(⟨#[]⟩:ByteArray),(0:Int),(0:Int),[hdN obj 0]))
   else (
    (zcj_p1 self t (qAu t (a+1):Int) obj o (qD7 obj) [hdN obj 0] []).bind fun o32 =>
    some (o32.1,o32.2.1,o32.2.2.1,o32.2.2.2.1,o32.2.2.2.2)):=by
  intro self
  unfold zcj_p0
  rw [qAb (by unfold qAe; omega),show (a:Int)+1=((a+1:Nat):Int) by omega,r_skip t (by omega),obS,r_at,obS]
  rfl
 unfold boxR
 by_cases h:bAt t (qAu t (a+1))=qD7 obj
 ·rw [if_pos h]
  refine ⟨(((qAu t (a+1)+1:Nat):Int),⟨#[]⟩,0,0,[hdN obj 0]),fun self _=>?_,rfl,rfl,rfl⟩
  rw [pre,deT h,cnT,qAb (by unfold qAe; omega)]
  rfl
 ·rw [if_neg h]
  obtain ⟨g5,h5,h6⟩:=r_row hs hv hV (o:=o) (obj:=obj) (t.size+1) (qAu t (a+1)) 0 [] [] [] (by omega) k2 (by simp) (by omega) (by simp) (fun _=>rfl)
  refine ⟨g5,fun self hself=>?_,?_⟩
  ·rw [pre,deF h,cnF,h5 self hself]
   rfl
  ·cases hr:rowR t val obj (t.size+1) (qAu t (a+1)) 0 [] [] with
   | bad c b =>
    rw [hr] at h6
    exact h6
   | ok b x =>
    rw [hr] at h6
    have h6:g5=_:=h6
    rw [h6]
    exact ⟨rfl,rfl,rfl⟩
end
theorem value_is (t:ByteArray) (hs:t.size≤1000000):∀d:Nat,d≤32→∀a:Nat,∃g,a≤t.size→(∀n,d<n→zcm_n n t (a:Int) (32 - (d:Int))=some g)∧GotIs g (valR t d a):=by
 intro d
 induction d with
 | zero =>
  intro hd a
  by_cases ha:a≤t.size
  ·unfold valR
   by_cases hb:bAt t a=91∨bAt t a=123
   ·refine ⟨badG 11 a,fun _=>⟨fun n hn=>?_,?_⟩⟩
    ·obtain ⟨m,rfl⟩:∃m,n=m+1:=⟨n - 1,by omega⟩
     show zcm_t (zcm_n m) t (a:Int) _=_
     unfold zcm_t
     rw [r_at,obS,qA7 (p:=bAt t a=91∨bAt t a=123) (by simp),if_pos hb]
     rfl
    ·rw [if_pos hb]
     exact ⟨rfl,rfl,by decide⟩
   ·obtain ⟨g,h1,h2⟩:=r_scal t (by omega) (fun _ _ _=>none) a ha (32 - ((0:Nat):Int)) hb
    refine ⟨g,fun _=>⟨fun n hn=>?_,by rw [if_neg hb]; exact h2⟩⟩
    obtain ⟨m,rfl⟩:∃m,n=m+1:=⟨n - 1,by omega⟩
    exact h1 _
  ·exact ⟨badG 0 0,fun h=>(ha h).elim⟩
 | succ d ih =>
  intro hd a
  by_cases ha:a≤t.size
  ·unfold valR
   by_cases hb:bAt t a=91∨bAt t a=123
   ·obtain ⟨V,hV⟩:=Classical.axiomOfChoice (ih (by omega))
    have hl:=qA1 (t:=t) (a:=a) (by omega)
    obtain ⟨g,h1,h2⟩:=r_box (t:=t) hs (val:=valR t d) (qEh t d) (o:=32 - (d:Int)) (V:=V) (fun a ha=>(hV a ha).2) (obj:=decide (bAt t a=123)) hl
    refine ⟨g,fun _=>⟨fun n hn=>?_,by rw [if_pos hb]; exact h2⟩⟩
    obtain ⟨m,rfl⟩:∃m,n=m+1:=⟨n - 1,by omega⟩
    show zcm_t (zcm_n m) t (a:Int) _=_
    unfold zcm_t
    rw [r_at,obS,qA7 (p:=bAt t a=91∨bAt t a=123) (by simp),if_pos hb,deF (by omega),cnF,qAb (by unfold qAe; omega),show (32:Int) - ((d+1:Nat):Int)+1=32 - (d:Int) by omega,h1 _ (fun a ha=>(hV a ha).1 m (by omega))]
    rfl
   ·obtain ⟨g,h1,h2⟩:=r_scal t (by omega) (fun _ _ _=>none) a ha (32 - ((d+1:Nat):Int)) hb
    refine ⟨g,fun _=>⟨fun n hn=>?_,by rw [if_neg hb]; exact h2⟩⟩
    obtain ⟨m,rfl⟩:∃m,n=m+1:=⟨n - 1,by omega⟩
    exact h1 _
  ·exact ⟨badG 0 0,fun h=>(ha h).elim⟩
def tellR (r:Rd (List Eng.Node)):(List Eng.Node) × Int × Int:=match r with
 | .bad c b=>([],c,(b:Int))
 | .ok _ l=>(l,0,0)
noncomputable def parseR (t:ByteArray):(List Eng.Node) × Int × Int:=if 262144<t.size then ([],10,0) else tellR (readR t)
theorem r_Parse (t:ByteArray):zbv_s t=some (parseR t):=by
 unfold zbv_s parseR
 by_cases h:262144<t.size
 ·rw [deT (by omega),cnT,if_pos h]
 ·rw [deF (by omega),cnF,if_neg h]
  have k:=qA5 t 0 (by omega)
  obtain ⟨g,hg⟩:=value_is t (by omega) 32 (by decide) (qAu t 0)
  obtain ⟨h1,h2⟩:=hg k
  have hval:zcm_s t (qAu t 0:Int) 0=some g:=evt_eq (N:=33) fun n hn=>by
   have:=h1 n (by omega)
   exact this
  rw [show (0:Int)=((0:Nat):Int) from rfl,r_skip t (by omega),obS]
  rw [show ((0:Nat):Int)=0 from rfl,hval,obS]
  unfold readR
  cases hr:valR t 32 (qAu t 0) with
  | bad c b =>
   rw [hr] at h2
   obtain ⟨f1,f2,f3⟩:=h2
   rw [deF (by rw [f1]; exact f3),Bool.not_false,cnT,f1,f2]
   rfl
  | ok b l =>
   rw [hr] at h2
   obtain ⟨f1,f2,f3⟩:=h2
   have hadv:=qEh t 32 _ _ _ k hr
   rw [deT f3,Bool.not_true,cnF,f1,r_skip t (by omega),obS]
   dsimp only
   by_cases hl:qAu t b<t.size
   ·rw [deT (by omega),cnT,if_pos hl]
    rfl
   ·rw [deF (by omega),cnF,if_neg hl,f2]
    rfl
end Go.Proofs.YticplgndjpljiaaDoor
