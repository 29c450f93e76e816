/-
  Texts of a claim.
-/
import Derived.Test.YtpobbbpphnnnhaaGreatDoorPTok
import Derived.Test.YtpobbbpphnnnhaaGreatDoorEngO
namespace Go.Proofs.YtpobbbpphnnnhaaGreatDoor
open Go.Eng
set_option linter.unusedVariables false
set_option linter.unusedSimpArgs false
def rnN (p:Int→Bool) (t:BA):Nat→Nat→Nat
 | 0,a=>a
 | n+1,a=>if p (bAt t (a:Int))=true then rnN p t n (a+1) else a
@[irreducible] def rnS (p:Int→Bool) (t:BA) (a:Nat):Nat:=rnN p t (t.size - a) a
section
variable {p:Int→Bool} (hp:p (-1)=false) {t:BA}
include hp
theorem qDc {a:Nat} (h:p (bAt t a)=true):a<t.size:=by
 rcases Nat.lt_or_ge a t.size with h1 | h1
 ·exact h1
 ·rw [qBm (by omega),hp] at h;cases h
theorem qGx {a:Nat} (h:p (bAt t a)=true):rnS p t a=rnS p t (a+1):=by
 have:=qDc hp h;unfold rnS;rw [show t.size - a=(t.size - (a+1))+1 by omega];show (if p (bAt t (a:Int))=true then _ else _)=_;rw [if_pos h]
omit hp in
theorem qGn {a:Nat} (h:p (bAt t a)=false):rnS p t a=a:=by
 unfold rnS;cases t.size - a with
 | zero=>rfl
 | succ n =>
  show (if p (bAt t (a:Int))=true then _ else _)=_;rw [if_neg (by rw [h]; decide)]
theorem qFs (a:Nat):a≤rnS p t a:=by
 by_cases h:p (bAt t a)=true
 ·rw [qGx hp h];have:=qFs (a+1);omega
 ·rw [qGn (by simpa using h)];exact Nat.le_refl _
termination_by t.size - a
decreasing_by have:=qDc hp h; omega
theorem qDx (a:Nat) (ha:a≤t.size):rnS p t a≤t.size:=by
 by_cases h:p (bAt t a)=true
 ·rw [qGx hp h];exact qDx (a+1) (by have:=qDc hp h; omega)
 ·rw [qGn (by simpa using h)];exact ha
termination_by t.size - a
decreasing_by have:=qDc hp h; omega
theorem qFt {step:Int→Option (Int ⊕ Int)} (hst:∀a:Nat,step (a:Int)=some (if p (bAt t a)=true then .inl ((a+1:Nat):Int) else .inr (a:Int))) (a:Nat):qAw step (a:Int)=some (rnS p t a:Int):=by
 by_cases h:p (bAt t a)=true
 ·rw [qAr (by rw [hst,if_pos h]),qGx hp h];exact qFt hst (a+1)
 ·rw [qAi (by rw [hst,if_neg h]),qGn (by simpa using h)]
termination_by t.size - a
decreasing_by have:=qDc hp h; omega
end
def isLet (c:Int):Bool:=(decide (97≤c) && decide (c≤122)) || (decide (65≤c) && decide (c≤90)) || decide (c=95)
def qBu (c:Int):Bool:=decide (48≤c) && decide (c≤57)
def qE1 (c:Int):Bool:=isLet c || qBu c
def qDj (c:Int):Bool:=qBu c || decide (c=43) || decide (c=45) || decide (c=46) || decide (c=101) || decide (c=69)
theorem qBj:qBu (-1)=false:=rfl
theorem qBf:qE1 (-1)=false:=rfl
theorem qCn:qDj (-1)=false:=rfl
def qA5 (t:BA) (a:Nat):BA:=t.extract a (rnS qE1 t a)
def bNot:BA:=⟨#[110,111,116]⟩
def bHas:BA:=⟨#[104,97,115]⟩
def bAnd:BA:=⟨#[97,110,100]⟩
def bOr:BA:=⟨#[111,114]⟩
def bCont:BA:=⟨#[99,111,110,116,97,105,110,115]⟩
def bTrue:BA:=⟨#[116,114,117,101]⟩
def bFalse:BA:=⟨#[102,97,108,115,101]⟩
def bNull:BA:=⟨#[110,117,108,108]⟩
def kwB (s:BA):Bool:=decide (s=bAnd) || decide (s=bOr) || decide (s=bNot) || decide (s=bHas) || decide (s=bCont) || decide (s=bTrue) || decide (s=bFalse) || decide (s=bNull)
def namedS (s:BA):Bool:=decide (0<s.size) && isLet (bAt s 0) && !kwB s && decide (rnS qE1 s 0=s.size)
def placedS (s:BA):Bool:=decide (0<s.size) && !(decide (1<s.size) && decide (bAt s 0=48)) && decide (rnS qBu s 0=s.size)
def qEndN (t:BA):Nat→Nat→Option Nat
 | 0,_=>none
 | n+1,a=>if t.size≤a then none else if bAt t (a:Int)=34 then some a else if bAt t (a:Int)=92 then qEndN t n (a+2) else qEndN t n (a+1)
@[irreducible] def qEnd (t:BA) (a:Nat):Option Nat:=qEndN t (t.size+1 - a) a
theorem qEndN_more {t:BA}:∀ {n m a:Nat},t.size+1 - a≤n→t.size+1 - a≤m→qEndN t n a=qEndN t m a
 | 0,0,a,_,_=>rfl
 | 0,m+1,a,h,_=>by
  unfold qEndN;rw [if_pos (by omega)]
 | n+1,0,a,_,h=>by
  unfold qEndN;rw [if_pos (by omega)]
 | n+1,m+1,a,h1,h2=>by
  unfold qEndN;by_cases h:t.size≤a
  ·rw [if_pos h,if_pos h]
  ·rw [if_neg h,if_neg h,qEndN_more (n:=n) (m:=m) (a:=a+2) (by omega) (by omega),qEndN_more (n:=n) (m:=m) (a:=a+1) (by omega) (by omega)]
theorem qEnd_eq (t:BA) (a:Nat):qEnd t a=if t.size≤a then none else if bAt t (a:Int)=34 then some a else if bAt t (a:Int)=92 then qEnd t (a+2) else qEnd t (a+1):=by
 by_cases h:t.size≤a
 ·rw [if_pos h];unfold qEnd;rcases Nat.eq_zero_or_pos (t.size+1 - a) with h0 | h0
  ·rw [h0]; rfl
  ·rw [show t.size+1 - a=(t.size - a)+1 by omega];unfold qEndN;rw [if_pos h]
 ·unfold qEnd;rw [show t.size+1 - a=(t.size - a)+1 by omega];show (if t.size≤a then none else if bAt t (a:Int)=34 then some a else if bAt t (a:Int)=92 then qEndN t (t.size - a) (a+2) else qEndN t (t.size - a) (a+1))=_;rw [qEndN_more (n:=t.size - a) (m:=t.size+1 - (a+2)) (a:=a+2) (by omega) (by omega),qEndN_more (n:=t.size - a) (m:=t.size+1 - (a+1)) (a:=a+1) (by omega) (by omega)]
theorem qEnd_in (t:BA) (a:Nat) {e:Nat} (h:qEnd t a=some e):a≤e∧e<t.size∧bAt t (e:Int)=34:=by
 rw [qEnd_eq] at h;by_cases h1:t.size≤a
 ·rw [if_pos h1] at h; cases h
 ·rw [if_neg h1] at h;by_cases h2:bAt t (a:Int)=34
  ·rw [if_pos h2] at h;cases h;exact ⟨Nat.le_refl _,by omega,h2⟩
  ·rw [if_neg h2] at h;split at h
   ·have:=qEnd_in t (a+2) h;exact ⟨by omega,this.2⟩
   ·have:=qEnd_in t (a+1) h;exact ⟨by omega,this.2⟩
termination_by t.size - a
noncomputable def strS (t:BA) (a:Nat):Rd BA :=
 match qEnd t (a+1) with
 | none=>.bad 180 a
 | some e=>if (tokR (t.extract a (e+1))).2.1=0 then .ok (e+1) ((tokR (t.extract a (e+1))).1.getD 0 (ET.dft .node)).text else .bad 180 a
def digB (t:BA) (a:Nat):BA:=t.extract a (rnS qBu t a)
noncomputable def qE4 (t:BA) (first:Bool) (a:Nat):Rd BA :=
 let i:=qAq t a
 if t.size≤i then .bad 180 i
 else if bAt t (i:Int)=34 then strS t i
 else if qBu (bAt t (i:Int))=true then (if first=true∨placedS (digB t i)=false then .bad 180 i else .ok (rnS qBu t i) (digB t i))
 else if namedS (qA5 t i)=true then .ok (rnS qE1 t i) (qA5 t i) else .bad 180 i
noncomputable def pathN (t:BA):Nat→Nat→List BA→Rd (List BA)
 | 0,a,l=>.bad 0 0
 | n+1,a,l=>if bAt t (qAq t a:Int)=46 then (match qE4 t false (qAq t a+1) with
  | .bad c b=>.bad c b
  | .ok b w=>pathN t n b (l++[w])) else .ok (qAq t a) l
noncomputable def qFb (t:BA) (a:Nat):Rd (List BA) :=
 match qE4 t true a with
 | .bad c b=>.bad c b
 | .ok b w=>pathN t (t.size+1 - b) b [w]
def opS (t:BA) (i:Nat):Option (Int × Nat) :=
 if t.size≤i then none
 else if qA5 t i=bCont then some (11,8)
 else if bAt t (i:Int)=33∧bAt t (i+1:Nat)=61 then some (6,2)
 else if bAt t (i:Int)=60∧bAt t (i+1:Nat)=61 then some (8,2)
 else if bAt t (i:Int)=62∧bAt t (i+1:Nat)=61 then some (10,2)
 else if bAt t (i:Int)=61 then some (5,1)
 else if bAt t (i:Int)=60 then some (7,1)
 else if bAt t (i:Int)=62 then some (9,1)
 else none
noncomputable def valS (t:BA) (only:Bool) (a:Nat):Rd (Int × BA) :=
 let i:=qAq t a
 if t.size≤i then .bad 180 i
 else if bAt t (i:Int)=34 then (match strS t i with
  | .bad c b=>.bad c b
  | .ok b s=>.ok b (5,s))
 else if only=true then .bad 180 i
 else if qBu (bAt t (i:Int))=true∨bAt t (i:Int)=45 then (if qB1 (t.extract i (rnS qDj t i))=true then .ok (rnS qDj t i) (4,t.extract i (rnS qDj t i)) else .bad 180 i)
 else if qA5 t i=bTrue then .ok (i+4) (3,⟨#[]⟩)
 else if qA5 t i=bFalse then .ok (i+5) (2,⟨#[]⟩)
 else if qA5 t i=bNull then .ok (i+4) (1,⟨#[]⟩)
 else .bad 180 i
abbrev RNl:Type:=List (Int × Int × Int × (List BA) × Int × BA × Unit)
noncomputable def testS (t:BA) (a:Nat) (out:RNl):Rd (RNl × Int) :=
 match qFb t a with
 | .bad c b=>.bad c b
 | .ok i l=>match opS t i with
  | none=>.bad 180 i
  | some (op,n)=>match valS t (decide (op=11)) (i+n) with
   | .bad c b=>.bad c b
   | .ok b (k,s)=>.ok b (out++[(op,-1,-1,l,k,s,())],(out.length:Int))
abbrev RuT:Type:=Nat→Nat→Nat→RNl→Int→Rd (RNl × Int)
noncomputable def atomF (t:BA) (g:RuT) (a o:Nat) (out:RNl):Rd (RNl × Int) :=
 if t.size≤qAq t a then .bad 180 (qAq t a)
 else if qA5 t (qAq t a)=bNot then (if o=32 then .bad 11 (qAq t a) else match g 0 (qAq t a+3) (o+1) out 0 with
  | .bad c b=>.bad c b
  | .ok b x=>.ok b (x.1++[(3,x.2,-1,[],0,⟨#[]⟩,())],(x.1.length:Int)))
 else if qA5 t (qAq t a)=bHas then (match qFb t (qAq t a+3) with
  | .bad c b=>.bad c b
  | .ok b l=>.ok b (out++[(4,-1,-1,l,0,⟨#[]⟩,())],(out.length:Int)))
 else if bAt t (qAq t a:Int)=40 then (if o=32 then .bad 11 (qAq t a) else match g 3 (qAq t a+1) (o+1) out 0 with
  | .bad c b=>.bad c b
  | .ok b x=>if bAt t (qAq t b:Int)=41 then .ok (qAq t b+1) x else .bad 180 (qAq t b))
 else testS t a out
def thenF (g:RuT) (m m' a o:Nat) (out:RNl):Rd (RNl × Int) :=
 match g m a o out 0 with
 | .bad c b=>.bad c b
 | .ok b x=>g m' b o x.1 x.2
def moreF (t:BA) (g:RuT) (w:BA) (op:Int) (m m' a o:Nat) (out:RNl) (acc:Int):Rd (RNl × Int) :=
 if qA5 t (qAq t a)=w then (match g m (qAq t a+w.size) o out 0 with
  | .bad c b=>.bad c b
  | .ok b x=>g m' b o (x.1++[(op,acc,x.2,[],0,⟨#[]⟩,())]) (x.1.length:Int)) else .ok (qAq t a) (out,acc)
noncomputable def ruS (t:BA):Nat→RuT
 | 0,_,_,_,_,_=>.bad 0 0
 | n+1,m,a,o,out,acc=>match m with
  | 0=>atomF t (ruS t n) a o out
  | 1=>thenF (ruS t n) 0 2 a o out
  | 2=>moreF t (ruS t n) bAnd 1 0 2 a o out acc
  | 3=>thenF (ruS t n) 1 4 a o out
  | _=>moreF t (ruS t n) bOr 2 1 4 a o out acc
noncomputable def ruleR (t:BA):RNl × Int × Int :=
 if 1024<t.size then ([],10,0) else match ruS t (5*t.size+9) 3 0 0 [] 0 with
 | .bad c b=>([],c,b)
 | .ok b x=>if qAq t b<t.size then ([],180,qAq t b) else (x.1,0,0)
theorem skip_idem (t:BA) (a:Nat):qAq t (qAq t a)=qAq t a:=qFc (skipS_at t a)
theorem qBa {t:BA} {a b:Nat} (hb:b≤t.size):(t.extract a b).size=b - a:=by
 rw [ByteArray.size_extract,Nat.min_eq_left hb]
theorem qHj (t:BA) (a:Nat) (ha:a≤t.size):(qA5 t a).size=rnS qE1 t a - a:=qBa (qDx qBf a ha)
theorem word_len {t:BA} {a:Nat} {s:BA} (ha:a≤t.size) (h:qA5 t a=s):rnS qE1 t a=a+s.size:=by
 have h1:=qHj t a ha;have h2:=qFs (t:=t) qBf a;rw [h] at h1;omega
theorem qCc {t:BA} {a:Nat} {s:BA} (ha:a≤t.size) (h:qA5 t a=s):a+s.size≤t.size:=by
 have h1:=word_len ha h;have h2:=qDx (t:=t) qBf a ha;omega
theorem word_out {t:BA} {a:Nat} (h:t.size≤a):qA5 t a=⟨#[]⟩:=by
 unfold qA5;rw [qGn (by rw [qBm (by omega)]; rfl)];exact ByteArray.extract_eq_empty_iff.2 (by omega)
theorem strS_adv {t:BA} {a b:Nat} {w:BA} (h:strS t a=.ok b w):a<b∧b≤t.size:=by
 unfold strS at h;split at h
 ·cases h
 ·rename_i e he;have:=qEnd_in t (a+1) he;split at h
  ·cases h; omega
  ·cases h
theorem qDd {t:BA} {f:Bool} {a b:Nat} {w:BA} (ha:a≤t.size) (h:qE4 t f a=.ok b w):a<b∧b≤t.size:=by
 have h1:=qB6 t a;have h2:=qA6 t a ha;unfold qE4 at h;dsimp only at h;split at h
 ·cases h
 ·split at h
  ·have:=strS_adv h;omega
  ·split at h
   ·rename_i hn;split at h
    ·cases h
    ·cases h;have h3:=qDx (t:=t) qBj (qAq t a) h2;have h4:=qFs (t:=t) qBj (qAq t a+1);rw [←qGx qBj hn] at h4;omega
   ·split at h
    ·rename_i hn;cases h;have h3:=qDx (t:=t) qBf (qAq t a) h2;have h4:=qHj t (qAq t a) h2;have h5:0<(qA5 t (qAq t a)).size:=by
      unfold namedS at hn;simp only [Bool.and_eq_true,decide_eq_true_eq] at hn;exact hn.1.1.1
     omega
    ·cases h
theorem pathN_adv {t:BA}:∀ {n a b:Nat} {l l':List BA},a≤t.size→pathN t n a l=.ok b l'→a≤b∧b≤t.size∧qAq t b=b
 | 0,a,b,l,l',_,h=>by cases h
 | n+1,a,b,l,l',ha,h=>by
  have h1:=qB6 t a;have h2:=qA6 t a ha;unfold pathN at h;split at h
  ·rename_i hd;have h3:=(qCx (s:=t) (i:=(qAq t a:Int)) (by omega)).2;split at h
   ·cases h
   ·rename_i b1 w hp;have h4:=qDd (by omega) hp;have h5:=pathN_adv h4.2 h;exact ⟨by omega,h5.2⟩
  ·cases h;exact ⟨h1,h2,skip_idem t a⟩
theorem pathS_adv {t:BA} {a b:Nat} {l:List BA} (ha:a≤t.size) (h:qFb t a=.ok b l):a<b∧b≤t.size∧qAq t b=b:=by
 unfold qFb at h;split at h
 ·cases h
 ·rename_i b1 w hp;have h4:=qDd ha hp;have h5:=pathN_adv h4.2 h;exact ⟨by omega,h5.2⟩
theorem bNN {t:BA} {i:Nat} {c:Int} (hc:0≤c) (h:bAt t (i:Int)=c):i<t.size:=by
 have:=(qCx (s:=t) (i:=(i:Int)) (by omega)).2;omega
theorem opS_adv {t:BA} {i n:Nat} {op:Int} (h:opS t i=some (op,n)):1≤n∧i+n≤t.size:=by
 unfold opS at h;split at h
 ·cases h
 ·rename_i hi;split at h
  ·rename_i hw;cases h;have:=qCc (by omega) hw;exact ⟨by omega,this⟩
  ·split at h
   ·rename_i hw;cases h;have:=bNN (by omega) hw.2;omega
   ·split at h
    ·rename_i hw;cases h;have:=bNN (by omega) hw.2;omega
    ·split at h
     ·rename_i hw;cases h;have:=bNN (by omega) hw.2;omega
     ·(repeat' split at h) <;> cases h <;> omega
theorem valS_adv {t:BA} {f:Bool} {a b:Nat} {x:Int × BA} (ha:a≤t.size) (h:valS t f a=.ok b x):a<b∧b≤t.size:=by
 have h1:=qB6 t a;have h2:=qA6 t a ha;unfold valS at h;dsimp only at h;split at h
 ·cases h
 ·split at h
  ·split at h
   ·cases h
   ·rename_i b1 s hs;cases h;have:=strS_adv hs;omega
  ·split at h
   ·cases h
   ·split at h
    ·rename_i hn;split at h
     ·cases h;have h3:=qDx (t:=t) qCn (qAq t a) h2;have h4:=qFs (t:=t) qCn (qAq t a+1);have h5:qDj (bAt t (qAq t a:Int))=true:=by
       unfold qDj;rcases hn with hn | hn
       ·rw [hn]; rfl
       ·rw [hn]; rfl
      rw [←qGx qCn h5] at h4;omega
     ·cases h
    ·split at h
     ·rename_i hw;cases h;have:=qCc h2 hw;have e:bTrue.size=4:=rfl;omega
     ·split at h
      ·rename_i hw;cases h;have:=qCc h2 hw;have e:bFalse.size=5:=rfl;omega
      ·split at h
       ·rename_i hw;cases h;have:=qCc h2 hw;have e:bNull.size=4:=rfl;omega
       ·cases h
theorem testS_adv {t:BA} {a b:Nat} {out:RNl} {x:RNl × Int} (ha:a≤t.size) (h:testS t a out=.ok b x):a<b∧b≤t.size∧x.1.length=out.length+1:=by
 unfold testS at h;split at h
 ·cases h
 ·rename_i i l hp;have h1:=pathS_adv ha hp;split at h
  ·cases h
  ·rename_i op n ho;have h2:=opS_adv ho;split at h
   ·cases h
   ·rename_i b1 k s hv;have h3:=valS_adv h2.2 hv;cases h;exact ⟨by omega,by omega,by simp⟩
def AdvOK (t:BA) (m a b:Nat) (out:RNl) (x:RNl × Int):Prop:=b≤t.size∧(if m=0∨m=1∨m=3 then a<b else a≤b)∧x.1.length+a≤b+out.length
def AdvG (t:BA) (g:RuT):Prop:=∀m a o b (out:RNl) (acc:Int) (x:RNl × Int),a≤t.size→g m a o out acc=.ok b x→AdvOK t m a b out x
theorem atomF_adv {t:BA} {g:RuT} (hg:AdvG t g) {a o b:Nat} {out:RNl} {x:RNl × Int} (ha:a≤t.size) (h:atomF t g a o out=.ok b x):a<b∧b≤t.size∧x.1.length+a≤b+out.length:=by
 have h1:=qB6 t a;have h2:=qA6 t a ha;unfold atomF at h;split at h
 ·cases h
 ·split at h
  ·rename_i hw;have hin:=qCc h2 hw;have e:bNot.size=3:=rfl;split at h
   ·cases h
   ·split at h
    ·cases h
    ·rename_i b1 x1 hr;obtain ⟨h3,h4,h5⟩:=hg 0 _ _ _ _ _ _ (by omega) hr;rw [if_pos (.inl rfl)] at h4;cases h;exact ⟨by omega,h3,by simp; omega⟩
  ·split at h
   ·rename_i hw;have hin:=qCc h2 hw;have e:bHas.size=3:=rfl;split at h
    ·cases h
    ·rename_i b1 l hp;have h3:=pathS_adv (by omega) hp;cases h;exact ⟨by omega,h3.2.1,by simp; omega⟩
   ·split at h
    ·rename_i hc;have h5:=bNN (by omega) hc;split at h
     ·cases h
     ·split at h
      ·cases h
      ·rename_i b1 x1 hr;obtain ⟨h3,h4,h6⟩:=hg 3 _ _ _ _ _ _ (by omega) hr;rw [if_pos (.inr (.inr rfl))] at h4;have h7:=qB6 t b1;split at h
       ·rename_i hd;have h8:=bNN (by omega) hd;cases h;exact ⟨by omega,by omega,by omega⟩
       ·cases h
    ·have h3:=testS_adv ha h;exact ⟨h3.1,h3.2.1,by omega⟩
theorem thenF_adv {t:BA} {g:RuT} (hg:AdvG t g) {m m' a o b:Nat} {out:RNl} {x:RNl × Int} (hm:m=0∨m=1∨m=3) (ha:a≤t.size) (h:thenF g m m' a o out=.ok b x):a<b∧b≤t.size∧x.1.length+a≤b+out.length:=by
 unfold thenF at h;split at h
 ·cases h
 ·rename_i b1 x1 hr;obtain ⟨h3,h4,h5⟩:=hg _ _ _ _ _ _ _ ha hr;rw [if_pos hm] at h4;obtain ⟨h6,h7,h8⟩:=hg _ _ _ _ _ _ _ h3 h;have h9:b1≤b:=by split at h7 <;> omega
  exact ⟨by omega,h6,by omega⟩
theorem moreF_adv {t:BA} {g:RuT} (hg:AdvG t g) {w:BA} (hw0:0<w.size) {op acc:Int} {m m' a o b:Nat} {out:RNl} {x:RNl × Int} (hm:m=0∨m=1∨m=3) (ha:a≤t.size) (h:moreF t g w op m m' a o out acc=.ok b x):a≤b∧b≤t.size∧x.1.length+a≤b+out.length:=by
 have h1:=qB6 t a;have h2:=qA6 t a ha;unfold moreF at h;split at h
 ·rename_i hw;have hin:=qCc h2 hw;split at h
  ·cases h
  ·rename_i b1 x1 hr;obtain ⟨h3,h4,h5⟩:=hg _ _ _ _ _ _ _ (by omega) hr;rw [if_pos hm] at h4;obtain ⟨h6,h7,h8⟩:=hg _ _ _ _ _ _ _ h3 h;simp only [List.length_append,List.length_cons,List.length_nil] at h8;have h9:b1≤b:=by split at h7 <;> omega
   exact ⟨by omega,h6,by omega⟩
 ·cases h;exact ⟨h1,h2,by show out.length+a≤_; omega⟩
theorem ruS_adv {t:BA}:∀n,AdvG t (ruS t n)
 | 0=>fun m a o b out acc x _ h=>by cases h
 | n+1=>fun m a o b out acc x ha h=>by
  have ih:=ruS_adv (t:=t) n;match m,h with
  | 0,h=>have:=atomF_adv ih ha h; exact ⟨this.2.1,by rw [if_pos (.inl rfl)]; exact this.1,this.2.2⟩
  | 1,h=>have:=thenF_adv ih (.inl rfl) ha h; exact ⟨this.2.1,by rw [if_pos (.inr (.inl rfl))]; exact this.1,this.2.2⟩
  | 2,h=>have:=moreF_adv ih (show 0<bAnd.size by decide) (.inl rfl) ha h; exact ⟨this.2.1,by rw [if_neg (by omega)]; exact this.1,this.2.2⟩
  | 3,h=>have:=thenF_adv ih (.inr (.inl rfl)) ha h; exact ⟨this.2.1,by rw [if_pos (.inr (.inr rfl))]; exact this.1,this.2.2⟩
  | m+4,h=>have:=moreF_adv ih (show 0<bOr.size by decide) (.inr (.inl rfl)) ha h; exact ⟨this.2.1,by rw [if_neg (by omega)]; exact this.1,this.2.2⟩
end Go.Proofs.YtpobbbpphnnnhaaGreatDoor
namespace Go.Eng
open Go.RowKit
set_option linter.unusedVariables false
set_option linter.unusedSimpArgs false
abbrev CSP:Type 1:=List SV→List SB→(R:Type)→(SV→List SB→Option R)→(PV→Option R)→Option R
def natP (C:CSP):Prop:=∀args hp (R:Type) (k:SV→List SB→Option R) (kp:PV→Option R),C args hp R k kp=(C args hp ((SV × List SB) ⊕ PV) (fun v hp'=>some (.inl (v,hp'))) (fun p=>some (.inr p))).bind fun o=>Sum.elim (fun x=>k x.1 x.2) kp o
def qC8 (P:Program) (f:Nat) (C:CSP):Prop:=natP C∧∀(args:List SV) (hp:List SB) (o:(SV × List SB) ⊕ PV),C args hp ((SV × List SB) ⊕ PV) (fun v hp'=>some (.inl (v,hp'))) (fun p=>some (.inr p))=some o→(∀v∈args,v.lt hp.length) →
 ∀(X:Nat→Prop) (w:World) (ρ:Nat→Value),HpSat X w w ρ hp→Calls P f (args.map (SV.den ρ)).toArray w fun e w'=>PanPost X w hp ρ o e w'
theorem stays_lent {X:Nat→Prop} {w0 w w':World} {ρ:Nat→Value} {hp:List SB} {modes:List Bool} {θ:List Nat} (h:HpSat X w0 w ρ hp) (hf:Stays X w0 w) (hst:Stays (lentX ρ hp modes θ) w w'):Stays X w0 w':=by
 refine hf.keep hst.os hst.output hst.size fun k h1 h2=>?_
 refine hst.block k (Nat.lt_of_lt_of_le h1 hf.size) ?_;rintro ⟨i,hh,sb,e1,e2,e3,e4,e5⟩
 rcases (h.fp_lt e3 e4 e5).2 with hx | hx
 ·omega
 ·exact h2 hx
noncomputable def liftP (deep:Bool) (modes:List Bool) (C:CSP):CQ:=.pan fun args hp R k kp =>
 match qEc deep modes args hp with
 | some (θ,ps,args',hpv)=>gds ps (C args' hpv R (fun v hpv'=>match backQ modes θ hp v hpv' with
  | some (v',hp')=>k v' hp'
  | none=>none) kp)
 | none=>none
theorem liftP_valid {P:Program} {f:Nat} {deep:Bool} {modes:List Bool} {C:CSP} (hC:qC8 P f C):qAg P f (liftP deep modes C):=by
 obtain ⟨hnat,hval⟩:=hC;refine ⟨?_,fun args hp p r q hq=>(by cases hq),?_⟩
 ·intro args hp R k kp r h;simp only at h ⊢;cases h1:qEc deep modes args hp with
  | none=>rw [h1] at h; simp at h
  | some x =>
   obtain ⟨θ,ps,args',hpv⟩:=x;rw [h1] at h;simp only at h ⊢;obtain ⟨hps,h⟩:=qAz.1 h;rw [hnat] at h;obtain ⟨o,h4,h5⟩:=Option.bind_eq_some_iff.1 h;cases o with
   | inl x =>
    obtain ⟨v,hpv'⟩:=x;simp only [Sum.elim_inl] at h5;split at h5
    ·rename_i v' hp' h6;refine ⟨.inl (v',hp'),qAz.2 ⟨hps,?_⟩,h5⟩;rw [hnat,h4];simp only [obS,Sum.elim_inl,h6]
    ·cases h5
   | inr p =>
    refine ⟨.inr p,qAz.2 ⟨hps,?_⟩,h5⟩;rw [hnat,h4];rfl
 ·intro args hp o ho hlt X w0 w ρ hhp hf;simp only at ho;cases h1:qEc deep modes args hp with
  | none=>rw [h1] at ho; simp at ho
  | some x =>
   obtain ⟨θ,ps,args',hpv⟩:=x;rw [h1] at ho;simp only at ho;obtain ⟨hn,m1,m2,hlt0,hlta,hsat⟩:=lendAll_spec h1;obtain ⟨hps,h0⟩:=qAz.1 ho;rw [hnat] at h0;obtain ⟨o',h4,h5⟩:=Option.bind_eq_some_iff.1 h0;obtain ⟨e1,s1⟩:=hsat X w0 w ρ hhp hf hps;have hc:=hval args' hpv o' h4 (fun v hv=>by rw [m2]; exact hlta v hv) (lentX ρ hp modes θ) w _ s1;rw [e1] at hc;refine hc.mono ?_;intro e w' hpost;cases o' with
   | inl x =>
    obtain ⟨v,hpv'⟩:=x;simp only [Sum.elim_inl] at h5;split at h5
    ·rename_i v' hp' h6;simp only [snJ] at h5;subst h5;obtain ⟨b1,b2,b3⟩:=back_lt h6 hn m1 hlt0;obtain ⟨ρ',a1,a2,rfl,a4,a5,a6⟩:=hpost;obtain ⟨ρ2,c1,c2,c3,c4⟩:=back_sat hhp hf hn hlt0 m2 m1 h6 a1 a4 a5 a6;exact ⟨ρ2,c1,b2,by rw [c2],b1,c3,c4⟩
    ·cases h5
   | inr p =>
    simp only [Sum.elim_inr,snJ] at h5;subst h5;obtain ⟨rfl,a6⟩:=hpost;exact ⟨rfl,stays_lent hhp hf a6⟩
theorem qD5 {P:Program} {f:Nat} {deep:Bool} {pre:List (Nat × Option Nat × Option (ET × Nat))} {modes:List Bool} {C:CSP} (h:qC8 P f C):qAg P f (qBh pre (liftP deep modes C)):=by
 obtain ⟨hnat,hval,hany⟩:=liftP_valid (deep:=deep) (modes:=modes) h;refine ⟨fun args hp R k kp r hr=>?_,fun args hp p r q hq=>(by cases hq),fun args hp o ho hl X w0 w ρ hs hf=>?_⟩
 ·simp only at hr ⊢;cases h1:prepA pre args hp with
  | none=>rw [h1] at hr; cases hr
  | some x =>
   obtain ⟨a',hp'⟩:=x;rw [h1] at hr;simp only at hr ⊢;exact hnat a' hp' R k kp r hr
 ·simp only at ho;cases h1:prepA pre args hp with
  | none=>rw [h1] at ho; cases ho
  | some x =>
   obtain ⟨a',hp'⟩:=x;rw [h1] at ho;simp only at ho;obtain ⟨g1,g2,g3⟩:=prepA_ok h1 hl;obtain ⟨ρ',a1,a2,a3,a4⟩:=g3 X w0 w ρ hs;have:=hany a' hp' o ho g1 X w0 w ρ' a3 hf;rw [a2] at this;refine this.mono ?_;intro e w' hpost;cases o with
   | inl x =>
    obtain ⟨v,hp2⟩:=x;obtain ⟨ρ2,b1,b2,b3,b4,b5,b6⟩:=hpost;exact ⟨ρ2,fun i hi=>(b1 i (by omega)).trans (a1 i hi),by omega,b3,b4,b5,b6⟩
   | inr p=>exact hpost
noncomputable def mkP {α β ρ:Type} (A:Dec α (List SV)) (B:Dec β (List SB)) (F:α→β→Option (ρ ⊕ PV)) (V:α→β→ρ→SV) (H:α→β→ρ→List SB):CSP:=fun args hp R k kp=>(A.d args).bind fun x=>(B.d hp).bind fun y=>(F x y).bind fun r=>Sum.elim (fun r=>k (V x y r) (H x y r)) kp r
theorem mkP_nat {α β ρ:Type} (A:Dec α (List SV)) (B:Dec β (List SB)) (F:α→β→Option (ρ ⊕ PV)) (V:α→β→ρ→SV) (H:α→β→ρ→List SB):natP (mkP A B F V H):=by
 intro args hp R k kp;unfold mkP;cases A.d args with
 | none=>rfl
 | some x =>
  cases B.d hp with
  | none=>rfl
  | some y =>
   simp only [obS];cases F x y with
   | none=>rfl
   | some r=>cases r <;> rfl
theorem qG1 {α β ρ:Type} {P:Program} {f:Nat} {raws:List Nat} {ic:IQ} {rv:List RV} {nt:Nat} (hc:chk P f raws=some (ic.erase,rv,nt)) (nv:Nat) {Λ:Nat→SubQ} {Γ:Nat→Option CQ} (hΓ:∀f C,Γ f=some C→qAg P f C)
  {A:Dec α (List SV)} {B:Dec β (List SB)} (n0:Nat) {F:α→β→Option (ρ ⊕ PV)} {V:α→β→ρ→SV} {H:α→β→ρ→List SB}
  (hl:∀x,(A.e x).length≤nt) (hn:∀y,(B.e y).length=n0) (hs:qBp Λ Γ n0 nv nt ic)
  (he:∀x y,fnP Λ Γ nv nt ic rv (A.e x) (B.e y) (fun v hp'=>some (Sum.inl (v,hp'):(SV × List SB) ⊕ PV)) (fun p=>some (.inr p))=(F x y).bind fun r=>Sum.elim (fun r=>some (Sum.inl (V x y r,H x y r):(SV × List SB) ⊕ PV)) (fun p=>some (.inr p)) r):qC8 P f (mkP A B F V H):=by
 refine ⟨mkP_nat A B F V H,fun args hp o ho hlt X w ρ hhp=>?_⟩;unfold mkP at ho;obtain ⟨x,h1,h2⟩:=Option.bind_eq_some_iff.1 ho;obtain ⟨y,h3,h4⟩:=Option.bind_eq_some_iff.1 h2;have e1:=A.ok _ _ h1;have e2:=B.ok _ _ h3;subst e1;subst e2;exact fnP_sound hc nv hΓ (by rw [hn]; exact hs) (hl x) hhp (Stays.refl _ _) hlt ((he x y).trans h4)
theorem qC8.zero {P:Program} {f:Nat} {C:CSP} (h:∀args hp (R:Type) (k:SV→List SB→Option R) (kp:PV→Option R),C args hp R k kp=none):qC8 P f C:=by
 refine ⟨fun args hp R k kp=>?_,fun args hp o hC=>?_⟩
 ·rw [h,h]; rfl
 ·rw [h] at hC; cases hC
theorem qC8.evt {P:Program} {f:Nat} {C:Nat→CSP} (hv:∀n,qC8 P f (C n)) {D:CSP} (hnat:natP D)
  (h:∀args hp o,D args hp ((SV × List SB) ⊕ PV) (fun v hp'=>some (.inl (v,hp'))) (fun p=>some (.inr p))=some o→∃n,C n args hp ((SV × List SB) ⊕ PV) (fun v hp'=>some (.inl (v,hp'))) (fun p=>some (.inr p))=some o):qC8 P f D:=by
 refine ⟨hnat,fun args hp o hD=>?_⟩;obtain ⟨n,hn⟩:=h args hp o hD;exact (hv n).2 args hp o hn
noncomputable def panC:CQ→CSP
 | .pan C=>C
 | _=>fun _ _ _ _ _=>none
noncomputable def loudC:CQ→CS
 | .loud C=>C
 | _=>fun _ _ _ _=>none
theorem pan_use {P:Program} {f:Nat} {C:CQ} (h:qAg P f C) {args:List SV} {hp:List SB} {o:(SV × List SB) ⊕ PV} (ho:panC C args hp ((SV × List SB) ⊕ PV) (fun v hp'=>some (.inl (v,hp'))) (fun p=>some (.inr p))=some o) (hl:∀v∈args,v.lt hp.length)
  {X:Nat→Prop} {w0 w:World} {ρ:Nat→Value} (hs:HpSat X w0 w ρ hp) (hf:Stays X w0 w):Calls P f (args.map (SV.den ρ)).toArray w fun e w'=>PanPost X w0 hp ρ o e w':=by
 obtain ⟨_,_,h3⟩:=h;cases C with
 | pan C=>exact h3 args hp o ho hl X w0 w ρ hs hf
 | _=>cases ho
theorem loud_use {P:Program} {f:Nat} {C:CQ} (h:qAg P f C) {args:List SV} {hp:List SB} {v:SV} {hp':List SB} (ho:loudC C args hp (SV × List SB) (fun v hp'=>some (v,hp'))=some (v,hp')) (hl:∀v∈args,v.lt hp.length)
  {X:Nat→Prop} {w0 w:World} {ρ:Nat→Value} (hs:HpSat X w0 w ρ hp) (hf:Stays X w0 w):Calls P f (args.map (SV.den ρ)).toArray w fun e w'=>∃ρ',(∀i<hp.length,ρ' i=ρ i)∧hp.length≤hp'.length∧e=.returned (v.den ρ')∧v.lt hp'.length∧HpSat X w0 w' ρ' hp'∧Stays X w0 w':=by
 obtain ⟨_,h2,_⟩:=h;cases C with
 | loud C =>
  have hV:=h2 args hp True v (some hp') (by show (match C args hp (SV × List SB) (fun v hp'=>some (v,hp')) with | some (v,hp')=>some (True,v,some hp') | none=>none)=_; rw [show C args hp (SV × List SB) (fun v hp'=>some (v,hp'))=_ from ho]) trivial hl
  refine (hV.2.2 X w0 w ρ hs hf).mono ?_;rintro e w' ⟨ρ',hag,rfl,h4,h5⟩
  exact ⟨ρ',hag,hV.2.1,rfl,hV.1,h4,h5⟩
 | _=>cases ho
end Go.Eng
