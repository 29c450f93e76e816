/-
  Texts of a claim.
-/
import Derived.Test.YtnifdcmeffnpaaaDoorPUtf
import Derived.Test.YtnifdcmeffnpaaaDoorPShape
namespace Go.Proofs.YtnifdcmeffnpaaaDoor
open Go.Eng
set_option linter.unusedVariables false
set_option linter.unusedSimpArgs false
inductive Rd (α:Type)
 | ok (b:Nat) (x:α)
 | bad (c:Int) (b:Nat)
def qDl (c:Int):Bool:=decide (c=32) || decide (c=9) || decide (c=10) || decide (c=13)
theorem qEa {t:BA} {a:Nat} (h:qDl (bAt t a)=true):a<t.size:=by
 unfold qDl at h;simp only [Bool.or_eq_true,decide_eq_true_eq] at h;have:=(qCp (s:=t) (i:=a) (by omega)).2;omega
def skipN (t:BA):Nat→Nat→Nat
 | 0,a=>a
 | n+1,a=>if qDl (bAt t (a:Int))=true then skipN t n (a+1) else a
@[irreducible] def qAz (t:BA) (a:Nat):Nat:=skipN t (t.size - a) a
theorem skipS_yes {t:BA} {a:Nat} (h:qDl (bAt t a)=true):qAz t a=qAz t (a+1):=by
 have:=qEa h;unfold qAz;rw [show t.size - a=(t.size - (a+1))+1 by omega];show (if qDl (bAt t (a:Int))=true then _ else _)=_;rw [if_pos h]
theorem skipS_no {t:BA} {a:Nat} (h:qDl (bAt t a)=false):qAz t a=a:=by
 unfold qAz;cases t.size - a with
 | zero=>rfl
 | succ n =>
  show (if qDl (bAt t (a:Int))=true then _ else _)=_;rw [if_neg (by rw [h]; decide)]
theorem qBp (t:BA) (a:Nat):a≤qAz t a:=by
 by_cases h:qDl (bAt t a)=true
 ·rw [skipS_yes h];have:=qBp t (a+1);omega
 ·rw [skipS_no (by simpa using h)];exact Nat.le_refl _
termination_by t.size - a
decreasing_by have:=qEa h; omega
theorem qA7 (t:BA) (a:Nat) (ha:a≤t.size):qAz t a≤t.size:=by
 by_cases h:qDl (bAt t a)=true
 ·rw [skipS_yes h];exact qA7 t (a+1) (by have:=qEa h; omega)
 ·rw [skipS_no (by simpa using h)];exact ha
termination_by t.size - a
decreasing_by have:=qEa h; omega
def digR (t:BA) (a:Nat):Rd Unit:=if qCw t a=a then .bad 31 a else .ok (qCw t a) ()
def litR (t:BA) (w:List Int) (a:Nat):Rd Unit :=
 match w with
 | []=>.ok a ()
 | c::w=>if bAt t a=c then litR t w (a+1) else .bad 31 a
def hexS (c:Int):Int:=if 48≤c∧c≤57 then c - 48 else if 97≤c∧c≤102 then c - 97+10 else if 65≤c∧c≤70 then c - 65+10 else -1
def qF7 (half:Bool) (i:Nat) (u d:Int):Prop:=d<0∨(half=true∧(i=0∧d≠13∨i=1∧d<12))∨(half=false∧i=1∧u=13∧12≤d)
instance (half:Bool) (i:Nat) (u d:Int):Decidable (qF7 half i u d):=by unfold qF7; exact inferInstance
def qFw (t:BA) (half:Bool) (from_:Nat):Nat→Nat→Nat→Int→Rd Int
 | 0,_,a,u=>.ok a u
 | m+1,i,a,u=>if bAt t a<0 then .bad 31 t.size else if qF7 half i u (hexS (bAt t a)) then .bad 33 from_ else qFw t half from_ m (i+1) (a+1) (16*u+hexS (bAt t a))
def pairR (t:BA) (from_:Nat) (a:Nat) (u:Int):Rd Int :=
 if bAt t a<0 then .bad 31 t.size
 else if bAt t a≠92 then .bad 33 from_
 else if bAt t (a+1:Nat)<0 then .bad 31 t.size
 else if bAt t (a+1:Nat)≠117 then .bad 33 from_
 else match qFw t true from_ 4 0 (a+2) 0 with
  | .bad c b=>.bad c b
  | .ok b w=>.ok b (65536+1024*(u - 55296)+w - 56320)
def qEz (c:Int):Int:=if c=34∨c=92∨c=47 then c else if c=98 then 8 else if c=102 then 12 else if c=110 then 10 else if c=114 then 13 else if c=116 then 9 else -1
def escR (t:BA) (a:Nat):Rd Int :=
 if bAt t (a+1:Nat)<0 then .bad 31 t.size
 else if bAt t (a+1:Nat)=117 then
  match qFw t false a 4 0 (a+2) 0 with
  | .bad c b=>.bad c b
  | .ok b u=>if u<55296∨57343<u then .ok b u else pairR t a b u
 else if qEz (bAt t (a+1:Nat))<0 then .bad 33 a
 else .ok (a+2) (qEz (bAt t (a+1:Nat)))
def utfL (u:Int):List Int :=
 if u<128 then [u] else if u<2048 then [192+u / 64,128+u % 64] else if u<65536 then [224+u / 4096,128+u / 64 % 64,128+u % 64]
 else [240+u / 262144,128+u / 4096 % 64,128+u / 64 % 64,128+u % 64]
def quoR (t:BA):Nat→Nat→List Int→Rd (List Int)
 | 0,a,_=>.bad 31 a
 | n+1,a,acc =>
  if bAt t a<32 then .bad 31 a
  else if bAt t a=34 then .ok (a+1) acc
  else if bAt t a=92 then
   match escR t a with
   | .bad c b=>.bad c b
   | .ok b u=>quoR t n b (acc++utfL u)
  else if bAt t a<128 then quoR t n (a+1) (acc++[bAt t a])
  else if seqK t a=0 then quoR t n (a+seqW t a) (acc++qAh (t.extract a (a+seqW t a)))
  else .bad (seqK t a) (if seqK t a=31 then t.size else a)
def signS (t:BA) (a:Nat):Nat:=if bAt t a=45 then a+1 else a
def zeroR (t:BA) (a:Nat):Rd Unit:=if bAt t a=48 then .ok (a+1) () else digR t a
def dotR (t:BA) (a:Nat):Rd Unit:=if bAt t a=46 then digR t (a+1) else .ok a ()
def powR (t:BA) (a:Nat):Rd Unit :=
 if bAt t a=101∨bAt t a=69 then digR t (if bAt t (a+1:Nat)=43∨bAt t (a+1:Nat)=45 then a+2 else a+1) else .ok a ()
def numR (t:BA) (a:Nat):Rd Unit :=
 match zeroR t (signS t a) with
 | .bad c b=>.bad c b
 | .ok b _ =>
  match dotR t b with
  | .bad c b=>.bad c b
  | .ok b _=>powR t b
def nd0 (k:Int) (x:BA) (w:Bool) (i:Int) (n:Int):Eng.Node:=⟨k,(⟨#[]⟩:BA),x,w,i,n⟩
noncomputable def qCx (t:BA) (a:Nat):Rd (List Eng.Node) :=
 if bAt t a=34 then match quoR t (t.size+1) (a+1) [] with
  | .bad c b=>.bad c b
  | .ok b l=>.ok b [nd0 5 (qA4 l) false 0 0]
 else if bAt t a=45∨(48≤bAt t a∧bAt t a≤57) then match numR t a with
  | .bad c b=>.bad c b
  | .ok b _=>.ok b [nd0 4 (t.extract a b) (qFc (t.extract a b)).2 (qFc (t.extract a b)).1 0]
 else if bAt t a=110 then match litR t [110,117,108,108] a with
  | .bad c b=>.bad c b
  | .ok b _=>.ok b [nd0 1 ⟨#[]⟩ false 0 0]
 else if bAt t a=102 then match litR t [102,97,108,115,101] a with
  | .bad c b=>.bad c b
  | .ok b _=>.ok b [nd0 2 ⟨#[]⟩ false 0 0]
 else if bAt t a=116 then match litR t [116,114,117,101] a with
  | .bad c b=>.bad c b
  | .ok b _=>.ok b [nd0 3 ⟨#[]⟩ false 0 0]
 else .bad 31 a
def qBo (k:BA):List Eng.Node→List Eng.Node
 | []=>[]
 | n::r=>⟨n.kind,k,n.text,n.whole,n.int,n.kids⟩::r
def qEl (t:BA) (val:Nat→Rd (List Eng.Node)) (obj:Bool) (names:List BA) (a:Nat):Rd (BA × List Eng.Node) :=
 if obj then
  if bAt t a=34 then match quoR t (t.size+1) (a+1) [] with
   | .bad c b=>.bad c b
   | .ok b l =>
    if qA4 l∈names then .bad 34 a
    else if bAt t (qAz t b)=58 then match val (qAz t (qAz t b+1)) with
     | .bad c b=>.bad c b
     | .ok b x=>.ok b (qA4 l,qBo (qA4 l) x)
    else .bad 31 (qAz t b)
  else .bad 31 a
 else match val a with
  | .bad c b=>.bad c b
  | .ok b x=>.ok b (⟨#[]⟩,x)
def lastC (obj:Bool):Int:=if obj then 125 else 93
def rowR (t:BA) (val:Nat→Rd (List Eng.Node)) (obj:Bool):Nat→Nat→Nat→List Eng.Node→List BA→Rd (Nat × List Eng.Node)
 | 0,a,_,_,_=>.bad 31 a
 | m+1,a,k,acc,names =>
  match qEl t val obj names a with
  | .bad c b=>.bad c b
  | .ok b x =>
   if bAt t (qAz t b)=lastC obj then .ok (qAz t b+1) (k+1,acc++x.2)
   else if bAt t (qAz t b)=44 then rowR t val obj m (qAz t (qAz t b+1)) (k+1) (acc++x.2) (names++[x.1])
   else .bad 31 (qAz t b)
def qB7 (obj:Bool):Int:=if obj then 7 else 6
def boxR (t:BA) (val:Nat→Rd (List Eng.Node)) (obj:Bool) (a:Nat):Rd (List Eng.Node) :=
 if bAt t (qAz t (a+1))=lastC obj then .ok (qAz t (a+1)+1) [nd0 (qB7 obj) ⟨#[]⟩ false 0 0]
 else match rowR t val obj (t.size+1) (qAz t (a+1)) 0 [] [] with
  | .bad c b=>.bad c b
  | .ok b x=>.ok b (nd0 (qB7 obj) ⟨#[]⟩ false 0 x.1::x.2)
noncomputable def valR (t:BA):Nat→Nat→Rd (List Eng.Node)
 | 0,a=>if bAt t a=91∨bAt t a=123 then .bad 11 a else qCx t a
 | d+1,a=>if bAt t a=91∨bAt t a=123 then boxR t (valR t d) (decide (bAt t a=123)) a else qCx t a
noncomputable def readR (t:BA):Rd (List Eng.Node) :=
 match valR t 32 (qAz t 0) with
 | .bad c b=>.bad c b
 | .ok b l=>if qAz t b<t.size then .bad 31 (qAz t b) else .ok (qAz t b) l
theorem qA3 {t:BA} {a:Nat} (h:0≤bAt t a):a<t.size:=by
 have:=(qCp h).2;omega
theorem qEf {t:BA} {a b:Nat} {x:Unit} (ha:a≤t.size) (h:digR t a=.ok b x):a<b∧b≤t.size∧b=qCw t a:=by
 unfold digR at h;have h1:=qEe t a;have h2:=manyS_le t a ha;split at h
 ·cases h
 ·cases h;omega
theorem litR_adv {t:BA}:∀ {w:List Int} {a b:Nat} {x:Unit},(∀c∈w,0≤c)→litR t w a=.ok b x→b=a+w.length∧(w≠[]→b≤t.size)
 | [],a,b,x,_,h=>by
  cases h;exact ⟨rfl,fun h=>(h rfl).elim⟩
 | c::w,a,b,x,hc,h=>by
  unfold litR at h;split at h
  ·rename_i h1;have h2:=litR_adv (fun c hc'=>hc c (List.mem_cons_of_mem _ hc')) h;have h3:=qA3 (t:=t) (a:=a) (by rw [h1]; exact hc c List.mem_cons_self);refine ⟨by rw [h2.1,List.length_cons]; omega,fun _=>?_⟩;cases w with
   | nil=>rw [h2.1]; exact h3
   | cons _ _=>exact h2.2 (by simp)
  ·cases h
theorem qG1 (c:Int) : -1≤hexS c∧hexS c≤15:=by
 unfold hexS;repeat' split
 all_goals omega
theorem fourR_ok {t:BA} {half:Bool} {f a b:Nat} {u:Int} (h:qFw t half f 4 0 a 0=.ok b u) :
  b=a+4∧b≤t.size∧0≤u∧u≤65535∧(half=true→56320≤u∧u≤57343)∧(half=false→¬(56320≤u∧u≤57343)):=by
 have r0:=qG1 (bAt t a);have r1:=qG1 (bAt t (a+1:Nat));have r2:=qG1 (bAt t (a+1+1:Nat));have r3:=qG1 (bAt t (a+1+1+1:Nat));simp only [qFw] at h;split at h
 ·cases h
 split at h
 ·cases h
 rename_i n0 b0;split at h
 ·cases h
 split at h
 ·cases h
 rename_i n1 b1;split at h
 ·cases h
 split at h
 ·cases h
 rename_i n2 b2;split at h
 ·cases h
 split at h
 ·cases h
 rename_i n3 b3;have h3:=qA3 (t:=t) (a:=a+1+1+1) (by omega);simp only [Rd.ok.injEq] at h;obtain ⟨rfl,rfl⟩:=h;unfold qF7 at b0 b1 b2 b3;simp only [not_or] at b0 b1 b2 b3;refine ⟨rfl,by omega,by omega,by omega,fun hh=>?_,fun hh=>?_⟩
 ·subst hh;simp only [true_and,Nat.zero_add] at b0 b1;omega
 ·subst hh;simp only [true_and,Nat.zero_add] at b0 b1;omega
theorem saidS_range (c:Int) : -1≤qEz c∧qEz c≤116:=by
 unfold qEz;repeat' split
 all_goals omega
def Code (u:Int):Prop:=0≤u∧u≤1114111∧¬(55296≤u∧u≤57343)
theorem escR_ok {t:BA} {a b:Nat} {u:Int} (h:escR t a=.ok b u):a<b∧b≤t.size∧Code u:=by
 unfold escR at h;have hr:=saidS_range (bAt t (a+1:Nat));split at h
 ·cases h
 ·rename_i h0;have hl:=qA3 (t:=t) (a:=a+1) (by omega);split at h
  ·split at h
   ·cases h
   ·rename_i b' u' hf;have h4:=fourR_ok hf;have h5:=h4.2.2.2.2.2 rfl;split at h
    ·cases h;exact ⟨by omega,h4.2.1,by unfold Code; omega⟩
    ·unfold pairR at h;repeat' split at h
     all_goals first | (cases h; done) | skip
     rename_i hw;have h6:=fourR_ok hw;have h7:=h6.2.2.2.2.1 rfl;cases h;exact ⟨by omega,h6.2.1,by unfold Code; omega⟩
  ·split at h
   ·cases h
   ·cases h;exact ⟨by omega,by omega,by unfold Code; omega⟩
theorem utfL_range {u:Int} (h:Code u):∀x∈utfL u,0≤x∧x<256:=by
 unfold Code at h;unfold utfL;intro x hx;repeat' split at hx
 all_goals
  simp only [List.mem_cons,List.not_mem_nil,or_false] at hx;omega
theorem utfL_len (u:Int):1≤(utfL u).length∧(utfL u).length≤4:=by
 unfold utfL;repeat' split
 all_goals simp
theorem bytesL_range' (s:BA):∀x∈qAh s,0≤x∧x<256:=by
 intro x hx;unfold qAh at hx;rw [List.mem_map] at hx;obtain ⟨b,_,rfl⟩:=hx;have:=b.toNat_lt;omega
theorem qEs {t:BA}:∀ {n a b:Nat} {acc l:List Int},quoR t n a acc=.ok b l→(∀x∈acc,0≤x∧x<256)→a<b∧b≤t.size∧(∀x∈l,0≤x∧x<256)∧l.length≤acc.length+4*(b - a)
 | 0,a,b,acc,l,h,_=>by cases h
 | n+1,a,b,acc,l,h,hacc=>by
  unfold quoR at h;split at h
  ·cases h
  ·rename_i h0;have ha:=qA3 (t:=t) (a:=a) (by omega);split at h
   ·cases h;exact ⟨by omega,by omega,hacc,by omega⟩
   ·split at h
    ·split at h
     ·cases h
     ·rename_i b' u he;have h1:=escR_ok he;have h2:=qEs h (by
       intro x hx;rcases List.mem_append.1 hx with hx | hx
       ·exact hacc x hx
       ·exact utfL_range h1.2.2 x hx)
      have h3:=utfL_len u;rw [List.length_append] at h2;exact ⟨by omega,h2.2.1,h2.2.2.1,by omega⟩
    ·split at h
     ·have hb:=qGx t a;have h2:=qEs h (by
       intro x hx;rcases List.mem_append.1 hx with hx | hx
       ·exact hacc x hx
       ·rw [List.mem_singleton.1 hx]; omega)
      rw [List.length_append,List.length_singleton] at h2;exact ⟨by omega,h2.2.1,h2.2.2.1,by omega⟩
     ·split at h
      ·rename_i hk;have hw:=qFd ha (by have:=qEy ha; omega) hk;have h2:=qEs h (by
        intro x hx;rcases List.mem_append.1 hx with hx | hx
        ·exact hacc x hx
        ·exact bytesL_range' _ x hx)
       have h3:(qAh (t.extract a (a+seqW t a))).length≤4:=by
        unfold qAh;rw [List.length_map,Array.length_toList];show (t.extract a (a+seqW t a)).size≤4;rw [ByteArray.size_extract];omega
       rw [List.length_append] at h2;exact ⟨by omega,h2.2.1,h2.2.2.1,by omega⟩
      ·cases h
theorem qB2 {α:Type} {c:Bool} {p:Prop} [Decidable p] (h:c=true↔p) (x y:α):(bif c then x else y)=if p then x else y:=by
 by_cases hp:p
 ·rw [if_pos hp,h.2 hp,cnT]
 ·rw [if_neg hp];cases c with
  | false=>rfl
  | true=>exact (hp (h.1 rfl)).elim
theorem blank_cond (t:BA) (a:Nat):((decide ((a:Int)<(t.size:Int))) && ((((decide ((bAt t a)=(32:Int))) || (decide ((bAt t a)=(9:Int)))) || (decide ((bAt t a)=(10:Int)))) || (decide ((bAt t a)=(13:Int)))))=qDl (bAt t a):=by
 by_cases h:a<t.size
 ·rw [deT (by omega),Bool.true_and];rfl
 ·rw [deF (by omega),Bool.false_and,qBt (by omega)];rfl
theorem digR_code {t:BA} {a b:Nat} {c:Int} (h:digR t a=.bad c b):c=31:=by
 unfold digR at h;split at h
 ·cases h; rfl
 ·cases h
theorem ext_le (t:BA) (a b:Nat) (hs:t.size≤3000000):(t.extract a b).size≤3000000:=by
 rw [ByteArray.size_extract];omega
theorem bytesL_cons {s:BA} {i:Nat} (h:i<s.size):(qAh s).drop i=bAt s i::(qAh s).drop (i+1):=by
 have hl:i<(qAh s).length:=by simp only [qAh,List.length_map,Array.length_toList]; exact h
 rw [List.drop_eq_getElem_cons hl];congr 1
 rw [bAt_in h];simp only [qAh,List.getElem_map];rfl
theorem litR_code {t:BA}:∀ {w:List Int} {a b:Nat} {c:Int},litR t w a=.bad c b→c=31
 | [],_,_,_,h=>by cases h
 | _::w,a,b,c,h=>by
  unfold litR at h;split at h
  ·exact litR_code h
  ·cases h; rfl
theorem u8_mod' {x:Int} (h:0≤x∧x<256):x % 256=x:=by omega
theorem fourR_code {t:BA} {hf:Bool} {f:Nat}:∀ {m i a b:Nat} {u c:Int},qFw t hf f m i a u=.bad c b→c=31∨c=33
 | 0,_,_,_,_,_,h=>by cases h
 | m+1,i,a,b,u,c,h=>by
  unfold qFw at h;split at h
  ·cases h; exact .inl rfl
  ·split at h
   ·cases h; exact .inr rfl
   ·exact fourR_code h
theorem escR_code {t:BA} {a b:Nat} {c:Int} (h:escR t a=.bad c b):c=31∨c=33:=by
 unfold escR at h;split at h
 ·cases h; exact .inl rfl
 ·split at h
  ·split at h
   ·rename_i h2;cases h;exact fourR_code h2
   ·split at h
    ·cases h
    ·unfold pairR at h;split at h
     ·cases h; exact .inl rfl
     ·split at h
      ·cases h; exact .inr rfl
      ·split at h
       ·cases h; exact .inl rfl
       ·split at h
        ·cases h; exact .inr rfl
        ·split at h
         ·rename_i h2;cases h;exact fourR_code h2
         ·cases h
  ·split at h
   ·cases h; exact .inr rfl
   ·cases h
theorem quoR_code {t:BA}:∀ {n a b:Nat} {acc:List Int} {c:Int},quoR t n a acc=.bad c b→c=31∨c=32∨c=33
 | 0,_,_,_,_,h=>by cases h; exact .inl rfl
 | n+1,a,b,acc,c,h=>by
  unfold quoR at h;split at h
  ·cases h; exact .inl rfl
  ·split at h
   ·cases h
   ·split at h
    ·split at h
     ·rename_i h2;cases h;rcases escR_code h2 with h3 | h3
      ·exact .inl h3
      ·exact .inr (.inr h3)
     ·exact quoR_code h
    ·split at h
     ·exact quoR_code h
     ·split at h
      ·exact quoR_code h
      ·rename_i h5;have:=seqK_cases t a;simp only [Rd.bad.injEq] at h;omega
end Go.Proofs.YtnifdcmeffnpaaaDoor
