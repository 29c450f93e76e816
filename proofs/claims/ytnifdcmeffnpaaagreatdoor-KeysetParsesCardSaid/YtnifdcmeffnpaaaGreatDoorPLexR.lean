/-
  Texts of a claim.
-/
import Derived.Test.YtnifdcmeffnpaaaGreatDoorPShape
import Derived.Test.YtnifdcmeffnpaaaGreatDoorJQ
namespace Go.Proofs.YtnifdcmeffnpaaaGreatDoor
open Go.Eng
set_option linter.unusedVariables false
set_option linter.unusedSimpArgs false
inductive Rd (α:Type)
 | ok (b:Nat) (x:α)
 | bad (c:Int) (b:Nat)
def qCx (c:Int):Bool:=decide (c=32) || decide (c=9) || decide (c=10) || decide (c=13)
theorem qCr {t:BA} {a:Nat} (h:qCx (bAt t a)=true):a<t.size:=by
 unfold qCx at h;simp only [Bool.or_eq_true,decide_eq_true_eq] at h;have:=(qEe (s:=t) (i:=a) (by omega)).2;omega
def skipN (t:BA):Nat→Nat→Nat
 | 0,a=>a
 | n+1,a=>if qCx (bAt t (a:Int))=true then skipN t n (a+1) else a
@[irreducible] def qAt (t:BA) (a:Nat):Nat:=skipN t (t.size - a) a
theorem skipS_yes {t:BA} {a:Nat} (h:qCx (bAt t a)=true):qAt t a=qAt t (a+1):=by
 have:=qCr h;unfold qAt;rw [show t.size - a=(t.size - (a+1))+1 by omega];show (if qCx (bAt t (a:Int))=true then _ else _)=_;rw [if_pos h]
theorem skipS_no {t:BA} {a:Nat} (h:qCx (bAt t a)=false):qAt t a=a:=by
 unfold qAt;cases t.size - a with
 | zero=>rfl
 | succ n =>
  show (if qCx (bAt t (a:Int))=true then _ else _)=_;rw [if_neg (by rw [h]; decide)]
theorem qBy (t:BA) (a:Nat):a≤qAt t a:=by
 by_cases h:qCx (bAt t a)=true
 ·rw [skipS_yes h];have:=qBy t (a+1);omega
 ·rw [skipS_no (by simpa using h)];exact Nat.le_refl _
termination_by t.size - a
decreasing_by have:=qCr h; omega
theorem qBh (t:BA) (a:Nat) (ha:a≤t.size):qAt t a≤t.size:=by
 by_cases h:qCx (bAt t a)=true
 ·rw [skipS_yes h];exact qBh t (a+1) (by have:=qCr h; omega)
 ·rw [skipS_no (by simpa using h)];exact ha
termination_by t.size - a
decreasing_by have:=qCr h; omega
def digR (t:BA) (a:Nat):Rd Unit:=if qCi t a=a then .bad 31 a else .ok (qCi t a) ()
def litR (t:BA) (w:List Int) (a:Nat):Rd Unit :=
 match w with
 | []=>.ok a ()
 | c::w=>if bAt t a=c then litR t w (a+1) else .bad 31 a
def hexS (c:Int):Int:=if 48≤c∧c≤57 then c - 48 else if 97≤c∧c≤102 then c - 97+10 else if 65≤c∧c≤70 then c - 65+10 else -1
def qDm (half:Bool) (i:Nat) (u d:Int):Prop:=d<0∨(half=true∧(i=0∧d≠13∨i=1∧d<12))∨(half=false∧i=1∧u=13∧12≤d)
instance (half:Bool) (i:Nat) (u d:Int):Decidable (qDm half i u d):=by unfold qDm; exact inferInstance
def qFu (t:BA) (half:Bool) (from_:Nat):Nat→Nat→Nat→Int→Rd Int
 | 0,_,a,u=>.ok a u
 | m+1,i,a,u=>if bAt t a<0 then .bad 31 t.size else if qDm half i u (hexS (bAt t a)) then .bad 33 from_ else qFu t half from_ m (i+1) (a+1) (16*u+hexS (bAt t a))
def pairR (t:BA) (from_:Nat) (a:Nat) (u:Int):Rd Int :=
 if bAt t a<0 then .bad 31 t.size
 else if bAt t a≠92 then .bad 33 from_
 else if bAt t (a+1:Nat)<0 then .bad 31 t.size
 else if bAt t (a+1:Nat)≠117 then .bad 33 from_
 else match qFu t true from_ 4 0 (a+2) 0 with
  | .bad c b=>.bad c b
  | .ok b w=>.ok b (65536+1024*(u - 55296)+w - 56320)
def saidS (c:Int):Int:=if c=34∨c=92∨c=47 then c else if c=98 then 8 else if c=102 then 12 else if c=110 then 10 else if c=114 then 13 else if c=116 then 9 else -1
def escR (t:BA) (a:Nat):Rd Int :=
 if bAt t (a+1:Nat)<0 then .bad 31 t.size
 else if bAt t (a+1:Nat)=117 then
  match qFu t false a 4 0 (a+2) 0 with
  | .bad c b=>.bad c b
  | .ok b u=>if u<55296∨57343<u then .ok b u else pairR t a b u
 else if saidS (bAt t (a+1:Nat))<0 then .bad 33 a
 else .ok (a+2) (saidS (bAt t (a+1:Nat)))
def utfL (u:Int):List Int :=
 if u<128 then [u] else if u<2048 then [192+u / 64,128+u % 64] else if u<65536 then [224+u / 4096,128+u / 64 % 64,128+u % 64]
 else [240+u / 262144,128+u / 4096 % 64,128+u / 64 % 64,128+u % 64]
def quoR (t:BA):Nat→Nat→List Int→Rd (List Int)
 | 0,a,_=>.bad 31 a
 | n+1,a,acc =>
  if bAt t a<32 then .bad 31 a
  else if bAt t a=34 then .ok (a+1) acc
  else if bAt t a=92 then
   match escR t a with
   | .bad c b=>.bad c b
   | .ok b u=>quoR t n b (acc++utfL u)
  else if bAt t a<128 then quoR t n (a+1) (acc++[bAt t a])
  else if seqK t a=0 then quoR t n (a+seqW t a) (acc++qBb (t.extract a (a+seqW t a)))
  else .bad (seqK t a) (if seqK t a=31 then t.size else a)
def signS (t:BA) (a:Nat):Nat:=if bAt t a=45 then a+1 else a
def zeroR (t:BA) (a:Nat):Rd Unit:=if bAt t a=48 then .ok (a+1) () else digR t a
def dotR (t:BA) (a:Nat):Rd Unit:=if bAt t a=46 then digR t (a+1) else .ok a ()
def powR (t:BA) (a:Nat):Rd Unit :=
 if bAt t a=101∨bAt t a=69 then digR t (if bAt t (a+1:Nat)=43∨bAt t (a+1:Nat)=45 then a+2 else a+1) else .ok a ()
def numR (t:BA) (a:Nat):Rd Unit :=
 match zeroR t (signS t a) with
 | .bad c b=>.bad c b
 | .ok b _ =>
  match dotR t b with
  | .bad c b=>.bad c b
  | .ok b _=>powR t b
def nd0 (k:Int) (x:BA) (w:Bool) (i:Int) (n:Int):Eng.Node:=⟨k,(⟨#[]⟩:BA),x,w,i,n⟩
noncomputable def qFp (t:BA) (a:Nat):Rd (List Eng.Node) :=
 if bAt t a=34 then match quoR t (t.size+1) (a+1) [] with
  | .bad c b=>.bad c b
  | .ok b l=>.ok b [nd0 5 (qAw l) false 0 0]
 else if bAt t a=45∨(48≤bAt t a∧bAt t a≤57) then match numR t a with
  | .bad c b=>.bad c b
  | .ok b _=>.ok b [nd0 4 (t.extract a b) (qC3 (t.extract a b)).2 (qC3 (t.extract a b)).1 0]
 else if bAt t a=110 then match litR t [110,117,108,108] a with
  | .bad c b=>.bad c b
  | .ok b _=>.ok b [nd0 1 ⟨#[]⟩ false 0 0]
 else if bAt t a=102 then match litR t [102,97,108,115,101] a with
  | .bad c b=>.bad c b
  | .ok b _=>.ok b [nd0 2 ⟨#[]⟩ false 0 0]
 else if bAt t a=116 then match litR t [116,114,117,101] a with
  | .bad c b=>.bad c b
  | .ok b _=>.ok b [nd0 3 ⟨#[]⟩ false 0 0]
 else .bad 31 a
def qFl (k:BA):List Eng.Node→List Eng.Node
 | []=>[]
 | n::r=>⟨n.kind,k,n.text,n.whole,n.int,n.kids⟩::r
def qE7 (t:BA) (val:Nat→Rd (List Eng.Node)) (obj:Bool) (names:List BA) (a:Nat):Rd (BA × List Eng.Node) :=
 if obj then
  if bAt t a=34 then match quoR t (t.size+1) (a+1) [] with
   | .bad c b=>.bad c b
   | .ok b l =>
    if qAw l∈names then .bad 34 a
    else if bAt t (qAt t b)=58 then match val (qAt t (qAt t b+1)) with
     | .bad c b=>.bad c b
     | .ok b x=>.ok b (qAw l,qFl (qAw l) x)
    else .bad 31 (qAt t b)
  else .bad 31 a
 else match val a with
  | .bad c b=>.bad c b
  | .ok b x=>.ok b (⟨#[]⟩,x)
def qDy (obj:Bool):Int:=if obj then 125 else 93
def rowR (t:BA) (val:Nat→Rd (List Eng.Node)) (obj:Bool):Nat→Nat→Nat→List Eng.Node→List BA→Rd (Nat × List Eng.Node)
 | 0,a,_,_,_=>.bad 31 a
 | m+1,a,k,acc,names =>
  match qE7 t val obj names a with
  | .bad c b=>.bad c b
  | .ok b x =>
   if bAt t (qAt t b)=qDy obj then .ok (qAt t b+1) (k+1,acc++x.2)
   else if bAt t (qAt t b)=44 then rowR t val obj m (qAt t (qAt t b+1)) (k+1) (acc++x.2) (names++[x.1])
   else .bad 31 (qAt t b)
def qGe (obj:Bool):Int:=if obj then 7 else 6
def boxR (t:BA) (val:Nat→Rd (List Eng.Node)) (obj:Bool) (a:Nat):Rd (List Eng.Node) :=
 if bAt t (qAt t (a+1))=qDy obj then .ok (qAt t (a+1)+1) [nd0 (qGe obj) ⟨#[]⟩ false 0 0]
 else match rowR t val obj (t.size+1) (qAt t (a+1)) 0 [] [] with
  | .bad c b=>.bad c b
  | .ok b x=>.ok b (nd0 (qGe obj) ⟨#[]⟩ false 0 x.1::x.2)
noncomputable def valR (t:BA):Nat→Nat→Rd (List Eng.Node)
 | 0,a=>if bAt t a=91∨bAt t a=123 then .bad 11 a else qFp t a
 | d+1,a=>if bAt t a=91∨bAt t a=123 then boxR t (valR t d) (decide (bAt t a=123)) a else qFp t a
noncomputable def readR (t:BA):Rd (List Eng.Node) :=
 match valR t 32 (qAt t 0) with
 | .bad c b=>.bad c b
 | .ok b l=>if qAt t b<t.size then .bad 31 (qAt t b) else .ok (qAt t b) l
theorem qA7 {t:BA} {a:Nat} (h:0≤bAt t a):a<t.size:=by
 have:=(qEe h).2;omega
theorem qEb {t:BA} {a b:Nat} {x:Unit} (ha:a≤t.size) (h:digR t a=.ok b x):a<b∧b≤t.size∧b=qCi t a:=by
 unfold digR at h;have h1:=manyS_ge t a;have h2:=manyS_le t a ha;split at h
 ·cases h
 ·cases h;omega
theorem litR_adv {t:BA}:∀ {w:List Int} {a b:Nat} {x:Unit},(∀c∈w,0≤c)→litR t w a=.ok b x→b=a+w.length∧(w≠[]→b≤t.size)
 | [],a,b,x,_,h=>by
  cases h;exact ⟨rfl,fun h=>(h rfl).elim⟩
 | c::w,a,b,x,hc,h=>by
  unfold litR at h;split at h
  ·rename_i h1;have h2:=litR_adv (fun c hc'=>hc c (List.mem_cons_of_mem _ hc')) h;have h3:=qA7 (t:=t) (a:=a) (by rw [h1]; exact hc c List.mem_cons_self);refine ⟨by rw [h2.1,List.length_cons]; omega,fun _=>?_⟩;cases w with
   | nil=>rw [h2.1]; exact h3
   | cons _ _=>exact h2.2 (by simp)
  ·cases h
theorem qE1 (c:Int) : -1≤hexS c∧hexS c≤15:=by
 unfold hexS;repeat' split
 all_goals omega
theorem fourR_ok {t:BA} {half:Bool} {f a b:Nat} {u:Int} (h:qFu t half f 4 0 a 0=.ok b u) :
  b=a+4∧b≤t.size∧0≤u∧u≤65535∧(half=true→56320≤u∧u≤57343)∧(half=false→¬(56320≤u∧u≤57343)):=by
 have r0:=qE1 (bAt t a);have r1:=qE1 (bAt t (a+1:Nat));have r2:=qE1 (bAt t (a+1+1:Nat));have r3:=qE1 (bAt t (a+1+1+1:Nat));simp only [qFu] at h;split at h
 ·cases h
 split at h
 ·cases h
 rename_i n0 b0;split at h
 ·cases h
 split at h
 ·cases h
 rename_i n1 b1;split at h
 ·cases h
 split at h
 ·cases h
 rename_i n2 b2;split at h
 ·cases h
 split at h
 ·cases h
 rename_i n3 b3;have h3:=qA7 (t:=t) (a:=a+1+1+1) (by omega);simp only [Rd.ok.injEq] at h;obtain ⟨rfl,rfl⟩:=h;unfold qDm at b0 b1 b2 b3;simp only [not_or] at b0 b1 b2 b3;refine ⟨rfl,by omega,by omega,by omega,fun hh=>?_,fun hh=>?_⟩
 ·subst hh;simp only [true_and,Nat.zero_add] at b0 b1;omega
 ·subst hh;simp only [true_and,Nat.zero_add] at b0 b1;omega
theorem saidS_range (c:Int) : -1≤saidS c∧saidS c≤116:=by
 unfold saidS;repeat' split
 all_goals omega
def Code (u:Int):Prop:=0≤u∧u≤1114111∧¬(55296≤u∧u≤57343)
theorem escR_ok {t:BA} {a b:Nat} {u:Int} (h:escR t a=.ok b u):a<b∧b≤t.size∧Code u:=by
 unfold escR at h;have hr:=saidS_range (bAt t (a+1:Nat));split at h
 ·cases h
 ·rename_i h0;have hl:=qA7 (t:=t) (a:=a+1) (by omega);split at h
  ·split at h
   ·cases h
   ·rename_i b' u' hf;have h4:=fourR_ok hf;have h5:=h4.2.2.2.2.2 rfl;split at h
    ·cases h;exact ⟨by omega,h4.2.1,by unfold Code; omega⟩
    ·unfold pairR at h;repeat' split at h
     all_goals first | (cases h; done) | skip
     rename_i hw;have h6:=fourR_ok hw;have h7:=h6.2.2.2.2.1 rfl;cases h;exact ⟨by omega,h6.2.1,by unfold Code; omega⟩
  ·split at h
   ·cases h
   ·cases h;exact ⟨by omega,by omega,by unfold Code; omega⟩
theorem utfL_range {u:Int} (h:Code u):∀x∈utfL u,0≤x∧x<256:=by
 unfold Code at h;unfold utfL;intro x hx;repeat' split at hx
 all_goals
  simp only [List.mem_cons,List.not_mem_nil,or_false] at hx;omega
theorem utfL_len (u:Int):1≤(utfL u).length∧(utfL u).length≤4:=by
 unfold utfL;repeat' split
 all_goals simp
theorem bytesL_range' (s:BA):∀x∈qBb s,0≤x∧x<256:=by
 intro x hx;unfold qBb at hx;rw [List.mem_map] at hx;obtain ⟨b,_,rfl⟩:=hx;have:=b.toNat_lt;omega
theorem bytesL_of' {l:List Int} (h:∀x∈l,0≤x∧x<256):qBb (qAw l)=l:=by
 rw [bytesI_eq];unfold qBb;simp only [List.map_map];conv=>rhs; rw [←List.map_id l]
 refine List.map_congr_left fun x hx=>?_
 have:=h x hx;simp only [Function.comp,id];rw [UInt8.toNat_ofNat',Nat.mod_eq_of_lt (by omega)];omega
theorem quoR_ok {t:BA}:∀ {n a b:Nat} {acc l:List Int},quoR t n a acc=.ok b l→(∀x∈acc,0≤x∧x<256)→a<b∧b≤t.size∧(∀x∈l,0≤x∧x<256)∧l.length≤acc.length+4*(b - a)
 | 0,a,b,acc,l,h,_=>by cases h
 | n+1,a,b,acc,l,h,hacc=>by
  unfold quoR at h;split at h
  ·cases h
  ·rename_i h0;have ha:=qA7 (t:=t) (a:=a) (by omega);split at h
   ·cases h;exact ⟨by omega,by omega,hacc,by omega⟩
   ·split at h
    ·split at h
     ·cases h
     ·rename_i b' u he;have h1:=escR_ok he;have h2:=quoR_ok h (by
       intro x hx;rcases List.mem_append.1 hx with hx | hx
       ·exact hacc x hx
       ·exact utfL_range h1.2.2 x hx)
      have h3:=utfL_len u;rw [List.length_append] at h2;exact ⟨by omega,h2.2.1,h2.2.2.1,by omega⟩
    ·split at h
     ·have hb:=qCy t a;have h2:=quoR_ok h (by
       intro x hx;rcases List.mem_append.1 hx with hx | hx
       ·exact hacc x hx
       ·rw [List.mem_singleton.1 hx]; omega)
      rw [List.length_append,List.length_singleton] at h2;exact ⟨by omega,h2.2.1,h2.2.2.1,by omega⟩
     ·split at h
      ·rename_i hk;have hw:=seqW_in ha (by have:=by8_in ha; omega) hk;have h2:=quoR_ok h (by
        intro x hx;rcases List.mem_append.1 hx with hx | hx
        ·exact hacc x hx
        ·exact bytesL_range' _ x hx)
       have h3:(qBb (t.extract a (a+seqW t a))).length≤4:=by
        unfold qBb;rw [List.length_map,Array.length_toList];show (t.extract a (a+seqW t a)).size≤4;rw [ByteArray.size_extract];omega
       rw [List.length_append] at h2;exact ⟨by omega,h2.2.1,h2.2.2.1,by omega⟩
      ·cases h
theorem qA5 {α:Type} {c:Bool} {p:Prop} [Decidable p] (h:c=true↔p) (x y:α):(bif c then x else y)=if p then x else y:=by
 by_cases hp:p
 ·rw [if_pos hp,h.2 hp,cnT]
 ·rw [if_neg hp];cases c with
  | false=>rfl
  | true=>exact (hp (h.1 rfl)).elim
def badG (c:Int) (b:Int):qG0:=⟨0,[],⟨#[]⟩,c,b⟩
theorem r_at (t:BA) (a:Nat):qDi t (a:Int)=some (bAt t a):=by
 rw [(byteAt_some t a (by omega)).1];by_cases h:(t.size:Int)≤a
 ·rw [if_pos h,qBo (by omega)]
 ·rw [if_neg h]
theorem blank_cond (t:BA) (a:Nat):((decide ((a:Int)<(t.size:Int))) && ((((decide ((bAt t a)=(32:Int))) || (decide ((bAt t a)=(9:Int)))) || (decide ((bAt t a)=(10:Int)))) || (decide ((bAt t a)=(13:Int)))))=qCx (bAt t a):=by
 by_cases h:a<t.size
 ·rw [deT (by omega),Bool.true_and];rfl
 ·rw [deF (by omega),Bool.false_and,qBo (by omega)];rfl
theorem r_skip_step (t:BA) (a:Nat) (hs:t.size≤3000000):qFh t (a:Int)=some (if qCx (bAt t a)=true then .inl ((a+1:Nat):Int) else .inr (a:Int)):=by
 unfold qFh;have h:(decide ((a:Int)<(t.size:Int)))=true→0≤(a:Int)∧(a:Int)<t.size:=fun h=>⟨by omega,of_decide_eq_true h⟩
 rw [qAa h,qAa (fun _=>h),qAa (fun _=>h),qAa (fun _=>h),blank_cond];cases hb:qCx (bAt t a) with
 | true =>
  have:=qCr hb;rw [cnT,if_pos rfl,qAa (by unfold qAe; omega)];rfl
 | false=>rw [cnF,if_neg (by simp)]
theorem r_skip0 (t:BA) (hs:t.size≤3000000) (a:Nat):zcs_p0 t (a:Int)=some (qAt t a:Int):=by
 have hst:=r_skip_step t a hs;unfold zcs_p0;by_cases h:qCx (bAt t a)=true
 ·rw [if_pos h] at hst;rw [qAs hst,skipS_yes h];exact r_skip0 t hs (a+1)
 ·rw [if_neg h] at hst;rw [qAh hst,skipS_no (by simpa using h)]
termination_by t.size - a
decreasing_by have:=qCr h; omega
theorem r_skip (t:BA) (hs:t.size≤3000000) (a:Nat):zcs_s t (a:Int)=some (qAt t a:Int):=by
 unfold zcs_s;rw [r_skip0 t hs];rfl
theorem dig_cond (t:BA) (a:Nat):(((decide ((a:Int)<(t.size:Int))) && (decide ((48:Int)≤(bAt t a)))) && (decide ((bAt t a)≤(57:Int))))=digS t a:=by
 by_cases h:a<t.size
 ·rw [deT (by omega),Bool.true_and];rfl
 ·rw [deF (by omega),Bool.false_and,Bool.false_and];unfold digS;rw [qBo (by omega)];rfl
theorem r_dig0 (t:BA) (hs:t.size≤3000000) (a:Nat):zch_p0 t (a:Int)=some (qCi t a:Int):=by
 have hst:qFi t (a:Int)=some (if digS t a=true then .inl ((a+1:Nat):Int) else .inr (a:Int)):=by
  unfold qFi;have h:(decide ((a:Int)<(t.size:Int)))=true→0≤(a:Int)∧(a:Int)<t.size:=fun h=>⟨by omega,of_decide_eq_true h⟩
  rw [qAa h,qAa (fun h2=>h (by simp only [Bool.and_eq_true] at h2; exact h2.1)),dig_cond];cases hb:digS t a with
  | true =>
   have:=qFr hb;rw [cnT,if_pos rfl,qAa (by unfold qAe; omega)];rfl
  | false=>rw [cnF,if_neg (by simp)]
 unfold zch_p0;by_cases h:digS t a=true
 ·rw [if_pos h] at hst;rw [qAs hst,qDo h];exact r_dig0 t hs (a+1)
 ·rw [if_neg h] at hst;rw [qAh hst,qEz (by simpa using h)]
termination_by t.size - a
decreasing_by have:=qFr h; omega
def gotU (r:Rd Unit):qG0:=match r with
 | .bad c b=>badG c b
 | .ok b _=>⟨(b:Int),[],⟨#[]⟩,0,0⟩
theorem r_dig (t:BA) (hs:t.size≤3000000) (a:Nat):zch_s t (a:Int)=some (gotU (digR t a)):=by
 unfold zch_s digR;rw [r_dig0 t hs,obS];by_cases h:qCi t a=a
 ·rw [if_pos h,deT (by omega),cnT];rfl
 ·rw [if_neg h,deF (by omega),cnF];rfl
theorem qDk {t:BA} {a b:Nat} {c:Int} (h:digR t a=.bad c b):c=31:=by
 unfold digR at h;split at h
 ·cases h; rfl
 ·cases h
noncomputable def numG (t:BA) (f:Nat) (r:Rd Unit):Int × BA × Int × Int × (List Eng.Node):=match r with
 | .bad c b=>(0,⟨#[]⟩,c,b,[])
 | .ok b _=>((b:Int),⟨#[]⟩,0,0,[nd0 4 (t.extract f b) (qC3 (t.extract f b)).2 (qC3 (t.extract f b)).1 0])
theorem wholeV_is (s:BA) (hs:s.size≤3000000):zbu_s s=some (qC3 s)∧zaa_s s=some (qC3 s):=by
 exact (whole_is s hs).symm
theorem ext_le (t:BA) (a b:Nat) (hs:t.size≤3000000):(t.extract a b).size≤3000000:=by
 rw [ByteArray.size_extract];omega
theorem r_num4 (t:BA) (hs:t.size≤3000000) {f b:Nat} (h1:f≤b) (h2:b≤t.size):qFo t (f:Int) (b:Int)=some (⟨#[]⟩,0,0,[nd0 4 (t.extract f b) (qC3 (t.extract f b)).2 (qC3 (t.extract f b)).1 0]):=by
 unfold qFo;rw [qAa (by omega),Int.toNat_natCast,Int.toNat_natCast,(wholeV_is _ (ext_le t f b hs)).1,obS,qAa (by omega)];rfl
theorem r_num3 (t:BA) (hs:t.size≤3000000) (a:Nat):qFy t (a:Int)=some (match digR t a with
  | .bad c b=>.inl (0,⟨#[]⟩,c,(b:Int),[])
  | .ok b _=>.inr (b:Int)):=by
 unfold qFy;rw [r_dig t hs,obS];cases h:digR t a with
 | bad c b =>
  have:=qDk h;subst this;rfl
 | ok b x=>rfl
theorem r_num34 (t:BA) (hs:t.size≤3000000) {f a:Nat} (h1:f≤a) (h2:a≤t.size) :
  ((qFy t (a:Int)).bind fun o7=>(Sum.elim (fun (o7_0:Int × BA × Int × Int × (List Eng.Node)) =>
    some (o7_0.1,o7_0.2.1,o7_0.2.2.1,o7_0.2.2.2.1,o7_0.2.2.2.2)) (fun (o7_1:Int) =>
    (qFo t (f:Int) o7_1).bind fun o9 =>
    some (o7_1,o9.1,o9.2.1,o9.2.2.1,o9.2.2.2))) o7)=some (numG t f (digR t a)):=by
 rw [r_num3 t hs,obS];cases h:digR t a with
 | bad c b=>rfl
 | ok b x =>
  have:=qEb h2 h;simp only [Sum.elim_inr];rw [r_num4 t hs (by omega) this.2.1];rfl
theorem r_num2 (t:BA) (hs:t.size≤3000000) {f a:Nat} (h1:f≤a) (h2:a≤t.size):zco_p2 t (f:Int) (a:Int)=some (numG t f (powR t a)):=by
 unfold zco_p2 powR;have e1:(a:Int)+1=((a+1:Nat):Int):=by omega
 have e2:((a+1:Nat):Int)+1=((a+2:Nat):Int):=by omega
 have body:∀(h:0≤bAt t a),(gd (qAe ((a+1:Nat):Int)) <|
   (qDi t ((a+1:Nat):Int)).bind fun r5 =>
   bif decide (r5=(43:Int)) then (
    gd (qAe ((a+2:Nat):Int)) <|
    (qFy t ((a+2:Nat):Int)).bind fun o7=>(Sum.elim (fun (o7_0:Int × BA × Int × Int × (List Eng.Node)) =>
     some (o7_0.1,o7_0.2.1,o7_0.2.2.1,o7_0.2.2.2.1,o7_0.2.2.2.2)) (fun (o7_1:Int) =>
     (qFo t (f:Int) o7_1).bind fun o9 =>
     some (o7_1,o9.1,o9.2.1,o9.2.2.1,o9.2.2.2))) o7)
   else (
    (qDi t ((a+1:Nat):Int)).bind fun r10 =>
    bif decide (r10=(45:Int)) then (
     gd (qAe ((a+2:Nat):Int)) <|
     (qFy t ((a+2:Nat):Int)).bind fun o11=>(Sum.elim (fun (o11_0:Int × BA × Int × Int × (List Eng.Node)) =>
      some (o11_0.1,o11_0.2.1,o11_0.2.2.1,o11_0.2.2.2.1,o11_0.2.2.2.2)) (fun (o11_1:Int) =>
      (qFo t (f:Int) o11_1).bind fun o12 =>
      some (o11_1,o12.1,o12.2.1,o12.2.2.1,o12.2.2.2))) o11)
    else (
     (qFy t ((a+1:Nat):Int)).bind fun o13=>(Sum.elim (fun (o13_0:Int × BA × Int × Int × (List Eng.Node)) =>
      some (o13_0.1,o13_0.2.1,o13_0.2.2.1,o13_0.2.2.2.1,o13_0.2.2.2.2)) (fun (o13_1:Int) =>
      (qFo t (f:Int) o13_1).bind fun o14 =>
      some (o13_1,o14.1,o14.2.1,o14.2.2.1,o14.2.2.2))) o13)))=some (numG t f (digR t (if bAt t (a+1:Nat)=43∨bAt t (a+1:Nat)=45 then a+2 else a+1))):=by
  intro h;have ha:=qA7 h;rw [qAa (by unfold qAe; omega),r_at,obS];by_cases h3:bAt t (a+1:Nat)=43
  ·have hb:=qA7 (t:=t) (a:=a+1) (by omega);rw [deT h3,cnT,if_pos (.inl h3),qAa (by unfold qAe; omega)];exact r_num34 t hs (by omega) (by omega)
  ·rw [deF h3,cnF,obS];by_cases h4:bAt t (a+1:Nat)=45
   ·have hb:=qA7 (t:=t) (a:=a+1) (by omega);rw [deT h4,cnT,if_pos (.inr h4),qAa (by unfold qAe; omega)];exact r_num34 t hs (by omega) (by omega)
   ·rw [deF h4,cnF,if_neg (by omega)];exact r_num34 t hs (by omega) (by omega)
 rw [r_at,obS,e1,e2];by_cases h3:bAt t a=101
 ·rw [deT h3,cnT,if_pos (.inl h3)];exact body (by omega)
 ·rw [deF h3,cnF,obS];by_cases h4:bAt t a=69
  ·rw [deT h4,cnT,if_pos (.inr h4)];exact body (by omega)
  ·rw [deF h4,cnF,if_neg (by omega),r_num4 t hs h1 h2];rfl
theorem r_num1 (t:BA) (hs:t.size≤3000000) {f a:Nat} (h1:f≤a) (h2:a≤t.size):zco_p1 t (f:Int) (a:Int)=some (numG t f (match dotR t a with
  | .bad c b=>.bad c b
  | .ok b _=>powR t b)):=by
 unfold zco_p1 dotR;rw [r_at,obS,show (a:Int)+1=((a+1:Nat):Int) by omega];by_cases h3:bAt t a=46
 ·have hb:=qA7 (t:=t) (a:=a) (by omega);rw [deT h3,cnT,if_pos h3,qAa (by unfold qAe; omega),r_dig t hs,obS];cases h:digR t (a+1) with
  | bad c b =>
   have:=qDk h;subst this;rfl
  | ok b x =>
   have:=qEb (by omega) h;show (bif (!decide ((0:Int)=0)) then _ else _)=_;rw [deT rfl,Bool.not_true,cnF];show ((zco_p2 t (f:Int) (b:Int)).bind _)=_;rw [r_num2 t hs (by omega) this.2.1];rfl
 ·rw [deF h3,cnF,if_neg h3,r_num2 t hs h1 h2];rfl
theorem r_num0 (t:BA) (hs:t.size≤3000000) {f a:Nat} (h1:f≤a) (h2:a≤t.size):zco_p0 t (f:Int) (a:Int)=some (numG t f (match zeroR t a with
  | .bad c b=>.bad c b
  | .ok b _=>match dotR t b with
   | .bad c b=>.bad c b
   | .ok b _=>powR t b)):=by
 unfold zco_p0 zeroR;rw [r_at,obS,show (a:Int)+1=((a+1:Nat):Int) by omega];by_cases h3:bAt t a=48
 ·have hb:=qA7 (t:=t) (a:=a) (by omega);rw [deT h3,cnT,if_pos h3,qAa (by unfold qAe; omega),r_num1 t hs (by omega) (by omega)];rfl
 ·rw [deF h3,cnF,if_neg h3,r_dig t hs,obS];cases h:digR t a with
  | bad c b =>
   have:=qDk h;subst this;rfl
  | ok b x =>
   have:=qEb (by omega) h;show (bif (!decide ((0:Int)=0)) then _ else _)=_;rw [deT rfl,Bool.not_true,cnF];show ((zco_p1 t (f:Int) (b:Int)).bind _)=_;rw [r_num1 t hs (by omega) this.2.1];rfl
noncomputable def numG' (t:BA) (f:Nat) (r:Rd Unit):qG0:=match r with
 | .bad c b=>badG c b
 | .ok b _=>⟨(b:Int),[nd0 4 (t.extract f b) (qC3 (t.extract f b)).2 (qC3 (t.extract f b)).1 0],⟨#[]⟩,0,0⟩
theorem r_num (t:BA) (hs:t.size≤3000000) {a:Nat} (ha:a<t.size):zco_s t (a:Int)=some (numG' t a (numR t a)):=by
 unfold zco_s numR signS;rw [qAa (by omega),show (a:Int)+1=((a+1:Nat):Int) by omega];have key:∀r:Rd Unit,(⟨(numG t a r).1,(numG t a r).2.2.2.2,(numG t a r).2.1,(numG t a r).2.2.1,(numG t a r).2.2.2.1⟩:qG0)=numG' t a r:=fun r=>by cases r <;> rfl
 by_cases h3:bAt t a=45
 ·rw [deT h3,cnT,if_pos h3,qAa (by unfold qAe; omega),r_num0 t hs (by omega) (by omega),obS,key] <;> rfl
 ·rw [deF h3,cnF,if_neg h3,r_num0 t hs (by omega) (by omega),obS,key] <;> rfl
theorem bytesL_cons {s:BA} {i:Nat} (h:i<s.size):(qBb s).drop i=bAt s i::(qBb s).drop (i+1):=by
 have hl:i<(qBb s).length:=by simp only [qBb,List.length_map,Array.length_toList]; exact h
 rw [List.drop_eq_getElem_cons hl];congr 1
 rw [bAt_in h];simp only [qBb,List.getElem_map];rfl
theorem r_lit0 (t:BA) (hs:t.size≤3000000) (w:BA) (hw:w.size≤10) (a:Nat) (ha:a≤3000000):∀(j i:Nat),i+j=w.size→zcn_p0 t (a:Int) w (i:Int)=some (match litR t ((qBb w).drop i) (a+i) with
  | .bad c b=>.inl (0,⟨#[]⟩,c,(b:Int),[])
  | .ok _ _=>.inr ())
 | 0,i,h=>by
  rw [List.drop_eq_nil_of_le (by simp only [qBb,List.length_map,Array.length_toList]; show w.size≤i; omega)];unfold zcn_p0;refine qAh ?_;unfold qD3;rw [deF (by omega),cnF];rfl
 | j+1,i,h=>by
  have hb:=qCy w i;rw [bytesL_cons (by omega)];unfold litR;have hst:qD3 t (a:Int) w (i:Int)=some (if bAt t (a+i:Nat)=bAt w i then .inl ((i+1:Nat):Int) else .inr (.inl (0,⟨#[]⟩,31,((a+i:Nat):Int),[]))):=by
   unfold qD3;rw [deT (by omega),cnT,qAa (by unfold qAe; omega),qAa (by omega),qAa (by unfold qAe; omega),show (a:Int)+(i:Int)=((a+i:Nat):Int) by omega,r_at,obS];by_cases h2:bAt t (a+i:Nat)=bAt w i
   ·rw [deT h2,Bool.not_true,cnF,if_pos h2,qAa (by unfold qAe; omega)];rfl
   ·rw [deF h2,Bool.not_false,cnT,if_neg h2,qAa (by unfold qAe; omega)];rfl
  by_cases h2:bAt t (a+i:Nat)=bAt w i
  ·rw [if_pos h2] at hst ⊢;have:=r_lit0 t hs w hw a ha j (i+1) (by omega);unfold zcn_p0 at this ⊢;rw [qAs hst,this];rfl
  ·rw [if_neg h2] at hst ⊢;unfold zcn_p0;rw [qAh hst]
theorem litR_code {t:BA}:∀ {w:List Int} {a b:Nat} {c:Int},litR t w a=.bad c b→c=31
 | [],_,_,_,h=>by cases h
 | _::w,a,b,c,h=>by
  unfold litR at h;split at h
  ·exact litR_code h
  ·cases h; rfl
def litG (k:Int) (r:Rd Unit):qG0:=match r with
 | .bad c b=>badG c b
 | .ok b _=>⟨(b:Int),[nd0 k ⟨#[]⟩ false 0 0],⟨#[]⟩,0,0⟩
theorem r_lit (t:BA) (hs:t.size≤3000000) (w:BA) (hw:w.size≤10) (a:Nat) (ha:a≤3000000) (k:Int):zcn_s t (a:Int) w k=some (litG k (litR t (qBb w) a)):=by
 unfold zcn_s;have:=r_lit0 t hs w hw a ha w.size 0 (by omega);rw [show ((0:Nat):Int)=0 from rfl,List.drop_zero,Nat.add_zero] at this;rw [this,obS];cases h:litR t (qBb w) a with
 | bad c b=>rfl
 | ok b x =>
  have h2:=(litR_adv (fun c hc=>(bytesL_range' w c hc).1) h).1;have h3:(qBb w).length=w.size:=by simp [qBb]
  simp only [Sum.elim_inr];rw [qAa (by unfold qAe; omega)];show some _=some (⟨(b:Int),_,_,_,_⟩:qG0);rw [show (b:Int)=(a:Int)+(w.size:Int) by omega];rfl
end Go.Proofs.YtnifdcmeffnpaaaGreatDoor
