/-
  Texts of a claim.
-/
import Derived.Lib.Bytealg
import Derived.Test.YtpobbbpphnnnhaaGreatDoorEngN
namespace Go.Proofs.YtpobbbpphnnnhaaGreatDoor
open Go.Eng
set_option linter.unusedVariables false
set_option linter.unusedSimpArgs false
theorem bAt_in {s:BA} {k:Nat} (h:k<s.size):bAt s k=(s[k].toNat:Int):=by
 simp [bAt,h]
theorem qCv (s:BA) (i:Int) : -1≤bAt s i∧bAt s i≤255:=by
 unfold bAt;split
 ·split
  ·rename_i b _;have:=b.toNat_lt;omega
  ·omega
 ·omega
theorem qCx {s:BA} {i:Int} (h:0≤bAt s i):0≤i∧i<s.size:=by
 unfold bAt at h;split at h
 ·split at h
  ·rename_i h0 b hb;have:i.toNat<s.size:=by
    rcases Nat.lt_or_ge i.toNat s.size with h' | h'
    ·exact h'
    ·rw [getElem?_neg s i.toNat (Nat.not_lt.2 h')] at hb;cases hb
   omega
  ·omega
 ·omega
theorem qBm {s:BA} {i:Int} (h:¬i<s.size):bAt s i = -1:=by
 have:=(qCv s i).1;rcases Int.lt_or_le (bAt s i) 0 with h' | h'
 ·omega
 ·exact (h (qCx h').2).elim
theorem bAt_nn {s:BA} {i:Int} (h0:0≤i) (h:i<s.size):0≤bAt s i:=by
 have h1:i.toNat<s.size:=by omega
 have:=bAt_in h1;rw [Int.toNat_of_nonneg h0] at this;rw [this];omega
def digS (s:BA) (i:Int):Bool:=decide (48≤bAt s i) && decide (bAt s i≤57)
theorem digS_lt {s:BA} {i:Int} (h:digS s i=true):i<s.size:=by simp only [digS,Bool.and_eq_true,decide_eq_true_eq] at h; exact (qCx (by omega)).2
def manyN (s:BA):Nat→Nat→Nat
 | 0,i=>i
 | n+1,i=>if digS s (i:Int)=true then manyN s n (i+1) else i
@[irreducible] def qD9 (s:BA) (i:Nat):Nat:=manyN s (s.size - i) i
theorem qG9 {s:BA} {i:Nat} (h:digS s i=true):qD9 s i=qD9 s (i+1):=by
 have:=digS_lt h;unfold qD9;rw [show s.size - i=(s.size - (i+1))+1 by omega];show (if digS s (i:Int)=true then _ else _)=_;rw [if_pos h]
theorem manyS_no {s:BA} {i:Nat} (h:digS s i=false):qD9 s i=i:=by
 unfold qD9;cases s.size - i with
 | zero=>rfl
 | succ n =>
  show (if digS s (i:Int)=true then _ else _)=_;rw [if_neg (by rw [h]; decide)]
theorem manyS_ge (s:BA) (k:Nat):k≤qD9 s k:=by
 by_cases h:digS s k=true
 ·rw [qG9 h];have:=manyS_ge s (k+1);omega
 ·rw [manyS_no (by simpa using h)];exact Nat.le_refl _
termination_by s.size - k
decreasing_by have:=digS_lt h; omega
theorem manyS_le (s:BA) (k:Nat) (hk:k≤s.size):qD9 s k≤s.size:=by
 by_cases h:digS s k=true
 ·rw [qG9 h];exact manyS_le s (k+1) (by have:=digS_lt h; omega)
 ·rw [manyS_no (by simpa using h)];exact hk
termination_by s.size - k
decreasing_by have:=digS_lt h; omega
theorem qA8 (s:BA) (a b:Nat) (i:Int) (h0:0≤i) (hb:a+i<b):bAt (s.extract a b) i=bAt s (a+i):=by
 by_cases h:a+i<s.size
 ·have h1:i.toNat<(s.extract a b).size:=by rw [ByteArray.size_extract]; omega
  have h2:a+i.toNat<s.size:=by omega
  have e1:=bAt_in h1;have e2:=bAt_in h2;rw [Int.toNat_of_nonneg h0] at e1;rw [show ((a+i.toNat:Nat):Int)=a+i by omega] at e2;rw [e1,e2,ByteArray.getElem_extract]
 ·rw [qBm h,qBm];rw [ByteArray.size_extract];omega
theorem bAt_tail (s:BA) (a:Nat) (i:Int) (h0:0≤i):bAt (s.extract a s.size) i=bAt s (a+i):=by
 by_cases h:a+i<s.size
 ·exact qA8 s a s.size i h0 (by omega)
 ·rw [qBm h,qBm];rw [ByteArray.size_extract];omega
theorem qCo (s:BA) (a:Nat):(s.extract a s.size).size=s.size - a:=by rw [ByteArray.size_extract]; omega
theorem qHf (s:BA) (a b:Nat):(s.extract a s.size).extract b (s.extract a s.size).size=s.extract (a+b) s.size:=by
 rw [ByteArray.extract_extract,qCo];by_cases h:a≤s.size
 ·congr 1; omega
 ·have h1:s.extract (a+b) (min (a+(s.size - a)) s.size)=ByteArray.empty:=ByteArray.extract_eq_empty_iff.2 (by omega);have h2:s.extract (a+b) s.size=ByteArray.empty:=ByteArray.extract_eq_empty_iff.2 (by omega);rw [h1,h2]
theorem head_tail (s:BA) (a n:Nat):(s.extract a s.size).extract 0 n=s.extract a (min (a+n) s.size):=by
 rw [ByteArray.extract_extract,Nat.add_zero]
theorem all_of (s:BA):s.extract 0 s.size=s:=by simp
theorem eq_none {s:BA}:s=⟨#[]⟩↔s.size=0:=by
 constructor
 ·intro h; rw [h]; rfl
 ·intro h;have:=all_of s;rw [←this];have h2:s.extract 0 s.size=ByteArray.empty:=ByteArray.extract_eq_empty_iff.2 (by omega);rw [h2]; rfl
theorem ext_bAt {s t:BA} (hz:s.size=t.size) (h:∀i:Nat,i<s.size→bAt s i=bAt t i):s=t :=
 ByteArray.ext_getElem hz fun i h1 h2=>by
  have:=h i h1;rw [bAt_in h1,bAt_in h2] at this;exact UInt8.toNat_inj.1 (by omega)
def hasPre (s p:BA):Bool:=decide (p.size≤s.size) && decide (s.extract 0 p.size=p)
def cutPre (s p:BA):BA:=if hasPre s p=true then s.extract p.size s.size else s
theorem hasPre_one {s p:BA} (hp:p.size=1):hasPre s p=decide (bAt s 0=bAt p 0):=by
 have hn:0≤bAt p 0:=bAt_nn (by omega) (by omega);unfold hasPre;rw [hp];by_cases h:1≤s.size
 ·have hz:(s.extract 0 1).size=p.size:=by rw [ByteArray.size_extract]; omega
  simp only [h,decide_true,Bool.true_and];rw [decide_eq_decide];have hb:bAt (s.extract 0 1) 0=bAt s 0:=by rw [qA8 s 0 1 0 (by omega) (by omega)]; rfl
  constructor
  ·intro e; rw [←hb,e]
  ·intro e;refine ext_bAt hz fun i hi=>?_
   rw [hz,hp] at hi;obtain rfl:i=0:=by omega
   show bAt (s.extract 0 1) 0=bAt p 0;rw [hb,e]
 ·have:bAt s 0 = -1:=qBm (by omega);simp [h,this];omega
theorem hasPre_le {s p:BA} (h:hasPre s p=true):p.size≤s.size:=by
 simp only [hasPre,Bool.and_eq_true,decide_eq_true_eq] at h;exact h.1
def leadB (s:BA) (b:Int) (i:Nat):Nat:=if h:i<s.size∧bAt s i=b then leadB s b (i+1) else i
 termination_by s.size - i
 decreasing_by omega
theorem leadB_yes {s:BA} {b:Int} {i:Nat} (h:i<s.size∧bAt s i=b):leadB s b i=leadB s b (i+1):=by rw [leadB,dif_pos h]
theorem leadB_no {s:BA} {b:Int} {i:Nat} (h:¬(i<s.size∧bAt s i=b)):leadB s b i=i:=by rw [leadB,dif_neg h]
def trimL (s:BA) (b:Int):BA:=s.extract (leadB s b 0) s.size
def backB (s:BA) (b:Int):Nat→Nat
 | 0=>0
 | n+1=>if bAt s n=b then backB s b n else n+1
def trimR (s:BA) (b:Int):BA:=s.extract 0 (backB s b s.size)
end Go.Proofs.YtpobbbpphnnnhaaGreatDoor
namespace Go.Proofs.YtpobbbpphnnnhaaGreatDoor
open Go.Eng
set_option linter.unusedVariables false
def dV (s:BA) (i:Nat):Int:=(bAt s i - 48) % 256
def qB0 (s:BA) (a n:Nat):List Int:=(List.range n).map fun i=>dV s (a+i)
theorem dsFrom_length (s:BA) (a n:Nat):(qB0 s a n).length=n:=by simp [qB0]
theorem dsFrom_succ (s:BA) (a n:Nat):qB0 s a (n+1)=qB0 s a n++[dV s (a+n)]:=by simp [qB0,List.range_succ]
def lead (l:List Int):List Int:=l.dropWhile (· == 0)
theorem lead_snoc (l:List Int) (d:Int):lead (l++[d])=if d≠0∨0<(lead l).length then lead l++[d] else []:=by
 unfold lead;induction l with
 | nil =>
  by_cases h:d=0
  ·simp [h]
  ·have:(d == 0)=false:=by simpa using h
   simp [h,this]
 | cons x l ih =>
  by_cases h:x=0
  ·subst h;simpa using ih
  ·have hx:(x == 0)=false:=by simpa using h
   simp [hx]
theorem lead_le (l:List Int):(lead l).length≤l.length:=by
 unfold lead;exact (List.dropWhile_sublist _).length_le
def trail:List Int→List Int
 | []=>[]
 | x::l=>match trail l with
  | []=>if x=0 then [] else [x]
  | y::r=>x::y::r
theorem trail_snoc_zero (l:List Int):trail (l++[0])=trail l:=by
 induction l with
 | nil=>rfl
 | cons x l ih=>simp only [List.cons_append,trail,ih]
theorem trail_snoc (l:List Int) (d:Int) (h:d≠0):trail (l++[d])=l++[d]:=by
 induction l with
 | nil=>simp [trail,h]
 | cons x l ih =>
  simp only [List.cons_append,trail,ih];cases l <;> rfl
def atA (s:BA):Nat:=if bAt s 0=45 then 1 else 0
def atB (s:BA):Nat:=qD9 s (atA s)
def badA (s:BA):Bool:=decide (atB s=atA s) || (decide (bAt s (atA s)=48) && decide (atA s+1<atB s))
def dotS (s:BA):Bool:=decide (bAt s (atB s)=46)
def atK (s:BA):Nat:=qD9 s (atB s+1)
def atC (s:BA):Nat:=if dotS s=true then atK s else atB s
def allS (s:BA):BA:=if dotS s=true then s.extract (atA s) (atB s)++s.extract (atB s+1) (atK s) else s.extract (atA s) (atB s)
def expS (s:BA):Bool:=decide (bAt s (atC s)=101) || decide (bAt s (atC s)=69)
def sgnS (s:BA):Bool:=decide (bAt s (atC s+1)=43) || decide (bAt s (atC s+1)=45)
def atE (s:BA):Nat:=if sgnS s=true then atC s+2 else atC s+1
def atF (s:BA):Nat:=qD9 s (atE s)
def atG (s:BA):Nat:=if expS s=true then atF s else atC s
structure RNum where
 minus:Bool
 digits:List Int
 off:Int
 down:Bool
 exp:List Int
 plain:Bool
 text:BA
def qB1 (s:BA):Bool:=!badA s && !(dotS s && decide (atK s=atB s+1)) && !(expS s && decide (atF s=atE s)) && decide (atG s=s.size)
def readS (s:BA):RNum where
 minus:=decide (bAt s 0=45)
 digits:=trail (lead (qB0 (allS s) 0 (allS s).size))
 off:=(atB s:Int) - atA s - ((allS s).size - (lead (qB0 (allS s) 0 (allS s).size)).length)
 down:=expS s && decide (bAt s (atC s+1)=45)
 exp:=if expS s=true then lead (qB0 s (atE s) (atF s - atE s)) else []
 plain:=!dotS s && !expS s
 text:=s.extract (atA s) (atB s)
def qBc (s:BA):RNum :=
 if badA s=true then ⟨decide (bAt s 0=45),[],0,false,[],true,⟨#[]⟩⟩
 else if (dotS s && decide (atK s=atB s+1))=true then ⟨decide (bAt s 0=45),[],(atB s:Int) - atA s,false,[],false,s.extract (atA s) (atB s)⟩
 else if (expS s && decide (atF s=atE s))=true then ⟨decide (bAt s 0=45),[],(atB s:Int) - atA s,(readS s).down,[],false,s.extract (atA s) (atB s)⟩
 else if decide (atG s=s.size)=false then ⟨decide (bAt s 0=45),[],(atB s:Int) - atA s,(readS s).down,(readS s).exp,!dotS s && !expS s,s.extract (atA s) (atB s)⟩
 else readS s
theorem readAll_1 {s:BA} (h1:badA s=true):qBc s=⟨decide (bAt s 0=45),[],0,false,[],true,⟨#[]⟩⟩:=by simp [qBc,h1]
theorem readAll_2 {s:BA} (h1:badA s=false) (h2:(dotS s && decide (atK s=atB s+1))=true):qBc s=⟨decide (bAt s 0=45),[],(atB s:Int) - atA s,false,[],false,s.extract (atA s) (atB s)⟩:=by simp only [qBc,h1,h2]; rfl
theorem readAll_3 {s:BA} (h1:badA s=false) (h2:(dotS s && decide (atK s=atB s+1))=false) (h3:(expS s && decide (atF s=atE s))=true):qBc s=⟨decide (bAt s 0=45),[],(atB s:Int) - atA s,(readS s).down,[],false,s.extract (atA s) (atB s)⟩:=by simp only [qBc,h1,h2,h3]; rfl
theorem readAll_4 {s:BA} (h1:badA s=false) (h2:(dotS s && decide (atK s=atB s+1))=false) (h3:(expS s && decide (atF s=atE s))=false) (h4:decide (atG s=s.size)=false):qBc s=⟨decide (bAt s 0=45),[],(atB s:Int) - atA s,(readS s).down,(readS s).exp,!dotS s && !expS s,s.extract (atA s) (atB s)⟩:=by simp only [qBc,h1,h2,h3,h4]; rfl
theorem readAll_ok {s:BA} (h:qB1 s=true):qBc s=readS s:=by
 unfold qB1 at h;simp only [Bool.and_eq_true,Bool.not_eq_true'] at h;obtain ⟨⟨⟨h1,h2⟩,h3⟩,h4⟩:=h;simp [qBc,h1,h2,h3,h4]
theorem atA_le (s:BA):atA s≤s.size:=by
 unfold atA;split
 ·have:=qCx (s:=s) (i:=0) (by omega);omega
 ·omega
theorem atB_le (s:BA):atB s≤s.size:=manyS_le s _ (atA_le s)
theorem atA_le_atB (s:BA):atA s≤atB s:=manyS_ge s _
theorem atB_lt {s:BA} (h:dotS s=true):atB s<s.size:=by
 unfold dotS at h;have h1:=of_decide_eq_true h;have:=qCx (s:=s) (i:=atB s) (by omega);omega
theorem atK_le {s:BA} (h:dotS s=true):atK s≤s.size:=manyS_le s _ (atB_lt h)
theorem atK_ge (s:BA):atB s+1≤atK s:=manyS_ge s _
theorem atC_le (s:BA):atC s≤s.size:=by
 unfold atC;split
 ·exact atK_le (by assumption)
 ·exact atB_le s
theorem atC_lt {s:BA} (h:expS s=true):atC s<s.size:=by
 unfold expS at h;simp only [Bool.or_eq_true,decide_eq_true_eq] at h;have:=qCx (s:=s) (i:=atC s) (by omega);omega
theorem sgn_lt {s:BA} (h:sgnS s=true):atC s+1<s.size:=by
 unfold sgnS at h;simp only [Bool.or_eq_true,decide_eq_true_eq] at h;have:=qCx (s:=s) (i:=(atC s:Int)+1) (by omega);omega
theorem atE_le {s:BA} (h:expS s=true):atE s≤s.size:=by
 have h1:=atC_lt h;unfold atE;split
 ·have:=sgn_lt (s:=s) (by assumption); omega
 ·omega
theorem atF_le {s:BA} (h:expS s=true):atF s≤s.size:=manyS_le s _ (atE_le h)
theorem atF_ge (s:BA):atE s≤atF s:=manyS_ge s _
end Go.Proofs.YtpobbbpphnnnhaaGreatDoor
namespace Go.Proofs.YtpobbbpphnnnhaaGreatDoor
open Go.Eng
set_option linter.unusedVariables false
set_option linter.unusedSimpArgs false
theorem digS_tail (s:BA) (a:Nat) (i:Int) (h0:0≤i):digS (s.extract a s.size) i=digS s (a+i):=by
 unfold digS;rw [bAt_tail s a i h0]
theorem manyS_tail (s:BA) (a:Nat) (i:Nat):a+qD9 (s.extract a s.size) i=qD9 s (a+i):=by
 have e:=digS_tail s a i (by omega);by_cases h:digS (s.extract a s.size) i=true
 ·have h':digS s ((a+i:Nat):Int)=true:=by rw [←h,e]; congr 1
  rw [qG9 h,qG9 h',show a+i+1=a+(i+1) by omega];exact manyS_tail s a (i+1)
 ·have h1:digS (s.extract a s.size) i=false:=by simpa using h
  have h':digS s ((a+i:Nat):Int)=false:=by rw [←h1,e]; congr 1
  rw [manyS_no h1,manyS_no h']
termination_by s.size - i
decreasing_by
 have:=digS_lt h;rw [qCo] at this;omega
def runS (s:BA):Nat:=qD9 s 0
theorem runS_tail (s:BA) (a:Nat):runS (s.extract a s.size)=qD9 s a - a:=by
 have:=manyS_tail s a 0;unfold runS;simp only [Nat.add_zero] at this;omega
theorem tail_none (s:BA) (a:Nat):s.extract a s.size=⟨#[]⟩↔s.size≤a:=by
 rw [eq_none,qCo];omega
structure PNum where
 minus:Bool
 int:BA
 digits:BA
 off:Int
 plain:Bool
 down:Bool
 exp:BA
def fracS (s:BA):BA:=if dotS s=true then s.extract (atB s+1) (atK s) else ⟨#[]⟩
def expT (s:BA):BA:=s.extract (atE s) s.size
def progS (s:BA):PNum where
 minus:=decide (bAt s 0=45)
 int:=s.extract (atA s) (atB s)
 digits:=trimR (trimL (s.extract (atA s) (atB s)++fracS s) 48) 48
 off:=((s.extract (atA s) (atB s)).size:Int) - ((s.extract (atA s) (atB s)++fracS s).size - (trimL (s.extract (atA s) (atB s)++fracS s) 48).size)
 plain:=!dotS s && !expS s
 down:=expS s && decide (bAt s (atC s+1)=45) && !decide (trimL (expT s) 48=⟨#[]⟩)
 exp:=if expS s=true then trimL (expT s) 48 else ⟨#[]⟩
def badE (s:BA):Bool:=expS s && (decide (s.size≤atE s) || decide (atF s≠s.size))
def progOk (s:BA):Bool:=!badA s && !(dotS s && decide (atK s=atB s+1)) && !badE s && (expS s || decide (s.size≤atC s))
theorem progOk_eq (s:BA):progOk s=qB1 s:=by
 unfold progOk qB1;cases badA s
 ·cases hd:(dotS s && decide (atK s=atB s+1))
  ·simp only [Bool.not_false,Bool.true_and];cases he:expS s
   ·have h1:=atC_le s;simp only [badE,he,Bool.false_and,Bool.not_false,Bool.true_and,Bool.false_or,atG,Bool.false_eq_true,if_false];rw [decide_eq_decide];omega
   ·have h1:=atE_le he;have h2:=atF_le he;have h3:=atF_ge s;simp only [badE,he,Bool.true_and,Bool.true_or,Bool.and_true,atG,if_true];by_cases hf:atF s=s.size
    ·by_cases hz:s.size≤atE s
     ·have:atF s=atE s:=by omega
      simp [this];omega
     ·have:¬atF s=atE s:=by omega
      simp [hf,hz];omega
    ·simp [hf]
  ·simp
 ·simp
def qGw (s:BA):PNum :=
 if badA s=true then ⟨decide (bAt s 0=45),⟨#[]⟩,⟨#[]⟩,0,true,false,⟨#[]⟩⟩
 else if (dotS s && decide (atK s=atB s+1))=true then ⟨decide (bAt s 0=45),s.extract (atA s) (atB s),⟨#[]⟩,0,true,false,⟨#[]⟩⟩
 else if badE s=true then ⟨decide (bAt s 0=45),s.extract (atA s) (atB s),⟨#[]⟩,0,!dotS s,expS s && decide (bAt s (atC s+1)=45),⟨#[]⟩⟩
 else progS s
theorem progAll_1 {s:BA} (h1:badA s=true):qGw s=⟨decide (bAt s 0=45),⟨#[]⟩,⟨#[]⟩,0,true,false,⟨#[]⟩⟩:=by simp [qGw,h1]
theorem progAll_2 {s:BA} (h1:badA s=false) (h2:(dotS s && decide (atK s=atB s+1))=true):qGw s=⟨decide (bAt s 0=45),s.extract (atA s) (atB s),⟨#[]⟩,0,true,false,⟨#[]⟩⟩:=by simp only [qGw,h1,h2]; rfl
theorem progAll_3 {s:BA} (h1:badA s=false) (h2:(dotS s && decide (atK s=atB s+1))=false) (h3:badE s=true):qGw s=⟨decide (bAt s 0=45),s.extract (atA s) (atB s),⟨#[]⟩,0,!dotS s,expS s && decide (bAt s (atC s+1)=45),⟨#[]⟩⟩:=by simp only [qGw,h1,h2,h3]; rfl
theorem progAll_4 {s:BA} (h1:badA s=false) (h2:(dotS s && decide (atK s=atB s+1))=false) (h3:badE s=false):qGw s=progS s:=by simp only [qGw,h1,h2,h3]; rfl
end Go.Proofs.YtpobbbpphnnnhaaGreatDoor
namespace Go.Proofs.YtpobbbpphnnnhaaGreatDoor
open Go.Eng
set_option linter.unusedVariables false
set_option linter.unusedSimpArgs false
end Go.Proofs.YtpobbbpphnnnhaaGreatDoor
namespace Go.Proofs.YtpobbbpphnnnhaaGreatDoor
open Go.Eng
set_option linter.unusedVariables false
set_option linter.unusedSimpArgs false
def dvB (x:UInt8):Int:=((x.toNat:Int) - 48) % 256
def dl (b:BA):List Int:=b.data.toList.map dvB
end Go.Proofs.YtpobbbpphnnnhaaGreatDoor
