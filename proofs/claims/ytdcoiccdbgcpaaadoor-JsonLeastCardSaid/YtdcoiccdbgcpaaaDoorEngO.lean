/-
  Nil slices handed to a callee count as rows without elements; a block's pointer to itself, or nil, as one. No program.
-/
import Derived.Lib.Bytealg
import Derived.Test.YtdcoiccdbgcpaaaDoorEngN
namespace Go.Proofs.YtdcoiccdbgcpaaaDoor
open Go.Eng
set_option linter.unusedVariables false
set_option linter.unusedSimpArgs false
theorem bAt_in {s:BA} {k:Nat} (h:k<s.size):bAt s k=(s[k].toNat:Int):=by
 simp [bAt,h]
theorem qF0 (s:BA) (i:Int) : -1≤bAt s i∧bAt s i≤255:=by
 unfold bAt;split
 ·split
  ·rename_i b _;have:=b.toNat_lt;omega
  ·omega
 ·omega
theorem qEr {s:BA} {i:Int} (h:0≤bAt s i):0≤i∧i<s.size:=by
 unfold bAt at h;split at h
 ·split at h
  ·rename_i h0 b hb;have:i.toNat<s.size:=by
    rcases Nat.lt_or_ge i.toNat s.size with h' | h'
    ·exact h'
    ·rw [getElem?_neg s i.toNat (Nat.not_lt.2 h')] at hb;cases hb
   omega
  ·omega
 ·omega
theorem qB0 {s:BA} {i:Int} (h:¬i<s.size):bAt s i = -1:=by
 have:=(qF0 s i).1;rcases Int.lt_or_le (bAt s i) 0 with h' | h'
 ·omega
 ·exact (h (qEr h').2).elim
theorem bAt_nn {s:BA} {i:Int} (h0:0≤i) (h:i<s.size):0≤bAt s i:=by
 have h1:i.toNat<s.size:=by omega
 have:=bAt_in h1;rw [Int.toNat_of_nonneg h0] at this;rw [this];omega
def digS (s:BA) (i:Int):Bool:=decide (48≤bAt s i) && decide (bAt s i≤57)
theorem digS_lt {s:BA} {i:Int} (h:digS s i=true):i<s.size:=by simp only [digS,Bool.and_eq_true,decide_eq_true_eq] at h; exact (qEr (by omega)).2
def manyN (s:BA):Nat→Nat→Nat
 | 0,i=>i
 | n+1,i=>if digS s (i:Int)=true then manyN s n (i+1) else i
@[irreducible] def qDn (s:BA) (i:Nat):Nat:=manyN s (s.size - i) i
theorem qCv {s:BA} {i:Nat} (h:digS s i=true):qDn s i=qDn s (i+1):=by
 have:=digS_lt h;unfold qDn;rw [show s.size - i=(s.size - (i+1))+1 by omega];show (if digS s (i:Int)=true then _ else _)=_;rw [if_pos h]
theorem qDa {s:BA} {i:Nat} (h:digS s i=false):qDn s i=i:=by
 unfold qDn;cases s.size - i with
 | zero=>rfl
 | succ n =>
  show (if digS s (i:Int)=true then _ else _)=_;rw [if_neg (by rw [h]; decide)]
theorem qDd (s:BA) (k:Nat):k≤qDn s k:=by
 by_cases h:digS s k=true
 ·rw [qCv h];have:=qDd s (k+1);omega
 ·rw [qDa (by simpa using h)];exact Nat.le_refl _
termination_by s.size - k
decreasing_by have:=digS_lt h; omega
theorem manyS_le (s:BA) (k:Nat) (hk:k≤s.size):qDn s k≤s.size:=by
 by_cases h:digS s k=true
 ·rw [qCv h];exact manyS_le s (k+1) (by have:=digS_lt h; omega)
 ·rw [qDa (by simpa using h)];exact hk
termination_by s.size - k
decreasing_by have:=digS_lt h; omega
theorem qDh (s:BA) (a b:Nat) (i:Int) (h0:0≤i) (hb:a+i<b):bAt (s.extract a b) i=bAt s (a+i):=by
 by_cases h:a+i<s.size
 ·have h1:i.toNat<(s.extract a b).size:=by rw [ByteArray.size_extract]; omega
  have h2:a+i.toNat<s.size:=by omega
  have e1:=bAt_in h1;have e2:=bAt_in h2;rw [Int.toNat_of_nonneg h0] at e1;rw [show ((a+i.toNat:Nat):Int)=a+i by omega] at e2;rw [e1,e2,ByteArray.getElem_extract]
 ·rw [qB0 h,qB0];rw [ByteArray.size_extract];omega
theorem bAt_tail (s:BA) (a:Nat) (i:Int) (h0:0≤i):bAt (s.extract a s.size) i=bAt s (a+i):=by
 by_cases h:a+i<s.size
 ·exact qDh s a s.size i h0 (by omega)
 ·rw [qB0 h,qB0];rw [ByteArray.size_extract];omega
theorem qCm (s:BA) (a:Nat):(s.extract a s.size).size=s.size - a:=by rw [ByteArray.size_extract]; omega
theorem qGx (s:BA) (a b:Nat):(s.extract a s.size).extract b (s.extract a s.size).size=s.extract (a+b) s.size:=by
 rw [ByteArray.extract_extract,qCm];by_cases h:a≤s.size
 ·congr 1; omega
 ·have h1:s.extract (a+b) (min (a+(s.size - a)) s.size)=ByteArray.empty:=ByteArray.extract_eq_empty_iff.2 (by omega);have h2:s.extract (a+b) s.size=ByteArray.empty:=ByteArray.extract_eq_empty_iff.2 (by omega);rw [h1,h2]
theorem head_tail (s:BA) (a n:Nat):(s.extract a s.size).extract 0 n=s.extract a (min (a+n) s.size):=by
 rw [ByteArray.extract_extract,Nat.add_zero]
theorem all_of (s:BA):s.extract 0 s.size=s:=by simp
theorem eq_none {s:BA}:s=⟨#[]⟩↔s.size=0:=by
 constructor
 ·intro h; rw [h]; rfl
 ·intro h;have:=all_of s;rw [←this];have h2:s.extract 0 s.size=ByteArray.empty:=ByteArray.extract_eq_empty_iff.2 (by omega);rw [h2]; rfl
theorem ext_bAt {s t:BA} (hz:s.size=t.size) (h:∀i:Nat,i<s.size→bAt s i=bAt t i):s=t :=
 ByteArray.ext_getElem hz fun i h1 h2=>by
  have:=h i h1;rw [bAt_in h1,bAt_in h2] at this;exact UInt8.toNat_inj.1 (by omega)
def hasPre (s p:BA):Bool:=decide (p.size≤s.size) && decide (s.extract 0 p.size=p)
def cutPre (s p:BA):BA:=if hasPre s p=true then s.extract p.size s.size else s
theorem hasPre_one {s p:BA} (hp:p.size=1):hasPre s p=decide (bAt s 0=bAt p 0):=by
 have hn:0≤bAt p 0:=bAt_nn (by omega) (by omega);unfold hasPre;rw [hp];by_cases h:1≤s.size
 ·have hz:(s.extract 0 1).size=p.size:=by rw [ByteArray.size_extract]; omega
  simp only [h,decide_true,Bool.true_and];rw [decide_eq_decide];have hb:bAt (s.extract 0 1) 0=bAt s 0:=by rw [qDh s 0 1 0 (by omega) (by omega)]; rfl
  constructor
  ·intro e; rw [←hb,e]
  ·intro e;refine ext_bAt hz fun i hi=>?_
   rw [hz,hp] at hi;obtain rfl:i=0:=by omega
   show bAt (s.extract 0 1) 0=bAt p 0;rw [hb,e]
 ·have:bAt s 0 = -1:=qB0 (by omega);simp [h,this];omega
theorem hasPre_le {s p:BA} (h:hasPre s p=true):p.size≤s.size:=by
 simp only [hasPre,Bool.and_eq_true,decide_eq_true_eq] at h;exact h.1
def leadB (s:BA) (b:Int) (i:Nat):Nat:=if h:i<s.size∧bAt s i=b then leadB s b (i+1) else i
 termination_by s.size - i
 decreasing_by omega
theorem leadB_yes {s:BA} {b:Int} {i:Nat} (h:i<s.size∧bAt s i=b):leadB s b i=leadB s b (i+1):=by rw [leadB,dif_pos h]
theorem leadB_no {s:BA} {b:Int} {i:Nat} (h:¬(i<s.size∧bAt s i=b)):leadB s b i=i:=by rw [leadB,dif_neg h]
def trimL (s:BA) (b:Int):BA:=s.extract (leadB s b 0) s.size
def backB (s:BA) (b:Int):Nat→Nat
 | 0=>0
 | n+1=>if bAt s n=b then backB s b n else n+1
def trimR (s:BA) (b:Int):BA:=s.extract 0 (backB s b s.size)
end Go.Proofs.YtdcoiccdbgcpaaaDoor
namespace Go.Proofs.YtdcoiccdbgcpaaaDoor
open Go.Eng
set_option linter.unusedVariables false
def dV (s:BA) (i:Nat):Int:=(bAt s i - 48) % 256
def dsFrom (s:BA) (a n:Nat):List Int:=(List.range n).map fun i=>dV s (a+i)
def lead (l:List Int):List Int:=l.dropWhile (· == 0)
def trail:List Int→List Int
 | []=>[]
 | x::l=>match trail l with
  | []=>if x=0 then [] else [x]
  | y::r=>x::y::r
def atA (s:BA):Nat:=if bAt s 0=45 then 1 else 0
def atB (s:BA):Nat:=qDn s (atA s)
def badA (s:BA):Bool:=decide (atB s=atA s) || (decide (bAt s (atA s)=48) && decide (atA s+1<atB s))
def dotS (s:BA):Bool:=decide (bAt s (atB s)=46)
def atK (s:BA):Nat:=qDn s (atB s+1)
def atC (s:BA):Nat:=if dotS s=true then atK s else atB s
def allS (s:BA):BA:=if dotS s=true then s.extract (atA s) (atB s)++s.extract (atB s+1) (atK s) else s.extract (atA s) (atB s)
def expS (s:BA):Bool:=decide (bAt s (atC s)=101) || decide (bAt s (atC s)=69)
def sgnS (s:BA):Bool:=decide (bAt s (atC s+1)=43) || decide (bAt s (atC s+1)=45)
def atE (s:BA):Nat:=if sgnS s=true then atC s+2 else atC s+1
def atF (s:BA):Nat:=qDn s (atE s)
def atG (s:BA):Nat:=if expS s=true then atF s else atC s
structure RNum where
 minus:Bool
 digits:List Int
 off:Int
 down:Bool
 exp:List Int
 plain:Bool
 text:BA
def qDl (s:BA):Bool:=!badA s && !(dotS s && decide (atK s=atB s+1)) && !(expS s && decide (atF s=atE s)) && decide (atG s=s.size)
def readS (s:BA):RNum where
 minus:=decide (bAt s 0=45)
 digits:=trail (lead (dsFrom (allS s) 0 (allS s).size))
 off:=(atB s:Int) - atA s - ((allS s).size - (lead (dsFrom (allS s) 0 (allS s).size)).length)
 down:=expS s && decide (bAt s (atC s+1)=45)
 exp:=if expS s=true then lead (dsFrom s (atE s) (atF s - atE s)) else []
 plain:=!dotS s && !expS s
 text:=s.extract (atA s) (atB s)
theorem atA_le (s:BA):atA s≤s.size:=by
 unfold atA;split
 ·have:=qEr (s:=s) (i:=0) (by omega);omega
 ·omega
theorem atB_le (s:BA):atB s≤s.size:=manyS_le s _ (atA_le s)
theorem atA_le_atB (s:BA):atA s≤atB s:=qDd s _
theorem atB_lt {s:BA} (h:dotS s=true):atB s<s.size:=by
 unfold dotS at h;have h1:=of_decide_eq_true h;have:=qEr (s:=s) (i:=atB s) (by omega);omega
theorem atK_le {s:BA} (h:dotS s=true):atK s≤s.size:=manyS_le s _ (atB_lt h)
theorem atK_ge (s:BA):atB s+1≤atK s:=qDd s _
theorem atC_le (s:BA):atC s≤s.size:=by
 unfold atC;split
 ·exact atK_le (by assumption)
 ·exact atB_le s
theorem atC_lt {s:BA} (h:expS s=true):atC s<s.size:=by
 unfold expS at h;simp only [Bool.or_eq_true,decide_eq_true_eq] at h;have:=qEr (s:=s) (i:=atC s) (by omega);omega
theorem sgn_lt {s:BA} (h:sgnS s=true):atC s+1<s.size:=by
 unfold sgnS at h;simp only [Bool.or_eq_true,decide_eq_true_eq] at h;have:=qEr (s:=s) (i:=(atC s:Int)+1) (by omega);omega
theorem atE_le {s:BA} (h:expS s=true):atE s≤s.size:=by
 have h1:=atC_lt h;unfold atE;split
 ·have:=sgn_lt (s:=s) (by assumption); omega
 ·omega
theorem atF_le {s:BA} (h:expS s=true):atF s≤s.size:=manyS_le s _ (atE_le h)
theorem atF_ge (s:BA):atE s≤atF s:=qDd s _
end Go.Proofs.YtdcoiccdbgcpaaaDoor
namespace Go.Proofs.YtdcoiccdbgcpaaaDoor
open Go.Eng
set_option linter.unusedVariables false
set_option linter.unusedSimpArgs false
theorem digS_tail (s:BA) (a:Nat) (i:Int) (h0:0≤i):digS (s.extract a s.size) i=digS s (a+i):=by
 unfold digS;rw [bAt_tail s a i h0]
theorem manyS_tail (s:BA) (a:Nat) (i:Nat):a+qDn (s.extract a s.size) i=qDn s (a+i):=by
 have e:=digS_tail s a i (by omega);by_cases h:digS (s.extract a s.size) i=true
 ·have h':digS s ((a+i:Nat):Int)=true:=by rw [←h,e]; congr 1
  rw [qCv h,qCv h',show a+i+1=a+(i+1) by omega];exact manyS_tail s a (i+1)
 ·have h1:digS (s.extract a s.size) i=false:=by simpa using h
  have h':digS s ((a+i:Nat):Int)=false:=by rw [←h1,e]; congr 1
  rw [qDa h1,qDa h']
termination_by s.size - i
decreasing_by
 have:=digS_lt h;rw [qCm] at this;omega
def runS (s:BA):Nat:=qDn s 0
theorem runS_tail (s:BA) (a:Nat):runS (s.extract a s.size)=qDn s a - a:=by
 have:=manyS_tail s a 0;unfold runS;simp only [Nat.add_zero] at this;omega
theorem tail_none (s:BA) (a:Nat):s.extract a s.size=⟨#[]⟩↔s.size≤a:=by
 rw [eq_none,qCm];omega
structure PNum where
 minus:Bool
 int:BA
 digits:BA
 off:Int
 plain:Bool
 down:Bool
 exp:BA
def fracS (s:BA):BA:=if dotS s=true then s.extract (atB s+1) (atK s) else ⟨#[]⟩
def expT (s:BA):BA:=s.extract (atE s) s.size
def qGu (s:BA):PNum where
 minus:=decide (bAt s 0=45)
 int:=s.extract (atA s) (atB s)
 digits:=trimR (trimL (s.extract (atA s) (atB s)++fracS s) 48) 48
 off:=((s.extract (atA s) (atB s)).size:Int) - ((s.extract (atA s) (atB s)++fracS s).size - (trimL (s.extract (atA s) (atB s)++fracS s) 48).size)
 plain:=!dotS s && !expS s
 down:=expS s && decide (bAt s (atC s+1)=45) && !decide (trimL (expT s) 48=⟨#[]⟩)
 exp:=if expS s=true then trimL (expT s) 48 else ⟨#[]⟩
def badE (s:BA):Bool:=expS s && (decide (s.size≤atE s) || decide (atF s≠s.size))
def progOk (s:BA):Bool:=!badA s && !(dotS s && decide (atK s=atB s+1)) && !badE s && (expS s || decide (s.size≤atC s))
theorem progOk_eq (s:BA):progOk s=qDl s:=by
 unfold progOk qDl;cases badA s
 ·cases hd:(dotS s && decide (atK s=atB s+1))
  ·simp only [Bool.not_false,Bool.true_and];cases he:expS s
   ·have h1:=atC_le s;simp only [badE,he,Bool.false_and,Bool.not_false,Bool.true_and,Bool.false_or,atG,Bool.false_eq_true,if_false];rw [decide_eq_decide];omega
   ·have h1:=atE_le he;have h2:=atF_le he;have h3:=atF_ge s;simp only [badE,he,Bool.true_and,Bool.true_or,Bool.and_true,atG,if_true];by_cases hf:atF s=s.size
    ·by_cases hz:s.size≤atE s
     ·have:atF s=atE s:=by omega
      simp [this];omega
     ·have:¬atF s=atE s:=by omega
      simp [hf,hz];omega
    ·simp [hf]
  ·simp
 ·simp
def qFj (s:BA):PNum :=
 if badA s=true then ⟨decide (bAt s 0=45),⟨#[]⟩,⟨#[]⟩,0,true,false,⟨#[]⟩⟩
 else if (dotS s && decide (atK s=atB s+1))=true then ⟨decide (bAt s 0=45),s.extract (atA s) (atB s),⟨#[]⟩,0,true,false,⟨#[]⟩⟩
 else if badE s=true then ⟨decide (bAt s 0=45),s.extract (atA s) (atB s),⟨#[]⟩,0,!dotS s,expS s && decide (bAt s (atC s+1)=45),⟨#[]⟩⟩
 else qGu s
theorem progAll_1 {s:BA} (h1:badA s=true):qFj s=⟨decide (bAt s 0=45),⟨#[]⟩,⟨#[]⟩,0,true,false,⟨#[]⟩⟩:=by simp [qFj,h1]
theorem progAll_2 {s:BA} (h1:badA s=false) (h2:(dotS s && decide (atK s=atB s+1))=true):qFj s=⟨decide (bAt s 0=45),s.extract (atA s) (atB s),⟨#[]⟩,0,true,false,⟨#[]⟩⟩:=by simp only [qFj,h1,h2]; rfl
theorem progAll_3 {s:BA} (h1:badA s=false) (h2:(dotS s && decide (atK s=atB s+1))=false) (h3:badE s=true):qFj s=⟨decide (bAt s 0=45),s.extract (atA s) (atB s),⟨#[]⟩,0,!dotS s,expS s && decide (bAt s (atC s+1)=45),⟨#[]⟩⟩:=by simp only [qFj,h1,h2,h3]; rfl
theorem progAll_4 {s:BA} (h1:badA s=false) (h2:(dotS s && decide (atK s=atB s+1))=false) (h3:badE s=false):qFj s=qGu s:=by simp only [qFj,h1,h2,h3]; rfl
theorem progAll_ok {s:BA} (h:qDl s=true):qFj s=qGu s:=by
 rw [←progOk_eq] at h;unfold progOk at h;simp only [Bool.and_eq_true,Bool.not_eq_true'] at h;obtain ⟨⟨⟨h1,h2⟩,h3⟩,h4⟩:=h;exact progAll_4 h1 h2 h3
end Go.Proofs.YtdcoiccdbgcpaaaDoor
namespace Go.Proofs.YtdcoiccdbgcpaaaDoor
open Go.Eng
set_option linter.unusedVariables false
set_option linter.unusedSimpArgs false
end Go.Proofs.YtdcoiccdbgcpaaaDoor
namespace Go.Proofs.YtdcoiccdbgcpaaaDoor
open Go.Eng
set_option linter.unusedVariables false
set_option linter.unusedSimpArgs false
def dvB (x:UInt8):Int:=((x.toNat:Int) - 48) % 256
def dl (b:BA):List Int:=b.data.toList.map dvB
theorem manyS_digS (s:BA) (k:Nat):∀i,k≤i→i<qDn s k→digS s i=true:=by
 intro i h1 h2;by_cases h:digS s k=true
 ·rcases Nat.eq_or_lt_of_le h1 with rfl | h3
  ·exact h
  ·rw [qCv h] at h2;exact manyS_digS s (k+1) i h3 h2
 ·rw [qDa (by simpa using h)] at h2;omega
termination_by s.size - k
decreasing_by have:=digS_lt h; omega
end Go.Proofs.YtdcoiccdbgcpaaaDoor
namespace Go.Eng
set_option linter.unusedVariables false
set_option linter.unusedSimpArgs false
def prep1 (i:Nat) (off:Option Nat) (w:Option (ET × Nat)) (args:List SV) (hp:List SB):Option (List SV × List SB) :=
 match args[i]?,off,w with
 | some (.c (.o (.hd h 0))),some k,w=>match hp[h]? with
  | some (.cells e' l)=>match l[k]? with
   | some x=>match w with
    | some (t,e)=>bif nilK t x then some (args,hp.set h (.cells e' (l.set k (nilH t hp.length)))++[nilSB t e]) else some (args,hp)
    | none=>(selfP h x).bind fun y=>some (args,hp.set h (.cells e' (l.set k y)))
   | none=>none
  | _=>none
 | some (.c (.o x)),none,some (t,e)=>bif nilK t x then some (args.set i (.c (.o (nilH t hp.length))),hp++[nilSB t e]) else some (args,hp)
 | some (.c (.agg l)),some k,some (t,e)=>match l[k]? with
  | some x=>bif nilK t x then some (args.set i (.c (.agg (l.set k (nilH t hp.length)))),hp++[nilSB t e]) else some (args,hp)
  | none=>none
 | _,_,_=>none
def prepA:List (Nat × Option Nat × Option (ET × Nat))→List SV→List SB→Option (List SV × List SB)
 | [],args,hp=>some (args,hp)
 | (i,off,w)::r,args,hp=>match prep1 i off w args hp with
  | some (args',hp')=>prepA r args' hp'
  | none=>none
def qCc (pre:List (Nat × Option Nat × Option (ET × Nat))):CQ→CQ
 | .quiet C=>.quiet fun args hp R k=>match prepA pre args hp with
  | some (args',hp')=>C args' hp' R k
  | none=>none
 | .loud C=>.loud fun args hp R k=>match prepA pre args hp with
  | some (args',hp')=>C args' hp' R k
  | none=>none
 | .any C=>.any fun args hp=>match prepA pre args hp with
  | some (args',hp')=>C args' hp'
  | none=>none
 | .inl C=>.inl C
def LtH (hp:List SB):Prop:=∀(h:Nat) (sb:SB),hp[h]?=some sb→sb.lt hp.length
def PrepOK (args:List SV) (hp:List SB) (args':List SV) (hp':List SB):Prop :=
 (∀v∈args',v.lt hp'.length)∧hp.length≤hp'.length∧∀(X:Nat→Prop) (w0 w:World) (ρ:Nat→Value),HpSat X w0 w ρ hp→∃ρ',(∀i<hp.length,ρ' i=ρ i)∧args'.map (SV.den ρ')=args.map (SV.den ρ)∧HpSat X w0 w ρ' hp'∧∀w1,HpSat X w0 w1 ρ' hp'→HpSat X w0 w1 ρ hp
theorem PrepOK.refl {args:List SV} {hp:List SB} (h:∀v∈args,v.lt hp.length):PrepOK args hp args hp :=
 ⟨h,Nat.le_refl _,fun X w0 w ρ hh=>⟨ρ,fun _ _=>rfl,rfl,hh,fun _ h=>h⟩⟩
theorem PrepOK.trans {a b c:List SV} {hp hp' hp'':List SB} (h:PrepOK a hp b hp') (h':PrepOK b hp' c hp''):PrepOK a hp c hp'':=by
 obtain ⟨_,h2,h3⟩:=h;obtain ⟨h4,h5,h6⟩:=h';refine ⟨h4,by omega,fun X w0 w ρ hh=>?_⟩;obtain ⟨ρ',a1,a2,a3,a4⟩:=h3 X w0 w ρ hh;obtain ⟨ρ'',b1,b2,b3,b4⟩:=h6 X w0 w ρ' a3;exact ⟨ρ'',fun i hi=>(b1 i (by omega)).trans (a1 i hi),b2.trans a2,b3,fun w1 h=>a4 w1 (b4 w1 h)⟩
theorem map_set_den {ρ ρ':Nat→Value} {args:List SV} {i n:Nat} {v u:SV} (hi:args[i]?=some v) (hd:u.den ρ'=v.den ρ) (hl:∀x∈args,x.lt n) (ha:∀j<n,ρ' j=ρ j):(args.set i u).map (SV.den ρ')=args.map (SV.den ρ):=by
 apply List.ext_getElem?;intro j;rw [List.getElem?_map,List.getElem?_map];by_cases hj:j=i
 ·subst hj;rw [List.getElem?_set_self (List.getElem?_eq_some_iff.1 hi).1,hi];simp only [Option.map_some,hd]
 ·rw [List.getElem?_set_ne (Ne.symm hj)];cases h:args[j]? with
  | none=>rfl
  | some y =>
   simp only [Option.map_some];rw [SV.den_congr ha (hl y (List.mem_of_getElem? h))]
theorem map_den_congr {ρ ρ':Nat→Value} {args:List SV} {n:Nat} (hl:∀x∈args,x.lt n) (ha:∀j<n,ρ' j=ρ j):args.map (SV.den ρ')=args.map (SV.den ρ) :=
 List.map_congr_left fun y hy=>SV.den_congr ha (hl y hy)
theorem prep1_ok {i:Nat} {off:Option Nat} {w:Option (ET × Nat)} {args args':List SV} {hp hp':List SB} (h:prep1 i off w args hp=some (args',hp')) (hl:∀v∈args,v.lt hp.length):PrepOK args hp args' hp':=by
 have stay:∀ {x:Option (List SV × List SB)},x=some (args,hp)→x=some (args',hp')→PrepOK args hp args' hp':=fun h1 h2=>by
  rw [h1] at h2;simp only [snJ,Prod.mk.injEq] at h2;obtain ⟨rfl,rfl⟩:=h2;exact .refl hl
 have lt1:∀v∈args,v.lt (hp.length+1):=fun v hv=>SV.lt_mono (Nat.le_succ _) (hl v hv)
 have back:∀(X:Nat→Prop) (w0 w1:World) (ρ:Nat→Value) (t:ET) (e:Nat),LtH hp→HpSat X w0 w1 (nilρT t hp.length ρ) (hp++[nilSB t e])→HpSat X w0 w1 ρ hp:=fun X w0 w1 ρ t e hlt hh =>
  hh.init hlt fun i hi=>qDw i hi
 unfold prep1 at h;split at h
 ·rename_i hh k hi;have hiL:=hl _ (List.mem_of_getElem? hi);split at h
  ·rename_i e' l hsb;split at h
   ·rename_i x hx;have hhl:=(List.getElem?_eq_some_iff.1 hsb).1;split at h
    ·rename_i t e;cases hn:nilK t x with
     | false=>rw [hn] at h; exact stay rfl h
     | true =>
      rw [hn] at h;simp only [cnT,snJ,Prod.mk.injEq] at h;obtain ⟨rfl,rfl⟩:=h;refine ⟨by simpa using lt1,by simp,fun X w0 w ρ hs=>?_⟩;have hlt:=hs.lt hh _ hsb;have hsb':(hp++[nilSB t e])[hh]?=some (.cells e' l):=by rw [List.getElem?_append_left hhl]; exact hsb
      have fwd:∀w1,HpSat X w0 w1 (nilρT t hp.length ρ) (hp++[nilSB t e])→HpSat X w0 w1 (nilρT t hp.length ρ) (hp.set hh (.cells e' (l.set k (nilH t hp.length)))++[nilSB t e]):=fun w1 h1=>by
       have:=qDj h1 hsb' (l':=l.set k (nilH t hp.length)) (by
        rw [qEt hx hn hlt];exact (List.map_congr_left fun y hy=>S0.den_congr qDw (hlt y hy)).symm) (by
        have:=set_nilT_lt (k:=k) (t:=t) hlt;simpa using this)
       rwa [List.set_append_left _ _ hhl] at this
      refine ⟨nilρT t hp.length ρ,qDw,map_den_congr hl qDw,fwd w (qHb hn hs e),fun w1 h1=>?_⟩;have h2:(hp.set hh (.cells e' (l.set k (nilH t hp.length)))++[nilSB t e])[hh]?=some (.cells e' (l.set k (nilH t hp.length))):=by
       rw [List.getElem?_append_left (by simpa using hhl),List.getElem?_set_self hhl]
      have h3:=qDj h1 h2 (l':=l) (by
       rw [qEt hx hn hlt];exact List.map_congr_left fun y hy=>S0.den_congr qDw (hlt y hy)) (fun y hy=>S0.lt_mono (by simp) (hlt y hy))
      rw [List.set_append_left _ _ (by simpa using hhl),List.set_set,(by
       apply List.ext_getElem?;intro j;by_cases hj:j=hh
       ·subst hj; rw [List.getElem?_set_self hhl,hsb]
       ·rw [List.getElem?_set_ne (Ne.symm hj)]:hp.set hh (.cells e' l)=hp)] at h3
      exact back X w0 w1 ρ t e hs.lt h3
    ·obtain ⟨y,hy,h⟩:=Option.bind_eq_some_iff.1 h;simp only [snJ,Prod.mk.injEq] at h;obtain ⟨rfl,rfl⟩:=h;refine ⟨by simpa using hl,by simp,fun X w0 w ρ hs=>?_⟩;obtain ⟨hd,hyl⟩:=selfP_den (ρ:=ρ) hy;have hlt:=hs.lt hh _ hsb;refine ⟨ρ,fun _ _=>rfl,rfl,qDj hs hsb (set_den hx hd) (set_lt hlt (hyl _ hhl)),fun w1 h1=>?_⟩;have h2:(hp.set hh (.cells e' (l.set k y)))[hh]?=some (.cells e' (l.set k y)):=List.getElem?_set_self hhl;have h3:=qDj h1 h2 (l':=l) (set_den hx hd).symm (fun y hy=>by simpa using hlt y hy);rwa [List.set_set,(by
      apply List.ext_getElem?;intro j;by_cases hj:j=hh
      ·subst hj; rw [List.getElem?_set_self hhl,hsb]
      ·rw [List.getElem?_set_ne (Ne.symm hj)]:hp.set hh (.cells e' l)=hp)] at h3
   ·cases h
  ·cases h
 ·rename_i x t e hi;cases hn:nilK t x with
  | false=>rw [hn] at h; exact stay rfl h
  | true =>
   rw [hn] at h;simp only [cnT,snJ,Prod.mk.injEq] at h;obtain ⟨rfl,rfl⟩:=h;refine ⟨fun v hv=>?_,by simp,fun X w0 w ρ hs=>⟨nilρT t hp.length ρ,qDw,?_,qHb hn hs e,fun w1 h1=>back X w0 w1 ρ t e hs.lt h1⟩⟩
   ·rcases List.mem_or_eq_of_mem_set hv with h | rfl
    ·simpa using lt1 v h
    ·have:=nilH_lt t hp.length;simpa [SV.lt,SC.lt] using this
   ·refine map_set_den hi ?_ hl qDw;simp only [SV.den,SC.den,nilT_den hn]
 ·rename_i l k t e hi;split at h
  ·rename_i x hx;cases hn:nilK t x with
   | false=>rw [hn] at h; exact stay rfl h
   | true =>
    rw [hn] at h;simp only [cnT,snJ,Prod.mk.injEq] at h;obtain ⟨rfl,rfl⟩:=h;have hlt:=hl _ (List.mem_of_getElem? hi);refine ⟨fun v hv=>?_,by simp,fun X w0 w ρ hs=>⟨nilρT t hp.length ρ,qDw,?_,qHb hn hs e,fun w1 h1=>back X w0 w1 ρ t e hs.lt h1⟩⟩
    ·rcases List.mem_or_eq_of_mem_set hv with h | rfl
     ·simpa using lt1 v h
     ·have:=set_nilT_lt (k:=k) (t:=t) hlt;show ∀y∈_,S0.lt _ y;simpa using this
    ·refine map_set_den hi ?_ hl qDw;simp only [SV.den,SC.den];rw [qEt hx hn hlt]
  ·cases h
 ·cases h
theorem prepA_ok:∀ {pre:List (Nat × Option Nat × Option (ET × Nat))} {args args':List SV} {hp hp':List SB},prepA pre args hp=some (args',hp')→(∀v∈args,v.lt hp.length)→PrepOK args hp args' hp'
 | [],args,args',hp,hp',h,hl=>by
  simp only [prepA,snJ,Prod.mk.injEq] at h;obtain ⟨rfl,rfl⟩:=h;exact .refl hl
 | (i,off,w)::r,args,args',hp,hp',h,hl=>by
  simp only [prepA] at h;split at h
  ·rename_i a1 h1 heq;have:=prep1_ok heq hl;exact this.trans (prepA_ok h this.1)
  ·cases h
theorem prep_loudG {P:Program} {f:Nat} {deep:Bool} {pre:List (Nat × Option Nat × Option (ET × Nat))} {modes:List Bool} {C:CS} (h:qAp P f C):qAe P f (qCc pre (liftG deep modes C)):=by
 obtain ⟨hnat,hval,hany⟩:=liftG_valid (deep:=deep) (modes:=modes) h;refine ⟨fun args hp R k r hr=>?_,fun args hp p r q hq hpp hl=>?_,tV⟩
 ·simp only at hr ⊢;cases h1:prepA pre args hp with
  | none=>rw [h1] at hr; cases hr
  | some x =>
   obtain ⟨a',hp'⟩:=x;rw [h1] at hr;simp only at hr ⊢;exact hnat a' hp' R k r hr
 ·simp only [oldC,liftG,qCc] at hq;cases h1:prepA pre args hp with
  | none=>rw [h1] at hq; cases hq
  | some x =>
   obtain ⟨a',hp'⟩:=x;rw [h1] at hq;obtain ⟨g1,g2,g3⟩:=prepA_ok h1 hl;have:=hval a' hp' p r q hq hpp g1;cases q with
   | none =>
    exfalso;simp only at hq;split at hq <;> cases hq
   | some hp2 =>
    obtain ⟨k1,k2,k3⟩:=this;refine ⟨k1,by omega,fun X w0 w ρ hs hf=>?_⟩;obtain ⟨ρ',a1,a2,a3,a4⟩:=g3 X w0 w ρ hs;have:=k3 X w0 w ρ' a3 hf;rw [a2] at this;refine this.mono ?_;rintro e w' ⟨ρ2,b1,b2,b3,b4⟩
    exact ⟨ρ2,fun i hi=>(b1 i (by omega)).trans (a1 i hi),b2,b3,b4⟩
theorem qAx {P:Program} {f:Nat} {pre:List (Nat × Option Nat × Option (ET × Nat))} {modes:List Bool} {C:CS} (h:qAp P f C):qAe P f (qCc pre (qC3 modes C)):=prep_loudG h
theorem liftV_shut {deep:Bool} {modes:List Bool} {C:CS} {args:List SV} {hp:List SB} {p:Prop} {r:SV} {q:Option (List SB)} (hn:natQ (liftH deep modes C)) (hs:natS C) (h:oldC (liftH deep modes C) args hp=some (p,r,q)):r.shut=true∧q=none:=by
 simp only [oldC,liftH] at h;cases ha:modes.all (fun b=>bif b then false else true) with
 | false=>rw [ha] at h; simp at h
 | true =>
  rw [ha] at h;simp only [cnT] at h;cases h1:lendAll deep modes args hp with
  | none=>rw [h1] at h; simp at h
  | some x =>
   obtain ⟨θ,ps,args',hpv⟩:=x;rw [h1] at h;simp only at h;cases h0:gds ps (C args' hpv SV fun v hpv'=>bif v.shut then some v else none) with
   | none=>rw [h0] at h; simp at h
   | some y =>
    rw [h0] at h;obtain ⟨hps,h0⟩:=qBn.1 h0;rw [hs] at h0;obtain ⟨⟨v,hpv'⟩,h4,h5⟩:=Option.bind_eq_some_iff.1 h0;simp only at h5;cases hs:v.shut with
    | false=>rw [hs] at h5; simp at h5
    | true =>
     rw [hs] at h5;simp only [cnT,snJ] at h5;subst h5;simp only [snJ,Prod.mk.injEq] at h;obtain ⟨_,rfl,rfl⟩:=h;exact ⟨hs,rfl⟩
theorem prep_quietG {P:Program} {f:Nat} {deep:Bool} {pre:List (Nat × Option Nat × Option (ET × Nat))} {modes:List Bool} {C:CS} (h:qAp P f C):qAe P f (qCc pre (liftH deep modes C)):=by
 obtain ⟨hnat,hval,hany⟩:=liftH_valid (deep:=deep) (modes:=modes) h;refine ⟨fun args hp R k r hr=>?_,fun args hp p r q hq hpp hl=>?_,tV⟩
 ·simp only at hr ⊢;cases h1:prepA pre args hp with
  | none=>rw [h1] at hr; cases hr
  | some x =>
   obtain ⟨a',hp'⟩:=x;rw [h1] at hr;simp only at hr ⊢;exact hnat a' hp' R k r hr
 ·cases h1:prepA pre args hp with
  | none=>simp only [oldC,liftH,qCc] at hq; rw [h1] at hq; cases hq
  | some x =>
   obtain ⟨a',hp'⟩:=x;have hq':oldC (liftH deep modes C) a' hp'=some (p,r,q):=by
    simp only [oldC,liftH,qCc] at hq ⊢;rw [h1] at hq;exact hq
   obtain ⟨hsh,rfl⟩:=liftV_shut hnat h.1 hq';obtain ⟨g1,g2,g3⟩:=prepA_ok h1 hl;obtain ⟨k1,k3⟩:=hval a' hp' p r none hq' hpp g1;refine ⟨SV.shut_lt hsh _,fun X w0 w ρ hs hf=>?_⟩;obtain ⟨ρ',a1,a2,a3,a4⟩:=g3 X w0 w ρ hs;have:=k3 X w0 w ρ' a3 hf;rw [a2] at this;refine this.mono ?_;rintro e w' ⟨rfl,b2,b3⟩
   exact ⟨by rw [SV.shut_den hsh ρ' ρ],a4 w' b2,b3⟩
theorem prep_quiet {P:Program} {f:Nat} {pre:List (Nat × Option Nat × Option (ET × Nat))} {modes:List Bool} {C:CS} (h:qAp P f C):qAe P f (qCc pre (qEg modes C)):=prep_quietG h
def dP (i off:Nat):Dec Bool S0 where
 d | .opt c h o=>bif Nat.beq i h then (bif Nat.beq off o then some c else none) else none
   | _=>none
 e c:=.opt c i off
 ok b a h:=by
  split at h
  ·rename_i c j q;by_cases hj:i=j
   ·rw [nbeq.2 hj] at h;by_cases hq:off=q
    ·rw [nbeq.2 hq] at h;simp only [cnT,snJ] at h;rw [hj,hq,h]
    ·rw [qE3 hq] at h; simp at h
   ·rw [qE3 hj] at h; simp at h
  ·cases h
def Le {α:Type} (a b:Option α):Prop:=∀r,a=some r→b=some r
theorem Le.refl {α:Type} (a:Option α):Le a a:=fun _ h=>h
theorem Le.trans {α:Type} {a b c:Option α} (h:Le a b) (h':Le b c):Le a c:=fun r hr=>h' r (h r hr)
theorem Le.of_eq {α:Type} {a b:Option α} (h:a=b):Le a b:=fun r hr=>h ▸ hr
theorem Le.gdb {α β:Type} {p:Prop} {a:Option α} {k:α→Option β} {b:Option β} (h:Le (a.bind k) b):Le ((gd p a).bind k) (gd p b):=fun r hr=>by
 rw [qAg] at hr;obtain ⟨h1,h2⟩:=gd_some.1 hr;exact gd_some.2 ⟨h1,h r h2⟩
theorem Le.condb {α β:Type} {c:Bool} {a b:Option α} {k:α→Option β} {a' b':Option β} (h:Le (a.bind k) a') (h':Le (b.bind k) b'):Le ((bif c then a else b).bind k) (bif c then a' else b'):=by
 cases c
 ·exact h'
 ·exact h
theorem Le.bindb {α β γ:Type} {x:Option γ} {f:γ→Option α} {k:α→Option β} {g:γ→Option β} (h:∀y,Le ((f y).bind k) (g y)):Le ((x.bind f).bind k) (x.bind g):=by
 cases x with
 | none=>exact Le.refl _
 | some y=>exact h y
theorem Le.all2b {α:Type} {s a b:Option α} (h:Le s a) (h':Le s b):Le s (all2 a b):=fun r hr=>all2_intro (h r hr) (h' r hr)
theorem Le.elimb {α β γ δ:Type} {s:γ ⊕ δ} {f:γ→Option α} {g:δ→Option α} {k:α→Option β} {f':γ→Option β} {g':δ→Option β} (h:∀y,Le ((f y).bind k) (f' y)) (h':∀y,Le ((g y).bind k) (g' y)):Le ((Sum.elim f g s).bind k) (Sum.elim f' g' s):=by
 cases s with
 | inl y=>exact h y
 | inr y=>exact h' y
theorem sub_le {α:Type} {Λ:Nat→SubQ} {Γ:Nat→Option CQ} {n0 nv nt i:Nat} {b:IQ} (D:Dec α QS) (f:α→(R:Type)→(QS→Option R)→(Nat→QS→Option R)→(QS→Option R)→Option R)
  (hl:Λ i=fun S R kn kx kr=>(D.d S).bind fun x=>f x R kn kx kr) (hb:∀(x:α) (R:Type) (kn:QS→Option R) (kx:Nat→QS→Option R) (kr:QS→Option R),Le (f x R kn kx kr) (qBa Λ Γ n0 nv nt b (D.e x) kn kx kr)):qBu Λ Γ n0 nv nt i b:=by
 intro S R kn kx kr r h;rw [hl] at h;obtain ⟨x,h1,h2⟩:=Option.bind_eq_some_iff.1 h;rw [D.ok _ _ h1];exact hb x R kn kx kr r h2
abbrev oP (d:Nat) (p:Pr):IOp:=⟨some d,p,none⟩
abbrev oE (d:Nat) (p:Pr) (g:Nat):IOp:=⟨some d,p,some (g,false)⟩
abbrev oF (d:Nat) (p:Pr) (g:Nat):IOp:=⟨some d,p,some (g,true)⟩
abbrev oN (p:Pr):IOp:=⟨none,p,none⟩
abbrev oM (d:Nat) (a:Arg):IOp:=⟨some d,.mv a,none⟩
abbrev vI (n:Int):Arg:=.v (.int .i64 n)
abbrev vC (n:Int):Arg:=.v (.int .u8 n)
abbrev vT:Arg:=.v (.bool true)
abbrev vF:Arg:=.v (.bool false)
abbrev Pr.bi (o:BinOp) (x y:Arg):Pr:=.bin false o x y
abbrev Pr.nk (x:Arg):Pr:=.ext .nilck [x]
abbrev rg (n:Nat) (l:List IOp):IQ:=.reg n none l
abbrev IQ.cn (l:List Nat) (q:IQ):IQ:=.canon [] l q
abbrev S0.vI (x:Int):S0:=.val (.int .i64 x)
abbrev S0.vS (x:ByteArray):S0:=.val (.string x)
abbrev S0.vB (x:Bool):S0:=.val (.bool x)
abbrev sL (i:Nat) (x:S0):Nat × GL × SV:=(i,[],.c (.o x))
abbrev dSO {α:Type} (i:Nat) (x:Dec α S0):=dSl i (dVC (dCO x))
abbrev dZ:=dI .i64
abbrev rF (d:Nat) (a:Arg) (k:Nat):List IOp:=[oM d a,oP (d+1) (.nk (.t d)),oP (d+2) (.faddr k (.t (d+1))),oP (d+3) (.load none (.t (d+2)))]
abbrev rG (d:Nat) (a:Arg) (k:Nat):List IOp:=[oP d (.nk a),oP (d+1) (.faddr k (.t d)),oP (d+2) (.load none (.t (d+1)))]
abbrev rS (d:Nat) (a:Arg) (k:Nat) (v:Arg):List IOp:=[oP d (.nk a),oP (d+1) (.faddr k (.t d)),oN (.store 1 (.t (d+1)) v)]
abbrev rH (o:Nat→Pr→Nat→IOp) (d:Nat) (a:Arg) (k g:Nat):List IOp:=[o d (.mv a) g,o (d+1) (.nk (.t d)) g,o (d+2) (.faddr k (.t (d+1))) g,o (d+3) (.load none (.t (d+2))) g]
abbrev t0:Arg:=.t 0
abbrev t1:Arg:=.t 1
abbrev t2:Arg:=.t 2
abbrev t3:Arg:=.t 3
abbrev t4:Arg:=.t 4
abbrev t5:Arg:=.t 5
abbrev t6:Arg:=.t 6
abbrev t7:Arg:=.t 7
abbrev t8:Arg:=.t 8
abbrev t9:Arg:=.t 9
abbrev t10:Arg:=.t 10
abbrev t11:Arg:=.t 11
abbrev t12:Arg:=.t 12
abbrev t13:Arg:=.t 13
abbrev t14:Arg:=.t 14
abbrev t15:Arg:=.t 15
abbrev t16:Arg:=.t 16
abbrev t17:Arg:=.t 17
abbrev t18:Arg:=.t 18
abbrev t19:Arg:=.t 19
abbrev t20:Arg:=.t 20
abbrev t21:Arg:=.t 21
abbrev t22:Arg:=.t 22
abbrev t23:Arg:=.t 23
abbrev t24:Arg:=.t 24
abbrev t25:Arg:=.t 25
abbrev t26:Arg:=.t 26
abbrev t27:Arg:=.t 27
abbrev t28:Arg:=.t 28
abbrev t29:Arg:=.t 29
abbrev t30:Arg:=.t 30
abbrev t31:Arg:=.t 31
abbrev t32:Arg:=.t 32
abbrev t33:Arg:=.t 33
abbrev t34:Arg:=.t 34
abbrev t35:Arg:=.t 35
abbrev t36:Arg:=.t 36
abbrev t37:Arg:=.t 37
abbrev t38:Arg:=.t 38
abbrev t39:Arg:=.t 39
abbrev t40:Arg:=.t 40
abbrev t41:Arg:=.t 41
abbrev t42:Arg:=.t 42
abbrev t43:Arg:=.t 43
abbrev t44:Arg:=.t 44
abbrev t45:Arg:=.t 45
abbrev t46:Arg:=.t 46
abbrev t47:Arg:=.t 47
abbrev t48:Arg:=.t 48
abbrev t49:Arg:=.t 49
abbrev t50:Arg:=.t 50
abbrev t51:Arg:=.t 51
abbrev t52:Arg:=.t 52
abbrev t53:Arg:=.t 53
abbrev t54:Arg:=.t 54
abbrev t55:Arg:=.t 55
abbrev t56:Arg:=.t 56
abbrev t57:Arg:=.t 57
abbrev t58:Arg:=.t 58
abbrev t59:Arg:=.t 59
abbrev t60:Arg:=.t 60
abbrev t61:Arg:=.t 61
abbrev t62:Arg:=.t 62
abbrev t63:Arg:=.t 63
abbrev t64:Arg:=.t 64
abbrev t65:Arg:=.t 65
abbrev t66:Arg:=.t 66
abbrev t67:Arg:=.t 67
abbrev t68:Arg:=.t 68
abbrev t69:Arg:=.t 69
abbrev t70:Arg:=.t 70
abbrev t71:Arg:=.t 71
abbrev t72:Arg:=.t 72
abbrev t73:Arg:=.t 73
abbrev t74:Arg:=.t 74
abbrev t75:Arg:=.t 75
abbrev t76:Arg:=.t 76
abbrev t77:Arg:=.t 77
abbrev t78:Arg:=.t 78
abbrev t79:Arg:=.t 79
abbrev t80:Arg:=.t 80
abbrev t81:Arg:=.t 81
abbrev t82:Arg:=.t 82
abbrev t83:Arg:=.t 83
abbrev t84:Arg:=.t 84
abbrev t85:Arg:=.t 85
abbrev t86:Arg:=.t 86
abbrev t87:Arg:=.t 87
abbrev t88:Arg:=.t 88
abbrev t89:Arg:=.t 89
abbrev t90:Arg:=.t 90
abbrev t91:Arg:=.t 91
abbrev t92:Arg:=.t 92
abbrev t93:Arg:=.t 93
abbrev t94:Arg:=.t 94
abbrev t95:Arg:=.t 95
abbrev t96:Arg:=.t 96
abbrev t97:Arg:=.t 97
abbrev t98:Arg:=.t 98
abbrev t99:Arg:=.t 99
abbrev t100:Arg:=.t 100
abbrev t101:Arg:=.t 101
abbrev t102:Arg:=.t 102
abbrev t103:Arg:=.t 103
abbrev t104:Arg:=.t 104
abbrev t105:Arg:=.t 105
abbrev t106:Arg:=.t 106
abbrev t107:Arg:=.t 107
abbrev t108:Arg:=.t 108
abbrev t109:Arg:=.t 109
abbrev t110:Arg:=.t 110
abbrev t111:Arg:=.t 111
abbrev t112:Arg:=.t 112
abbrev t113:Arg:=.t 113
abbrev t114:Arg:=.t 114
abbrev t115:Arg:=.t 115
abbrev t116:Arg:=.t 116
abbrev t117:Arg:=.t 117
abbrev t118:Arg:=.t 118
abbrev t119:Arg:=.t 119
abbrev t120:Arg:=.t 120
abbrev t121:Arg:=.t 121
abbrev t122:Arg:=.t 122
abbrev t123:Arg:=.t 123
abbrev t124:Arg:=.t 124
abbrev t125:Arg:=.t 125
abbrev t126:Arg:=.t 126
abbrev t127:Arg:=.t 127
abbrev t128:Arg:=.t 128
abbrev t129:Arg:=.t 129
abbrev t130:Arg:=.t 130
abbrev t131:Arg:=.t 131
abbrev t132:Arg:=.t 132
abbrev t133:Arg:=.t 133
abbrev t134:Arg:=.t 134
abbrev t135:Arg:=.t 135
abbrev t136:Arg:=.t 136
abbrev t137:Arg:=.t 137
abbrev t138:Arg:=.t 138
end Go.Eng
