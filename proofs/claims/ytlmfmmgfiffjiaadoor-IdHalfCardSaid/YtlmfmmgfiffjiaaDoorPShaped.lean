/-
  Texts of a claim.
-/
import Derived.Lib.Bytealg
import Derived.Shelf.Unicode.DecodeSlow
import Derived.WalkKit
import Derived.Below
import Derived.BigQuiet
import Derived.Shelf.Unicode.ValidAny
import Derived.Shelf.Unicode.DecodeAny
import Derived.Shelf.Lay
import Derived.Ground.NamesProg
import Derived.Test.YtlmfmmgfiffjiaaDoorEngS
import Derived.Test.YtlmfmmgfiffjiaaDoorEngN
import Derived.Test.YtlmfmmgfiffjiaaDoorEngO
import Derived.Test.YtlmfmmgfiffjiaaDoorProg
set_option linter.unusedSimpArgs false
set_option linter.unusedVariables false
namespace Go.Proofs.YtlmfmmgfiffjiaaDoor
open Go.Eng
inductive Trees (v:List Eng.Node):Nat→Nat→Nat→Prop
 | nil (a:Nat):a≤v.length→Trees v 0 a a
 | cons {k a b e:Nat} (n:Eng.Node):v[a]?=some n→0≤n.kids→Trees v n.kids.toNat (a+1) b→Trees v k b e→Trees v (k+1) a e
def Tree (v:List Eng.Node) (a e:Nat):Prop:=Trees v 1 a e
theorem Trees.le {v:List Eng.Node} {k a e:Nat} (h:Trees v k a e):a+k≤e∧e≤v.length:=by
 induction h with
 | nil a ha=>exact ⟨by omega,ha⟩
 | cons n hn h0 h1 h2 i1 i2=>exact ⟨by omega,i2.2⟩
theorem Trees.zero {v:List Eng.Node} {a e:Nat} (h:Trees v 0 a e):e=a:=by
 cases h;rfl
theorem Trees.succ {v:List Eng.Node} {k a e:Nat} (h:Trees v (k+1) a e):∃n b,v[a]?=some n∧0≤n.kids∧Trees v n.kids.toNat (a+1) b∧Trees v k b e:=by
 cases h with
 | cons n hn h0 h1 h2=>exact ⟨n,_,hn,h0,h1,h2⟩
theorem Trees.det {v:List Eng.Node} {k a e:Nat} (h:Trees v k a e):∀ {e'},Trees v k a e'→e=e':=by
 induction h with
 | nil a ha=>intro e' h'; exact h'.zero.symm
 | cons n hn h0 h1 h2 i1 i2 =>
  intro e' h';obtain ⟨n',b',hn',_,g1,g2⟩:=h'.succ;rw [hn] at hn';cases hn';have:=i1 g1;subst this;exact i2 g2
theorem Trees.app {v:List Eng.Node} {k a b:Nat} (h:Trees v k a b):∀ {m e},Trees v m b e→Trees v (m+k) a e:=by
 induction h with
 | nil a ha=>intro m e h'; exact h'
 | cons n hn h0 h1 h2 i1 i2 =>
  intro m e h';exact Trees.cons n hn h0 h1 (i2 h')
theorem Trees.one {v:List Eng.Node} {k a e:Nat} (h:Trees v (k+1) a e):∃b,Tree v a b∧Trees v k b e:=by
 obtain ⟨n,b,h1,h2,h3,h4⟩:=h.succ;exact ⟨b,Trees.cons n h1 h2 h3 (Trees.nil b h3.le.2),h4⟩
theorem Tree.node {v:List Eng.Node} {a e:Nat} (h:Tree v a e):∃n,v[a]?=some n∧0≤n.kids∧Trees v n.kids.toNat (a+1) e:=by
 obtain ⟨n,b,h1,h2,h3,h4⟩:=Trees.succ h;have:=h4.zero;subst this;exact ⟨n,h1,h2,h3⟩
theorem Tree.mk {v:List Eng.Node} {a e:Nat} {n:Eng.Node} (h1:v[a]?=some n) (h2:0≤n.kids) (h3:Trees v n.kids.toNat (a+1) e):Tree v a e:=Trees.cons n h1 h2 h3 (Trees.nil e h3.le.2)
def qEh (v:List Eng.Node):Nat→Nat→List Nat→Nat→Prop
 | 0,a,l,e=>l=[]∧e=a
 | k+1,a,l,e=>∃b r,l=a::r∧Tree v a b∧qEh v k b r e
theorem Trees.places {v:List Eng.Node}:∀ {k a e:Nat},Trees v k a e→∃l,qEh v k a l e
 | 0,a,e,h=>⟨[],rfl,h.zero⟩
 | k+1,a,e,h=>by
  obtain ⟨b,h1,h2⟩:=h.one;obtain ⟨l,hl⟩:=h2.places;exact ⟨a::l,b,l,rfl,h1,hl⟩
theorem qEh.len {v:List Eng.Node}:∀ {k a e:Nat} {l:List Nat},qEh v k a l e→l.length=k
 | 0,a,e,l,h=>by rw [h.1]; rfl
 | k+1,a,e,l,h=>by
  obtain ⟨b,r,rfl,_,h2⟩:=h;simp [h2.len]
theorem bAt_in {s:BA} {k:Nat} (h:k<s.size):bAt s k=(s[k].toNat:Int):=by
 simp [bAt,h]
theorem bAt_range (s:BA) (i:Int) : -1≤bAt s i∧bAt s i≤255:=by
 unfold bAt;split
 ·split
  ·rename_i b _;have:=b.toNat_lt;omega
  ·omega
 ·omega
theorem qD7 {s:BA} {i:Int} (h:0≤bAt s i):0≤i∧i<s.size:=by
 unfold bAt at h;split at h
 ·split at h
  ·rename_i h0 b hb;have:i.toNat<s.size:=by
    rcases Nat.lt_or_ge i.toNat s.size with h' | h'
    ·exact h'
    ·rw [getElem?_neg s i.toNat (Nat.not_lt.2 h')] at hb;cases hb
   omega
  ·omega
 ·omega
theorem qB6 {s:BA} {i:Int} (h:¬i<s.size):bAt s i = -1:=by
 have:=(bAt_range s i).1;rcases Int.lt_or_le (bAt s i) 0 with h' | h'
 ·omega
 ·exact (h (qD7 h').2).elim
theorem bAt_nn {s:BA} {i:Int} (h0:0≤i) (h:i<s.size):0≤bAt s i:=by
 have h1:i.toNat<s.size:=by omega
 have:=bAt_in h1;rw [Int.toNat_of_nonneg h0] at this;rw [this];omega
def digS (s:BA) (i:Int):Bool:=decide (48≤bAt s i) && decide (bAt s i≤57)
theorem digS_lt {s:BA} {i:Int} (h:digS s i=true):i<s.size:=by simp only [digS,Bool.and_eq_true,decide_eq_true_eq] at h; exact (qD7 (by omega)).2
def manyN (s:BA):Nat→Nat→Nat
 | 0,i=>i
 | n+1,i=>if digS s (i:Int)=true then manyN s n (i+1) else i
@[irreducible] def qE3 (s:BA) (i:Nat):Nat:=manyN s (s.size - i) i
theorem qE4 {s:BA} {i:Nat} (h:digS s i=true):qE3 s i=qE3 s (i+1):=by
 have:=digS_lt h;unfold qE3;rw [show s.size - i=(s.size - (i+1))+1 by omega];show (if digS s (i:Int)=true then _ else _)=_;rw [if_pos h]
theorem manyS_no {s:BA} {i:Nat} (h:digS s i=false):qE3 s i=i:=by
 unfold qE3;cases s.size - i with
 | zero=>rfl
 | succ n =>
  show (if digS s (i:Int)=true then _ else _)=_;rw [if_neg (by rw [h]; decide)]
theorem manyS_ge (s:BA) (k:Nat):k≤qE3 s k:=by
 by_cases h:digS s k=true
 ·rw [qE4 h];have:=manyS_ge s (k+1);omega
 ·rw [manyS_no (by simpa using h)];exact Nat.le_refl _
termination_by s.size - k
decreasing_by have:=digS_lt h; omega
theorem manyS_le (s:BA) (k:Nat) (hk:k≤s.size):qE3 s k≤s.size:=by
 by_cases h:digS s k=true
 ·rw [qE4 h];exact manyS_le s (k+1) (by have:=digS_lt h; omega)
 ·rw [manyS_no (by simpa using h)];exact hk
termination_by s.size - k
decreasing_by have:=digS_lt h; omega
theorem bAt_extract (s:BA) (a b:Nat) (i:Int) (h0:0≤i) (hb:a+i<b):bAt (s.extract a b) i=bAt s (a+i):=by
 by_cases h:a+i<s.size
 ·have h1:i.toNat<(s.extract a b).size:=by rw [ByteArray.size_extract]; omega
  have h2:a+i.toNat<s.size:=by omega
  have e1:=bAt_in h1;have e2:=bAt_in h2;rw [Int.toNat_of_nonneg h0] at e1;rw [show ((a+i.toNat:Nat):Int)=a+i by omega] at e2;rw [e1,e2,ByteArray.getElem_extract]
 ·rw [qB6 h,qB6];rw [ByteArray.size_extract];omega
theorem bAt_tail (s:BA) (a:Nat) (i:Int) (h0:0≤i):bAt (s.extract a s.size) i=bAt s (a+i):=by
 by_cases h:a+i<s.size
 ·exact bAt_extract s a s.size i h0 (by omega)
 ·rw [qB6 h,qB6];rw [ByteArray.size_extract];omega
theorem qCd (s:BA) (a:Nat):(s.extract a s.size).size=s.size - a:=by rw [ByteArray.size_extract]; omega
theorem qGs (s:BA) (a b:Nat):(s.extract a s.size).extract b (s.extract a s.size).size=s.extract (a+b) s.size:=by
 rw [ByteArray.extract_extract,qCd];by_cases h:a≤s.size
 ·congr 1; omega
 ·have h1:s.extract (a+b) (min (a+(s.size - a)) s.size)=ByteArray.empty:=ByteArray.extract_eq_empty_iff.2 (by omega);have h2:s.extract (a+b) s.size=ByteArray.empty:=ByteArray.extract_eq_empty_iff.2 (by omega);rw [h1,h2]
theorem head_tail (s:BA) (a n:Nat):(s.extract a s.size).extract 0 n=s.extract a (min (a+n) s.size):=by
 rw [ByteArray.extract_extract,Nat.add_zero]
theorem all_of (s:BA):s.extract 0 s.size=s:=by simp
theorem eq_none {s:BA}:s=⟨#[]⟩↔s.size=0:=by
 constructor
 ·intro h; rw [h]; rfl
 ·intro h;have:=all_of s;rw [←this];have h2:s.extract 0 s.size=ByteArray.empty:=ByteArray.extract_eq_empty_iff.2 (by omega);rw [h2]; rfl
theorem ext_bAt {s t:BA} (hz:s.size=t.size) (h:∀i:Nat,i<s.size→bAt s i=bAt t i):s=t :=
 ByteArray.ext_getElem hz fun i h1 h2=>by
  have:=h i h1;rw [bAt_in h1,bAt_in h2] at this;exact UInt8.toNat_inj.1 (by omega)
def hasPre (s p:BA):Bool:=decide (p.size≤s.size) && decide (s.extract 0 p.size=p)
def cutPre (s p:BA):BA:=if hasPre s p=true then s.extract p.size s.size else s
theorem hasPre_one {s p:BA} (hp:p.size=1):hasPre s p=decide (bAt s 0=bAt p 0):=by
 have hn:0≤bAt p 0:=bAt_nn (by omega) (by omega);unfold hasPre;rw [hp];by_cases h:1≤s.size
 ·have hz:(s.extract 0 1).size=p.size:=by rw [ByteArray.size_extract]; omega
  simp only [h,decide_true,Bool.true_and];rw [decide_eq_decide];have hb:bAt (s.extract 0 1) 0=bAt s 0:=by rw [bAt_extract s 0 1 0 (by omega) (by omega)]; rfl
  constructor
  ·intro e; rw [←hb,e]
  ·intro e;refine ext_bAt hz fun i hi=>?_
   rw [hz,hp] at hi;obtain rfl:i=0:=by omega
   show bAt (s.extract 0 1) 0=bAt p 0;rw [hb,e]
 ·have:bAt s 0 = -1:=qB6 (by omega);simp [h,this];omega
theorem hasPre_le {s p:BA} (h:hasPre s p=true):p.size≤s.size:=by
 simp only [hasPre,Bool.and_eq_true,decide_eq_true_eq] at h;exact h.1
def leadB (s:BA) (b:Int) (i:Nat):Nat:=if h:i<s.size∧bAt s i=b then leadB s b (i+1) else i
 termination_by s.size - i
 decreasing_by omega
theorem leadB_yes {s:BA} {b:Int} {i:Nat} (h:i<s.size∧bAt s i=b):leadB s b i=leadB s b (i+1):=by rw [leadB,dif_pos h]
theorem leadB_no {s:BA} {b:Int} {i:Nat} (h:¬(i<s.size∧bAt s i=b)):leadB s b i=i:=by rw [leadB,dif_neg h]
def trimL (s:BA) (b:Int):BA:=s.extract (leadB s b 0) s.size
def backB (s:BA) (b:Int):Nat→Nat
 | 0=>0
 | n+1=>if bAt s n=b then backB s b n else n+1
def trimR (s:BA) (b:Int):BA:=s.extract 0 (backB s b s.size)
end Go.Proofs.YtlmfmmgfiffjiaaDoor
namespace Go.Proofs.YtlmfmmgfiffjiaaDoor
open Go.Eng
def dV (s:BA) (i:Nat):Int:=(bAt s i - 48) % 256
def dsFrom (s:BA) (a n:Nat):List Int:=(List.range n).map fun i=>dV s (a+i)
def lead (l:List Int):List Int:=l.dropWhile (· == 0)
def trail:List Int→List Int
 | []=>[]
 | x::l=>match trail l with
  | []=>if x=0 then [] else [x]
  | y::r=>x::y::r
def atA (s:BA):Nat:=if bAt s 0=45 then 1 else 0
def atB (s:BA):Nat:=qE3 s (atA s)
def badA (s:BA):Bool:=decide (atB s=atA s) || (decide (bAt s (atA s)=48) && decide (atA s+1<atB s))
def dotS (s:BA):Bool:=decide (bAt s (atB s)=46)
def atK (s:BA):Nat:=qE3 s (atB s+1)
def atC (s:BA):Nat:=if dotS s=true then atK s else atB s
def allS (s:BA):BA:=if dotS s=true then s.extract (atA s) (atB s)++s.extract (atB s+1) (atK s) else s.extract (atA s) (atB s)
def expS (s:BA):Bool:=decide (bAt s (atC s)=101) || decide (bAt s (atC s)=69)
def sgnS (s:BA):Bool:=decide (bAt s (atC s+1)=43) || decide (bAt s (atC s+1)=45)
def atE (s:BA):Nat:=if sgnS s=true then atC s+2 else atC s+1
def atF (s:BA):Nat:=qE3 s (atE s)
def atG (s:BA):Nat:=if expS s=true then atF s else atC s
structure RNum where
 minus:Bool
 digits:List Int
 off:Int
 down:Bool
 exp:List Int
 plain:Bool
 text:BA
def qE8 (s:BA):Bool:=!badA s && !(dotS s && decide (atK s=atB s+1)) && !(expS s && decide (atF s=atE s)) && decide (atG s=s.size)
def readS (s:BA):RNum where
 minus:=decide (bAt s 0=45)
 digits:=trail (lead (dsFrom (allS s) 0 (allS s).size))
 off:=(atB s:Int) - atA s - ((allS s).size - (lead (dsFrom (allS s) 0 (allS s).size)).length)
 down:=expS s && decide (bAt s (atC s+1)=45)
 exp:=if expS s=true then lead (dsFrom s (atE s) (atF s - atE s)) else []
 plain:=!dotS s && !expS s
 text:=s.extract (atA s) (atB s)
theorem atA_le (s:BA):atA s≤s.size:=by
 unfold atA;split
 ·have:=qD7 (s:=s) (i:=0) (by omega);omega
 ·omega
theorem atB_le (s:BA):atB s≤s.size:=manyS_le s _ (atA_le s)
theorem atA_le_atB (s:BA):atA s≤atB s:=manyS_ge s _
theorem atB_lt {s:BA} (h:dotS s=true):atB s<s.size:=by
 unfold dotS at h;have h1:=of_decide_eq_true h;have:=qD7 (s:=s) (i:=atB s) (by omega);omega
theorem atK_le {s:BA} (h:dotS s=true):atK s≤s.size:=manyS_le s _ (atB_lt h)
theorem atK_ge (s:BA):atB s+1≤atK s:=manyS_ge s _
theorem atC_le (s:BA):atC s≤s.size:=by
 unfold atC;split
 ·exact atK_le (by assumption)
 ·exact atB_le s
theorem atC_lt {s:BA} (h:expS s=true):atC s<s.size:=by
 unfold expS at h;simp only [Bool.or_eq_true,decide_eq_true_eq] at h;have:=qD7 (s:=s) (i:=atC s) (by omega);omega
theorem sgn_lt {s:BA} (h:sgnS s=true):atC s+1<s.size:=by
 unfold sgnS at h;simp only [Bool.or_eq_true,decide_eq_true_eq] at h;have:=qD7 (s:=s) (i:=(atC s:Int)+1) (by omega);omega
theorem atE_le {s:BA} (h:expS s=true):atE s≤s.size:=by
 have h1:=atC_lt h;unfold atE;split
 ·have:=sgn_lt (s:=s) (by assumption); omega
 ·omega
theorem atF_le {s:BA} (h:expS s=true):atF s≤s.size:=manyS_le s _ (atE_le h)
theorem atF_ge (s:BA):atE s≤atF s:=manyS_ge s _
end Go.Proofs.YtlmfmmgfiffjiaaDoor
namespace Go.Proofs.YtlmfmmgfiffjiaaDoor
open Go.Eng
theorem digS_tail (s:BA) (a:Nat) (i:Int) (h0:0≤i):digS (s.extract a s.size) i=digS s (a+i):=by
 unfold digS;rw [bAt_tail s a i h0]
theorem manyS_tail (s:BA) (a:Nat) (i:Nat):a+qE3 (s.extract a s.size) i=qE3 s (a+i):=by
 have e:=digS_tail s a i (by omega);by_cases h:digS (s.extract a s.size) i=true
 ·have h':digS s ((a+i:Nat):Int)=true:=by rw [←h,e]; congr 1
  rw [qE4 h,qE4 h',show a+i+1=a+(i+1) by omega];exact manyS_tail s a (i+1)
 ·have h1:digS (s.extract a s.size) i=false:=by simpa using h
  have h':digS s ((a+i:Nat):Int)=false:=by rw [←h1,e]; congr 1
  rw [manyS_no h1,manyS_no h']
termination_by s.size - i
decreasing_by
 have:=digS_lt h;rw [qCd] at this;omega
def runS (s:BA):Nat:=qE3 s 0
theorem runS_tail (s:BA) (a:Nat):runS (s.extract a s.size)=qE3 s a - a:=by
 have:=manyS_tail s a 0;unfold runS;simp only [Nat.add_zero] at this;omega
theorem tail_none (s:BA) (a:Nat):s.extract a s.size=⟨#[]⟩↔s.size≤a:=by
 rw [eq_none,qCd];omega
structure PNum where
 minus:Bool
 int:BA
 digits:BA
 off:Int
 plain:Bool
 down:Bool
 exp:BA
def fracS (s:BA):BA:=if dotS s=true then s.extract (atB s+1) (atK s) else ⟨#[]⟩
def expT (s:BA):BA:=s.extract (atE s) s.size
def qGp (s:BA):PNum where
 minus:=decide (bAt s 0=45)
 int:=s.extract (atA s) (atB s)
 digits:=trimR (trimL (s.extract (atA s) (atB s)++fracS s) 48) 48
 off:=((s.extract (atA s) (atB s)).size:Int) - ((s.extract (atA s) (atB s)++fracS s).size - (trimL (s.extract (atA s) (atB s)++fracS s) 48).size)
 plain:=!dotS s && !expS s
 down:=expS s && decide (bAt s (atC s+1)=45) && !decide (trimL (expT s) 48=⟨#[]⟩)
 exp:=if expS s=true then trimL (expT s) 48 else ⟨#[]⟩
def badE (s:BA):Bool:=expS s && (decide (s.size≤atE s) || decide (atF s≠s.size))
def progOk (s:BA):Bool:=!badA s && !(dotS s && decide (atK s=atB s+1)) && !badE s && (expS s || decide (s.size≤atC s))
theorem progOk_eq (s:BA):progOk s=qE8 s:=by
 unfold progOk qE8;cases badA s
 ·cases hd:(dotS s && decide (atK s=atB s+1))
  ·simp only [Bool.not_false,Bool.true_and];cases he:expS s
   ·have h1:=atC_le s;simp only [badE,he,Bool.false_and,Bool.not_false,Bool.true_and,Bool.false_or,atG,Bool.false_eq_true,if_false];rw [decide_eq_decide];omega
   ·have h1:=atE_le he;have h2:=atF_le he;have h3:=atF_ge s;simp only [badE,he,Bool.true_and,Bool.true_or,Bool.and_true,atG,if_true];by_cases hf:atF s=s.size
    ·by_cases hz:s.size≤atE s
     ·have:atF s=atE s:=by omega
      simp [this];omega
     ·have:¬atF s=atE s:=by omega
      simp [hf,hz];omega
    ·simp [hf]
  ·simp
 ·simp
def qE7 (s:BA):PNum :=
 if badA s=true then ⟨decide (bAt s 0=45),⟨#[]⟩,⟨#[]⟩,0,true,false,⟨#[]⟩⟩
 else if (dotS s && decide (atK s=atB s+1))=true then ⟨decide (bAt s 0=45),s.extract (atA s) (atB s),⟨#[]⟩,0,true,false,⟨#[]⟩⟩
 else if badE s=true then ⟨decide (bAt s 0=45),s.extract (atA s) (atB s),⟨#[]⟩,0,!dotS s,expS s && decide (bAt s (atC s+1)=45),⟨#[]⟩⟩
 else qGp s
theorem progAll_1 {s:BA} (h1:badA s=true):qE7 s=⟨decide (bAt s 0=45),⟨#[]⟩,⟨#[]⟩,0,true,false,⟨#[]⟩⟩:=by simp [qE7,h1]
theorem progAll_2 {s:BA} (h1:badA s=false) (h2:(dotS s && decide (atK s=atB s+1))=true):qE7 s=⟨decide (bAt s 0=45),s.extract (atA s) (atB s),⟨#[]⟩,0,true,false,⟨#[]⟩⟩:=by simp only [qE7,h1,h2]; rfl
theorem progAll_3 {s:BA} (h1:badA s=false) (h2:(dotS s && decide (atK s=atB s+1))=false) (h3:badE s=true):qE7 s=⟨decide (bAt s 0=45),s.extract (atA s) (atB s),⟨#[]⟩,0,!dotS s,expS s && decide (bAt s (atC s+1)=45),⟨#[]⟩⟩:=by simp only [qE7,h1,h2,h3]; rfl
theorem progAll_4 {s:BA} (h1:badA s=false) (h2:(dotS s && decide (atK s=atB s+1))=false) (h3:badE s=false):qE7 s=qGp s:=by simp only [qE7,h1,h2,h3]; rfl
theorem progAll_ok {s:BA} (h:qE8 s=true):qE7 s=qGp s:=by
 rw [←progOk_eq] at h;unfold progOk at h;simp only [Bool.and_eq_true,Bool.not_eq_true'] at h;obtain ⟨⟨⟨h1,h2⟩,h3⟩,h4⟩:=h;exact progAll_4 h1 h2 h3
end Go.Proofs.YtlmfmmgfiffjiaaDoor
namespace Go.Proofs.YtlmfmmgfiffjiaaDoor
open Go.Eng
end Go.Proofs.YtlmfmmgfiffjiaaDoor
namespace Go.Proofs.YtlmfmmgfiffjiaaDoor
open Go.Eng
def dvB (x:UInt8):Int:=((x.toNat:Int) - 48) % 256
def dl (b:BA):List Int:=b.data.toList.map dvB
end Go.Proofs.YtlmfmmgfiffjiaaDoor
namespace Go.Proofs.YtlmfmmgfiffjiaaDoor
open Go.Eng
set_option maxRecDepth 100000
noncomputable section
structure decimal_number where
 minus:Bool
 whole:BA
 digits:BA
 point:Int
 plain:Bool
 down:Bool
 exp_:BA
structure qIj where
 minus:Bool
 digits:(List Int)
 off:Int
 down:Bool
 exp_:(List Int)
 plain:Bool
 text:BA
def zba_q:IQ:=(.seq (rg 4 [oP 4 (.mv vF)]) (.seq (rg 4 [oM 5 t0,oP 6 (.lenS t5),oM 7 t1,oP 8 (.lenS t7),oP 9 (.bi .geq t6 t8),oM 10 t9,oF 11 (.mv t0) 10,oF 12 (.mv t1) 10,oF 13 (.lenS t12) 10,oF 14 (.sub none t11 none (some t13)) 10,oF 15 (.mv t1) 10,oF 16 (.bi .eql t14 t15) 10,oP 17 (.pick t10 t16 vF),oM 4 t17]) (.cn [4] .ret)))
def zba_s (s prefix_:BA):Option Bool :=
 gd ((decide ((prefix_.size:Int)≤(s.size:Int)))=true→0≤(0:Int)∧(0:Int)≤(prefix_.size:Int)∧(prefix_.size:Int)≤s.size) <|
 some ((decide ((prefix_.size:Int)≤(s.size:Int))) && (decide ((s.extract 0 (Int.toNat (prefix_.size:Int)))=prefix_)))
def zba_c:CS:=mkC (qAa (dVC (dCO dS)) (qAa (dVC (dCO dS)) dNil)) dNil (fun x y=>zba_s x.1 x.2.1) (fun x y r=>.c (.o (.vB r))) fun x y r=>[]
theorem zba_val:qAh Tryd.prog 130 zba_c:=vl0 zba_q [.tmp 4] 18 5 0 [] trivial fun x y=>by
 simp only [zba_s,-eq_self,sZ];kernel_rfl
def zba_w:CQ:=qCw [] zba_c
theorem zba_ok:qAe Tryd.prog 130 zba_w:=qAs zba_val
def zaz_q:IQ:=(.seq (rg 5 [oP 4 (.mv (.v (.string ⟨#[]⟩))),oP 5 (.mv vF)]) (.seq (.seq (rg 9 [oM 6 t0,oM 7 t1,oP 8 (.call 130 [t6,t7]),oP 9 (.un .not t8)]) (.cond t9 (.seq (rg 5 [oM 10 t0,oM 4 t10,oP 5 (.mv vF)]) (.cn [4,5] .ret)) .skip)) (.seq (rg 5 [oM 11 t0,oM 12 t1,oP 13 (.lenS t12),oP 14 (.sub none t11 (some t13) none),oM 4 t14,oP 5 (.mv vT)]) (.cn [4,5] .ret))))
def zaz_s (s prefix_:BA):Option (BA × Bool) :=
 (zba_s s prefix_).bind fun r1 =>
 bif (!r1) then (
  some (s,false))
 else (
  gd (0≤(prefix_.size:Int)∧(prefix_.size:Int)≤(s.size:Int)∧(s.size:Int)≤s.size) <|
  some ((s.extract (Int.toNat (prefix_.size:Int)) s.size),true))
def zaz_c:CS:=mkC (qAa (dVC (dCO dS)) (qAa (dVC (dCO dS)) dNil)) dNil (fun x y=>zaz_s x.1 x.2.1) (fun x y r=>.tup [.o (.vS r.1),.o (.vB r.2)]) fun x y r=>[]
theorem zaz_val:qAh Tryd.prog 122 zaz_c:=vl0 zaz_q [.tmp 4,.tmp 5] 15 6 0 [(130,zba_w)] ⟨zba_ok,tV⟩ fun x y=>by
 simp only [zaz_s,-eq_self,sZ];kernel_rfl
def zaz_w:CQ:=qCw [] zaz_c
theorem zaz_ok:qAe Tryd.prog 122 zaz_w:=qAs zaz_val
def zcr_q:IQ:=(.seq (rg 5 [oP 4 (.mv (.v (.string ⟨#[]⟩))),oP 5 (.mv vF)]) (.seq (rg 5 [oM 6 t0,oM 7 t1,oP 8 (.call 122 [t6,t7]),oP 9 (.extract t8 0),oP 10 (.extract t8 1),oM 4 t9,oM 5 t10]) (.cn [4,5] .ret)))
def zcr_s (s prefix_:BA):Option (BA × Bool) :=
 (zaz_s s prefix_).bind fun r1 =>
 some (r1.1,r1.2)
def zcr_c:CS:=mkC (qAa (dVC (dCO dS)) (qAa (dVC (dCO dS)) dNil)) dNil (fun x y=>zcr_s x.1 x.2.1) (fun x y r=>.tup [.o (.vS r.1),.o (.vB r.2)]) fun x y r=>[]
theorem zcr_val:qAh Tryd.prog 117 zcr_c:=vl0 zcr_q [.tmp 4,.tmp 5] 11 6 0 [(122,zaz_w)] ⟨zaz_ok,tV⟩ fun x y=>by
 simp only [zcr_s,-eq_self,sZ];kernel_rfl
def zcr_w:CQ:=qCw [] zcr_c
theorem zcr_ok:qAe Tryd.prog 117 zcr_w:=qAs zcr_val
def zak_b0:IQ:=(.loop [0,3] (.seq (.seq (rg 19 [oM 4 t3,oM 5 t0,oP 6 (.lenS t5),oP 7 (.bi .lss t4 t6),oM 8 t7,oF 9 (.mv t0) 8,oF 10 (.mv t3) 8,oF 11 (.index t9 t10) 8,oF 12 (.bi .geq t11 (vC 48)) 8,oP 13 (.pick t8 t12 vF),oM 14 t13,oF 15 (.mv t0) 14,oF 16 (.mv t3) 14,oF 17 (.index t15 t16) 14,oF 18 (.bi .leq t17 (vC 57)) 14,oP 19 (.pick t14 t18 vF)]) (.cond t19 .skip (.cn [3] (.exit 0)))) (.block 1 (rg 3 [oM 20 t3,oP 21 (.bi .add t20 (vI 1)),oM 3 t21]))))
def zak_q:IQ:=(.seq (rg 2 [oP 2 (.mv (vI 0))]) (.seq (rg 3 [oP 3 (.mv (vI 0))]) (.seq (.block 0 (.cn [0,3] (.sub 0 zak_b0))) (.seq (rg 2 [oM 22 t3,oM 2 t22]) (.cn [2] .ret)))))
def zak_p0_step (s:BA) (n:Int):Option (Int ⊕ Int) :=
 gd ((decide (n<(s.size:Int)))=true→0≤n∧n<s.size) <|
 gd (((decide (n<(s.size:Int))) && (decide ((48:Int)≤(bAt s n))))=true→0≤n∧n<s.size) <|
 bif (((decide (n<(s.size:Int))) && (decide ((48:Int)≤(bAt s n)))) && (decide ((bAt s n)≤(57:Int)))) then (
  gd (qAc (n+(1:Int))) <|
  some (.inl (n+(1:Int))))
 else (
  some (.inr n))
def zak_p0 (s:BA) (n:Int):Option Int :=
 qAw (fun x:Int=>zak_p0_step s x) n
def zak_s (s:BA):Option Int :=
 (zak_p0 s (0:Int)).bind fun o1 =>
 some o1
def zak_G:Nat→Option CQ:=tblQ []
def zak_d0:=(dQS (qAa (dSO 0 dS) (qAa (dSO 3 dZ) dNil)) dNil)
def zak_l0:SubQ:=mkL zak_d0 (fun x=>zak_p0 x.1.1 x.1.2.1) fun x r R kn kx kr=>kx 0 ⟨[sL 3 (.vI r)],[],[]⟩
def zak_L:Nat→SubQ:=tblL [(0,zak_l0)]
theorem zak_sub0:qBe zak_L zak_G 0 4 23 0 zak_b0:=qAo (show zak_L 0=zak_l0 from by kernel_rfl) fun x R kn kx kr=>qAl (step:=fun y=>zak_p0_step x.1.1 y) (enc:=fun (y:Int)=>zak_d0.e ((x.1.1,y,x.1.2.2),x.2)) (fun y=>by kernel_rfl) (fun y ki=>by simp only [zak_p0_step,-eq_self,sZ]; kernel_rfl) x.1.2.1
def zak_c:CS:=mkC (qAa (dVC (dCO dS)) dNil) dNil (fun x y=>zak_s x.1) (fun x y r=>.c (.o (.vI r))) fun x y r=>[]
theorem zak_val:qAh Tryd.prog 118 zak_c:=vl1 zak_q [.tmp 2] 23 4 0 (show qA3 zak_L zak_G 0 4 23 [(0,zak_b0)] from ⟨zak_sub0,tV⟩) (fun f C h=>by cases h) fun x y=>by
 simp only [zak_s,-eq_self,sZ];kernel_rfl
def zak_w:CQ:=qCw [] zak_c
theorem zak_ok:qAe Tryd.prog 118 zak_w:=qAs zak_val
def zcv_b0:IQ:=(.loop [0,1] (.seq (.seq (rg 13 [oM 5 t0,oP 6 (.lenS t5),oP 7 (.bi .gtr t6 (vI 0)),oM 8 t7,oF 9 (.mv t0) 8,oF 10 (.index t9 (vI 0)) 8,oF 11 (.mv t1) 8,oF 12 (.bi .eql t10 t11) 8,oP 13 (.pick t8 t12 vF)]) (.cond t13 .skip (.cn [0] (.exit 0)))) (.block 1 (rg 0 [oM 14 t0,oP 15 (.sub none t14 (some (vI 1)) none),oM 0 t15]))))
def zcv_q:IQ:=(.seq (rg 4 [oP 4 (.mv (.v (.string ⟨#[]⟩)))]) (.seq (.block 0 (.cn [0,1] (.sub 0 zcv_b0))) (.seq (rg 4 [oM 16 t0,oM 4 t16]) (.cn [4] .ret))))
def zcv_p0_step (s:BA) (c:Int):Option (BA ⊕ BA) :=
 gd ((decide ((0:Int)<(s.size:Int)))=true→0≤(0:Int)∧(0:Int)<s.size) <|
 bif ((decide ((0:Int)<(s.size:Int))) && (decide ((bAt s (0:Int))=c))) then (
  gd (0≤(1:Int)∧(1:Int)≤(s.size:Int)∧(s.size:Int)≤s.size) <|
  some (.inl (s.extract 1 s.size)))
 else (
  some (.inr s))
def zcv_p0 (s:BA) (c:Int):Option BA :=
 qAw (fun x:BA=>zcv_p0_step x c) s
def zcv_s (s:BA) (c:Int):Option BA :=
 (zcv_p0 s c).bind fun o1 =>
 some o1
def zcv_G:Nat→Option CQ:=tblQ []
def zcv_d0:=(dQS (qAa (dSO 0 dS) (qAa (dSO 1 (dI .u8)) dNil)) dNil)
def zcv_l0:SubQ:=mkL zcv_d0 (fun x=>zcv_p0 x.1.1 x.1.2.1) fun x r R kn kx kr=>kx 0 ⟨[sL 0 (.vS r)],[],[]⟩
def zcv_L:Nat→SubQ:=tblL [(0,zcv_l0)]
theorem zcv_sub0:qBe zcv_L zcv_G 0 5 17 0 zcv_b0:=qAo (show zcv_L 0=zcv_l0 from by kernel_rfl) fun x R kn kx kr=>qAl (step:=fun y=>zcv_p0_step y x.1.2.1) (enc:=fun (y:BA)=>zcv_d0.e ((y,x.1.2),x.2)) (fun y=>by kernel_rfl) (fun y ki=>by simp only [zcv_p0_step,-eq_self,sZ]; kernel_rfl) x.1.1
def zcv_c:CS:=mkC (qAa (dVC (dCO dS)) (qAa (dVC (dCO (dI .u8))) dNil)) dNil (fun x y=>zcv_s x.1 x.2.1) (fun x y r=>.c (.o (.vS r))) fun x y r=>[]
theorem zcv_val:qAh Tryd.prog 123 zcv_c:=vl1 zcv_q [.tmp 4] 17 5 0 (show qA3 zcv_L zcv_G 0 5 17 [(0,zcv_b0)] from ⟨zcv_sub0,tV⟩) (fun f C h=>by cases h) fun x y=>by
 simp only [zcv_s,-eq_self,sZ];kernel_rfl
def zcv_w:CQ:=qCw [] zcv_c
theorem zcv_ok:qAe Tryd.prog 123 zcv_w:=qAs zcv_val
def zct_q:IQ:=(.seq (rg 4 [oP 4 (.mv (.v (.string ⟨#[]⟩)))]) (.seq (.seq (rg 12 [oM 7 t0,oP 8 (.bi .eql t7 (.v (.string ⟨#[]⟩))),oM 9 t8,oE 10 (.mv t1) 9,oE 11 (.bi .eql t10 (.v (.string ⟨#[]⟩))) 9,oP 12 (.pick t9 vT t11)]) (.cond t12 (.seq (rg 4 [oM 13 t0,oM 4 t13]) (.cn [4] .ret)) .skip)) (.seq (.seq (rg 21 [oM 14 t1,oP 15 (.lenS t14),oP 16 (.bi .eql t15 (vI 1)),oM 17 t16,oF 18 (.mv t1) 17,oF 19 (.index t18 (vI 0)) 17,oF 20 (.bi .lss t19 (vC 128)) 17,oP 21 (.pick t17 t20 vF)]) (.cond t21 (.seq (rg 4 [oM 22 t0,oM 23 t1,oP 24 (.index t23 (vI 0)),oP 25 (.call 123 [t22,t24]),oM 4 t25]) (.cn [4] .ret)) .skip)) (.seq (.seq (rg 6 [oM 27 t1,oP 28 (.call 124 [t27]),oM 26 t28,oP 29 (.extract t26 0),oP 30 (.extract t26 1),oP 5 (.alloc 165 [.bool false,.bool false,.bool false,.bool false,.bool false,.bool false,.bool false,.bool false,.bool false,.bool false,.bool false,.bool false,.bool false,.bool false,.bool false,.bool false,.bool false,.bool false,.bool false,.bool false,.bool false,.bool false,.bool false,.bool false,.bool false,.bool false,.bool false,.bool false,.bool false,.bool false,.bool false,.bool false,.bool false,.bool false,.bool false,.bool false,.bool false,.bool false,.bool false,.bool false,.bool false,.bool false,.bool false,.bool false,.bool false,.bool false,.bool false,.bool false,.bool false,.bool false,.bool false,.bool false,.bool false,.bool false,.bool false,.bool false,.bool false,.bool false,.bool false,.bool false,.bool false,.bool false,.bool false,.bool false,.bool false,.bool false,.bool false,.bool false,.bool false,.bool false,.bool false,.bool false,.bool false,.bool false,.bool false,.bool false,.bool false,.bool false,.bool false,.bool false,.bool false,.bool false,.bool false,.bool false,.bool false,.bool false,.bool false,.bool false,.bool false,.bool false,.bool false,.bool false,.bool false,.bool false,.bool false,.bool false,.bool false,.bool false,.bool false,.bool false,.bool false,.bool false,.bool false,.bool false,.bool false,.bool false,.bool false,.bool false,.bool false,.bool false,.bool false,.bool false,.bool false,.bool false,.bool false,.bool false,.bool false,.bool false,.bool false,.bool false,.bool false,.bool false,.bool false,.bool false,.bool false,.bool false,.bool false,.bool false,.bool false,.bool false,.bool false,.bool false,.bool false,.bool false,.bool false,.bool false,.bool false,.bool false,.bool false,.bool false,.bool false,.bool false,.bool false,.bool false,.bool false,.bool false,.bool false,.bool false,.bool false,.bool false,.bool false,.bool false,.bool false,.bool false,.bool false,.bool false,.bool false,.bool false,.bool false,.bool false,.bool false,.bool false,.bool false,.bool false,.bool false,.bool false,.bool false,.bool false,.bool false,.bool false,.bool false,.bool false,.bool false,.bool false,.bool false,.bool false,.bool false,.bool false,.bool false,.bool false,.bool false,.bool false,.bool false,.bool false,.bool false,.bool false,.bool false,.bool false,.bool false,.bool false,.bool false,.bool false,.bool false,.bool false,.bool false,.bool false,.bool false,.bool false,.bool false,.bool false,.bool false,.bool false,.bool false,.bool false,.bool false,.bool false,.bool false,.bool false,.bool false,.bool false,.bool false,.bool false,.bool false,.bool false,.bool false,.bool false,.bool false,.bool false,.bool false,.bool false,.bool false,.bool false,.bool false,.bool false,.bool false,.bool false,.bool false,.bool false,.bool false,.bool false,.bool false,.bool false,.bool false,.bool false,.bool false,.bool false,.bool false,.bool false,.bool false,.bool false,.bool false,.bool false,.bool false,.bool false,.bool false,.bool false,.bool false,.bool false,.bool false,.bool false,.bool false,.bool false,.bool false,.bool false,.bool false,.bool false]),oN (.store 256 t5 t29),oM 6 t30]) (.seq (rg 31 [oM 31 t6]) (.cond t31 (.seq (rg 4 [oM 32 t0,oP 33 (.call 125 [t32,t5]),oM 4 t33]) (.cn [4] .ret)) .skip))) (.seq (rg 4 [oM 34 t0,oM 35 t1,oP 36 (.call 126 [t34,t35]),oM 4 t36]) (.cn [4] .ret))))))
def zct_s (s cutset:BA):Option BA :=
 bif ((decide (s=(⟨#[]⟩:BA))) || (decide (cutset=(⟨#[]⟩:BA)))) then (
  some s)
 else (
  gd ((decide ((cutset.size:Int)=(1:Int)))=true→0≤(0:Int)∧(0:Int)<cutset.size) <|
  bif ((decide ((cutset.size:Int)=(1:Int))) && (decide ((bAt cutset (0:Int))<(128:Int)))) then (
   gd (0≤(0:Int)∧(0:Int)<cutset.size) <|
   (zcv_s s (bAt cutset (0:Int))).bind fun r1 =>
   some r1)
  else (
   none))
def zct_c:CS:=mkC (qAa (dVC (dCO dS)) (qAa (dVC (dCO dS)) dNil)) dNil (fun x y=>zct_s x.1 x.2.1) (fun x y r=>.c (.o (.vS r))) fun x y r=>[]
theorem zct_val:qAh Tryd.prog 119 zct_c:=vl0 zct_q [.tmp 4] 37 7 0 [(123,zcv_w)] ⟨zcv_ok,tV⟩ fun x y=>by
 simp only [zct_s,-eq_self,sZ];kernel_rfl
def zct_w:CQ:=qCw [] zct_c
theorem zct_ok:qAe Tryd.prog 119 zct_w:=qAs zct_val
def zcw_b0:IQ:=(.loop [0,1] (.seq (.seq (rg 16 [oM 5 t0,oP 6 (.lenS t5),oP 7 (.bi .gtr t6 (vI 0)),oM 8 t7,oF 9 (.mv t0) 8,oF 10 (.mv t0) 8,oF 11 (.lenS t10) 8,oF 12 (.bi .sub t11 (vI 1)) 8,oF 13 (.index t9 t12) 8,oF 14 (.mv t1) 8,oF 15 (.bi .eql t13 t14) 8,oP 16 (.pick t8 t15 vF)]) (.cond t16 .skip (.cn [0] (.exit 0)))) (.block 1 (rg 0 [oM 17 t0,oM 18 t0,oP 19 (.lenS t18),oP 20 (.bi .sub t19 (vI 1)),oP 21 (.sub none t17 none (some t20)),oM 0 t21]))))
def zcw_q:IQ:=(.seq (rg 4 [oP 4 (.mv (.v (.string ⟨#[]⟩)))]) (.seq (.block 0 (.cn [0,1] (.sub 0 zcw_b0))) (.seq (rg 4 [oM 22 t0,oM 4 t22]) (.cn [4] .ret))))
def zcw_p0_step (s:BA) (c:Int):Option (BA ⊕ BA) :=
 gd ((decide ((0:Int)<(s.size:Int)))=true→qAc ((s.size:Int) - (1:Int))) <|
 gd ((decide ((0:Int)<(s.size:Int)))=true→0≤((s.size:Int) - (1:Int))∧((s.size:Int) - (1:Int))<s.size) <|
 bif ((decide ((0:Int)<(s.size:Int))) && (decide ((bAt s ((s.size:Int) - (1:Int)))=c))) then (
  gd (qAc ((s.size:Int) - (1:Int))) <|
  gd (0≤(0:Int)∧(0:Int)≤((s.size:Int) - (1:Int))∧((s.size:Int) - (1:Int))≤s.size) <|
  some (.inl (s.extract 0 (Int.toNat ((s.size:Int) - (1:Int))))))
 else (
  some (.inr s))
def zcw_p0 (s:BA) (c:Int):Option BA :=
 qAw (fun x:BA=>zcw_p0_step x c) s
def zcw_s (s:BA) (c:Int):Option BA :=
 (zcw_p0 s c).bind fun o1 =>
 some o1
def zcw_G:Nat→Option CQ:=tblQ []
def zcw_d0:=(dQS (qAa (dSO 0 dS) (qAa (dSO 1 (dI .u8)) dNil)) dNil)
def zcw_l0:SubQ:=mkL zcw_d0 (fun x=>zcw_p0 x.1.1 x.1.2.1) fun x r R kn kx kr=>kx 0 ⟨[sL 0 (.vS r)],[],[]⟩
def zcw_L:Nat→SubQ:=tblL [(0,zcw_l0)]
theorem zcw_sub0:qBe zcw_L zcw_G 0 5 23 0 zcw_b0:=qAo (show zcw_L 0=zcw_l0 from by kernel_rfl) fun x R kn kx kr=>qAl (step:=fun y=>zcw_p0_step y x.1.2.1) (enc:=fun (y:BA)=>zcw_d0.e ((y,x.1.2),x.2)) (fun y=>by kernel_rfl) (fun y ki=>by simp only [zcw_p0_step,-eq_self,sZ]; kernel_rfl) x.1.1
def zcw_c:CS:=mkC (qAa (dVC (dCO dS)) (qAa (dVC (dCO (dI .u8))) dNil)) dNil (fun x y=>zcw_s x.1 x.2.1) (fun x y r=>.c (.o (.vS r))) fun x y r=>[]
theorem zcw_val:qAh Tryd.prog 127 zcw_c:=vl1 zcw_q [.tmp 4] 23 5 0 (show qA3 zcw_L zcw_G 0 5 23 [(0,zcw_b0)] from ⟨zcw_sub0,tV⟩) (fun f C h=>by cases h) fun x y=>by
 simp only [zcw_s,-eq_self,sZ];kernel_rfl
def zcw_w:CQ:=qCw [] zcw_c
theorem zcw_ok:qAe Tryd.prog 127 zcw_w:=qAs zcw_val
def zcu_q:IQ:=(.seq (rg 4 [oP 4 (.mv (.v (.string ⟨#[]⟩)))]) (.seq (.seq (rg 12 [oM 7 t0,oP 8 (.bi .eql t7 (.v (.string ⟨#[]⟩))),oM 9 t8,oE 10 (.mv t1) 9,oE 11 (.bi .eql t10 (.v (.string ⟨#[]⟩))) 9,oP 12 (.pick t9 vT t11)]) (.cond t12 (.seq (rg 4 [oM 13 t0,oM 4 t13]) (.cn [4] .ret)) .skip)) (.seq (.seq (rg 21 [oM 14 t1,oP 15 (.lenS t14),oP 16 (.bi .eql t15 (vI 1)),oM 17 t16,oF 18 (.mv t1) 17,oF 19 (.index t18 (vI 0)) 17,oF 20 (.bi .lss t19 (vC 128)) 17,oP 21 (.pick t17 t20 vF)]) (.cond t21 (.seq (rg 4 [oM 22 t0,oM 23 t1,oP 24 (.index t23 (vI 0)),oP 25 (.call 127 [t22,t24]),oM 4 t25]) (.cn [4] .ret)) .skip)) (.seq (.seq (rg 6 [oM 27 t1,oP 28 (.call 124 [t27]),oM 26 t28,oP 29 (.extract t26 0),oP 30 (.extract t26 1),oP 5 (.alloc 165 [.bool false,.bool false,.bool false,.bool false,.bool false,.bool false,.bool false,.bool false,.bool false,.bool false,.bool false,.bool false,.bool false,.bool false,.bool false,.bool false,.bool false,.bool false,.bool false,.bool false,.bool false,.bool false,.bool false,.bool false,.bool false,.bool false,.bool false,.bool false,.bool false,.bool false,.bool false,.bool false,.bool false,.bool false,.bool false,.bool false,.bool false,.bool false,.bool false,.bool false,.bool false,.bool false,.bool false,.bool false,.bool false,.bool false,.bool false,.bool false,.bool false,.bool false,.bool false,.bool false,.bool false,.bool false,.bool false,.bool false,.bool false,.bool false,.bool false,.bool false,.bool false,.bool false,.bool false,.bool false,.bool false,.bool false,.bool false,.bool false,.bool false,.bool false,.bool false,.bool false,.bool false,.bool false,.bool false,.bool false,.bool false,.bool false,.bool false,.bool false,.bool false,.bool false,.bool false,.bool false,.bool false,.bool false,.bool false,.bool false,.bool false,.bool false,.bool false,.bool false,.bool false,.bool false,.bool false,.bool false,.bool false,.bool false,.bool false,.bool false,.bool false,.bool false,.bool false,.bool false,.bool false,.bool false,.bool false,.bool false,.bool false,.bool false,.bool false,.bool false,.bool false,.bool false,.bool false,.bool false,.bool false,.bool false,.bool false,.bool false,.bool false,.bool false,.bool false,.bool false,.bool false,.bool false,.bool false,.bool false,.bool false,.bool false,.bool false,.bool false,.bool false,.bool false,.bool false,.bool false,.bool false,.bool false,.bool false,.bool false,.bool false,.bool false,.bool false,.bool false,.bool false,.bool false,.bool false,.bool false,.bool false,.bool false,.bool false,.bool false,.bool false,.bool false,.bool false,.bool false,.bool false,.bool false,.bool false,.bool false,.bool false,.bool false,.bool false,.bool false,.bool false,.bool false,.bool false,.bool false,.bool false,.bool false,.bool false,.bool false,.bool false,.bool false,.bool false,.bool false,.bool false,.bool false,.bool false,.bool false,.bool false,.bool false,.bool false,.bool false,.bool false,.bool false,.bool false,.bool false,.bool false,.bool false,.bool false,.bool false,.bool false,.bool false,.bool false,.bool false,.bool false,.bool false,.bool false,.bool false,.bool false,.bool false,.bool false,.bool false,.bool false,.bool false,.bool false,.bool false,.bool false,.bool false,.bool false,.bool false,.bool false,.bool false,.bool false,.bool false,.bool false,.bool false,.bool false,.bool false,.bool false,.bool false,.bool false,.bool false,.bool false,.bool false,.bool false,.bool false,.bool false,.bool false,.bool false,.bool false,.bool false,.bool false,.bool false,.bool false,.bool false,.bool false,.bool false,.bool false,.bool false,.bool false,.bool false,.bool false,.bool false,.bool false,.bool false,.bool false,.bool false,.bool false,.bool false,.bool false,.bool false,.bool false,.bool false,.bool false]),oN (.store 256 t5 t29),oM 6 t30]) (.seq (rg 31 [oM 31 t6]) (.cond t31 (.seq (rg 4 [oM 32 t0,oP 33 (.call 128 [t32,t5]),oM 4 t33]) (.cn [4] .ret)) .skip))) (.seq (rg 4 [oM 34 t0,oM 35 t1,oP 36 (.call 129 [t34,t35]),oM 4 t36]) (.cn [4] .ret))))))
def zcu_s (s cutset:BA):Option BA :=
 bif ((decide (s=(⟨#[]⟩:BA))) || (decide (cutset=(⟨#[]⟩:BA)))) then (
  some s)
 else (
  gd ((decide ((cutset.size:Int)=(1:Int)))=true→0≤(0:Int)∧(0:Int)<cutset.size) <|
  bif ((decide ((cutset.size:Int)=(1:Int))) && (decide ((bAt cutset (0:Int))<(128:Int)))) then (
   gd (0≤(0:Int)∧(0:Int)<cutset.size) <|
   (zcw_s s (bAt cutset (0:Int))).bind fun r1 =>
   some r1)
  else (
   none))
def zcu_c:CS:=mkC (qAa (dVC (dCO dS)) (qAa (dVC (dCO dS)) dNil)) dNil (fun x y=>zcu_s x.1 x.2.1) (fun x y r=>.c (.o (.vS r))) fun x y r=>[]
theorem zcu_val:qAh Tryd.prog 120 zcu_c:=vl0 zcu_q [.tmp 4] 37 7 0 [(127,zcw_w)] ⟨zcw_ok,tV⟩ fun x y=>by
 simp only [zcu_s,-eq_self,sZ];kernel_rfl
def zcu_w:CQ:=qCw [] zcu_c
theorem zcu_ok:qAe Tryd.prog 120 zcu_w:=qAs zcu_val
def zaj_b0:IQ:=(.join [] [0,4,6,7] (.seq (rg 8 [oM 29 t0,oP 30 (.call 118 [t29]),oM 8 t30]) (.seq (.seq (rg 41 [oM 31 t8,oP 32 (.bi .eql t31 (vI 0)),oM 33 t32,oE 34 (.mv t8) 33,oE 35 (.bi .gtr t34 (vI 1)) 33,oE 36 (.mv t35) 33,oF 37 (.mv t0) 36,oF 38 (.index t37 (vI 0)) 36,oF 39 (.bi .eql t38 (vC 48)) 36,oE 40 (.pick t36 t39 vF) 33,oP 41 (.pick t33 vT t40)]) (.cond t41 (.seq (rg 5 [oP 42 (.load (some 7) t6),oN (.store 7 t4 t42),oP 5 (.mv vF)]) (.cn [4,5] .ret)) .skip)) (.reg 0 (some [0,1,2,3,4,5,6,7,8]) [oM 43 t0,oM 44 t8,oP 45 (.sub none t43 none (some t44)),oM 46 t0,oM 47 t8,oP 48 (.sub none t46 (some t47) none),oP 49 (.faddr 1 t6),oN (.store 1 t49 t45),oM 0 t48]))))
def zaj_b1:IQ:=(.join [] [0,4,6,7] (.seq (rg 10 [oM 51 t0,oP 52 (.call 117 [t51,(.v (.string ⟨#[46]⟩))]),oM 50 t52,oP 53 (.extract t50 0),oP 54 (.extract t50 1),oM 9 t53,oM 10 t54]) (.seq (rg 55 [oM 55 t10]) (.cond t55 (.seq (rg 11 [oM 56 t9,oP 57 (.call 118 [t56]),oM 11 t57]) (.seq (.seq (rg 59 [oM 58 t11,oP 59 (.bi .eql t58 (vI 0))]) (.cond t59 (.seq (rg 5 [oP 60 (.load (some 7) t6),oN (.store 7 t4 t60),oP 5 (.mv vF)]) (.cn [4,5] .ret)) .skip)) (.reg 0 (some [0,1,2,3,4,5,6,7,8,9]) [oM 61 t9,oM 62 t11,oP 63 (.sub none t61 none (some t62)),oM 64 t9,oM 65 t11,oP 66 (.sub none t64 (some t65) none),oP 67 (.faddr 4 t6),oN (.store 1 t67 vF),oM 7 t63,oM 0 t66]))) .skip))))
def zaj_b3:IQ:=(.join [] [0,4,6,7] (.seq (.seq (rg 104 [oM 96 t0,oP 97 (.bi .eql t96 (.v (.string ⟨#[]⟩))),oM 98 t97,oE 99 (.mv t0) 98,oE 100 (.call 118 [t99]) 98,oE 101 (.mv t0) 98,oE 102 (.lenS t101) 98,oE 103 (.bi .neq t100 t102) 98,oP 104 (.pick t98 vT t103)]) (.cond t104 (.seq (rg 5 [oP 105 (.load (some 7) t6),oN (.store 7 t4 t105),oP 5 (.mv vF)]) (.cn [4,5] .ret)) .skip)) (rg 0 [oM 106 t0,oP 107 (.call 119 [t106,(.v (.string ⟨#[48]⟩))]),oP 108 (.faddr 4 t6),oN (.store 1 t108 vF),oP 109 (.faddr 6 t6),oN (.store 1 t109 t107),oP 0 (.mv (.v (.string ⟨#[]⟩)))])))
def zaj_b2:IQ:=(.seq (.seq (rg 75 [oM 68 t0,oP 69 (.bi .neq t68 (.v (.string ⟨#[]⟩))),oM 70 t69,oF 71 (.mv t0) 70,oF 72 (.index t71 (vI 0)) 70,oF 73 (.bi .or t72 (vC 32)) 70,oF 74 (.bi .eql t73 (vC 101)) 70,oP 75 (.pick t70 t74 vF)]) (.cond t75 (.seq (rg 0 [oM 76 t0,oP 77 (.sub none t76 (some (vI 1)) none),oM 0 t77]) (.seq (.seq (rg 89 [oM 78 t0,oP 79 (.bi .neq t78 (.v (.string ⟨#[]⟩))),oM 80 t79,oF 81 (.mv t0) 80,oF 82 (.index t81 (vI 0)) 80,oF 83 (.bi .eql t82 (vC 43)) 80,oF 84 (.mv t83) 80,oE 85 (.mv t0) 84,oE 86 (.index t85 (vI 0)) 84,oE 87 (.bi .eql t86 (vC 45)) 84,oF 88 (.pick t84 vT t87) 80,oP 89 (.pick t80 t88 vF)]) (.cond t89 (.reg 0 (some [0,1,2,3,4,5,6,7]) [oM 90 t0,oP 91 (.index t90 (vI 0)),oP 92 (.bi .eql t91 (vC 45)),oM 93 t0,oP 94 (.sub none t93 (some (vI 1)) none),oP 95 (.faddr 5 t6),oN (.store 1 t95 t92),oM 0 t94]) .skip)) (.cn [0,4,6,7] (.sub 3 zaj_b3)))) .skip)) (.cn [0,4,6,7] (.exit 0)))
def zaj_b4:IQ:=(.seq (rg 12 [oP 110 (.faddr 1 t6),oP 111 (.load none t110),oM 112 t7,oP 113 (.bi .add t111 t112),oM 12 t113]) (.seq (rg 0 [oM 114 t12,oP 115 (.call 119 [t114,(.v (.string ⟨#[48]⟩))]),oP 116 (.faddr 2 t6),oN (.store 1 t116 t115)]) (.seq (rg 0 [oP 117 (.faddr 1 t6),oP 118 (.load none t117),oP 119 (.lenS t118),oM 120 t12,oP 121 (.lenS t120),oP 122 (.faddr 2 t6),oP 123 (.load none t122),oP 124 (.lenS t123),oP 125 (.bi .sub t121 t124),oP 126 (.bi .sub t119 t125),oP 127 (.faddr 3 t6),oN (.store 1 t127 t126)]) (.seq (rg 0 [oP 128 (.faddr 2 t6),oP 129 (.load none t128),oP 130 (.call 120 [t129,(.v (.string ⟨#[48]⟩))]),oP 131 (.faddr 2 t6),oN (.store 1 t131 t130)]) (.seq (.seq (rg 134 [oP 132 (.faddr 6 t6),oP 133 (.load none t132),oP 134 (.bi .eql t133 (.v (.string ⟨#[]⟩)))]) (.cond t134 (rg 0 [oP 135 (.faddr 5 t6),oN (.store 1 t135 vF)]) .skip)) (.seq (rg 5 [oP 136 (.load (some 7) t6),oM 137 t0,oP 138 (.bi .eql t137 (.v (.string ⟨#[]⟩))),oN (.store 7 t4 t136),oM 5 t138]) (.cn [4,5] .ret)))))))
def zaj_q:IQ:=(.seq (rg 5 [oP 4 (.alloc 151 [.bool false,.string ⟨#[]⟩,.string ⟨#[]⟩,.int .i64 0,.bool false,.bool false,.string ⟨#[]⟩]),oP 5 (.mv vF)]) (.seq (rg 0 [oP 13 (.build [.bool false,.string ⟨#[]⟩,.string ⟨#[]⟩,.int .i64 0,.bool false,.bool false,.string ⟨#[]⟩] [(4,1,vT)]),oP 6 (.alloc 151 [.bool false,.string ⟨#[]⟩,.string ⟨#[]⟩,.int .i64 0,.bool false,.bool false,.string ⟨#[]⟩]),oN (.store 7 t6 t13)]) (.seq (rg 7 [oP 7 (.mv (.v (.string ⟨#[]⟩)))]) (.seq (.seq (rg 14 [oM 14 t1]) (.block 0 (.seq (.block 4 (.seq (.block 3 (.seq (.block 2 (.seq (.block 1 (.seq (.seq (.seq (rg 15 [oP 16 (.bi .eql t14 (vI 0)),oM 15 t16]) (.cond t15 (.exit 1) .skip)) (.seq (.seq (rg 17 [oP 18 (.bi .eql t14 (vI 1)),oM 17 t18]) (.cond t17 (.exit 2) .skip)) (.seq (.seq (rg 19 [oP 20 (.bi .eql t14 (vI 2)),oM 19 t20]) (.cond t19 (.exit 3) .skip)) (.seq (rg 21 [oP 22 (.bi .eql t14 (vI 3)),oM 21 t22]) (.cond t21 (.exit 4) .skip))))) (.exit 0))) (rg 0 [oM 24 t0,oP 25 (.call 117 [t24,(.v (.string ⟨#[45]⟩))]),oM 23 t25,oP 26 (.extract t23 0),oP 27 (.extract t23 1),oM 0 t26,oP 28 (.faddr 0 t6),oN (.store 1 t28 t27)]))) (.cn [0,4,6,7] (.sub 0 zaj_b0)))) (.cn [0,4,6,7] (.sub 1 zaj_b1)))) (.cn [0,4,6,7] (.sub 2 zaj_b2))))) (.cn [0,4,6,7] (.sub 4 zaj_b4))))))
def zaj_p0 (s:BA):Option (Bool ⊕ (BA × BA)) :=
 (zak_s s).bind fun r2 =>
 gd ((decide ((1:Int)<r2))=true→(decide (r2=(0:Int)))=false→0≤(0:Int)∧(0:Int)<s.size) <|
 bif ((decide (r2=(0:Int))) || ((decide ((1:Int)<r2)) && (decide ((bAt s (0:Int))=(48:Int))))) then (
  some (.inl false))
 else (
  gd (0≤(0:Int)∧(0:Int)≤r2∧r2≤s.size) <|
  gd (0≤r2∧r2≤(s.size:Int)∧(s.size:Int)≤s.size) <|
  some (.inr ((s.extract (Int.toNat r2) s.size),(s.extract 0 (Int.toNat r2)))))
def zaj_p1 (s behind:BA) (n_plain:Bool):Option (Bool ⊕ (BA × BA × Bool)) :=
 (zcr_s s (⟨#[46]⟩:BA)).bind fun r4 =>
 bif r4.2 then (
  (zak_s r4.1).bind fun r5 =>
  bif decide (r5=(0:Int)) then (
   some (.inl false))
  else (
   gd (0≤(0:Int)∧(0:Int)≤r5∧r5≤r4.1.size) <|
   gd (0≤r5∧r5≤(r4.1.size:Int)∧(r4.1.size:Int)≤r4.1.size) <|
   some (.inr ((r4.1.extract (Int.toNat r5) r4.1.size),(r4.1.extract 0 (Int.toNat r5)),false))))
 else (
  some (.inr (s,behind,n_plain)))
def zaj_p3 (s:BA):Option (Bool ⊕ (BA × Bool × BA)) :=
 bif decide (s=(⟨#[]⟩:BA)) then (
  some (.inl false))
 else (
  (zak_s s).bind fun r7 =>
  bif (!decide (r7=(s.size:Int))) then (
   some (.inl false))
  else (
   (zct_s s (⟨#[48]⟩:BA)).bind fun r8 =>
   some (.inr ((⟨#[]⟩:BA),false,r8))))
def zaj_p2 (s:BA) (n_plain n_down:Bool) (n_exp:BA):Option ((Bool × Bool) ⊕ (BA × Bool × Bool × BA)) :=
 gd ((!decide (s=(⟨#[]⟩:BA)))=true→0≤(0:Int)∧(0:Int)<s.size) <|
 bif ((!decide (s=(⟨#[]⟩:BA))) && (decide ((qAk .u8 (bAt s (0:Int)) (32:Int))=(101:Int)))) then (
  gd (0≤(1:Int)∧(1:Int)≤(s.size:Int)∧(s.size:Int)≤s.size) <|
  gd ((!decide ((s.extract 1 s.size)=(⟨#[]⟩:BA)))=true→0≤(0:Int)∧(0:Int)<(s.extract 1 s.size).size) <|
  gd ((decide ((bAt (s.extract 1 s.size) (0:Int))=(43:Int)))=false→(!decide ((s.extract 1 s.size)=(⟨#[]⟩:BA)))=true→0≤(0:Int)∧(0:Int)<(s.extract 1 s.size).size) <|
  bif ((!decide ((s.extract 1 s.size)=(⟨#[]⟩:BA))) && ((decide ((bAt (s.extract 1 s.size) (0:Int))=(43:Int))) || (decide ((bAt (s.extract 1 s.size) (0:Int))=(45:Int))))) then (
   gd (0≤(0:Int)∧(0:Int)<(s.extract 1 s.size).size) <|
   gd (0≤(1:Int)∧(1:Int)≤((s.extract 1 s.size).size:Int)∧((s.extract 1 s.size).size:Int)≤(s.extract 1 s.size).size) <|
   (zaj_p3 ((s.extract 1 s.size).extract 1 (s.extract 1 s.size).size)).bind fun o9=>(Sum.elim (fun (o9_0:Bool) =>
    some (.inl (o9_0,decide ((bAt (s.extract 1 s.size) (0:Int))=(45:Int))))) (fun (o9_1:BA × Bool × BA) =>
    some (.inr (o9_1.1,o9_1.2.1,decide ((bAt (s.extract 1 s.size) (0:Int))=(45:Int)),o9_1.2.2)))) o9)
  else (
   (zaj_p3 (s.extract 1 s.size)).bind fun o10=>(Sum.elim (fun (o10_0:Bool) =>
    some (.inl (o10_0,n_down))) (fun (o10_1:BA × Bool × BA) =>
    some (.inr (o10_1.1,o10_1.2.1,n_down,o10_1.2.2)))) o10))
 else (
  some (.inr (s,n_plain,n_down,n_exp)))
def zaj_p4 (s behind n_whole:BA) (n_down:Bool) (n_exp:BA):Option (Bool × BA × Int × Bool) :=
 gd (n_whole.size+behind.size≤9223372036854775807) <|
 (zct_s (n_whole++behind) (⟨#[48]⟩:BA)).bind fun r12 =>
 gd (qAc (((n_whole++behind).size:Int) - (r12.size:Int))) <|
 gd (qAc ((n_whole.size:Int) - (((n_whole++behind).size:Int) - (r12.size:Int)))) <|
 (zcu_s r12 (⟨#[48]⟩:BA)).bind fun r13 =>
 bif decide (n_exp=(⟨#[]⟩:BA)) then (
  some (decide (s=(⟨#[]⟩:BA)),r13,((n_whole.size:Int) - (((n_whole++behind).size:Int) - (r12.size:Int))),false))
 else (
  some (decide (s=(⟨#[]⟩:BA)),r13,((n_whole.size:Int) - (((n_whole++behind).size:Int) - (r12.size:Int))),n_down))
def zaj_s (s:BA) (part:Int):Option (decimal_number × Bool) :=
 bif decide (part=(0:Int)) then (
  (zcr_s s (⟨#[45]⟩:BA)).bind fun r1 =>
  (zaj_p0 r1.1).bind fun o3=>(Sum.elim (fun (o3_0:Bool) =>
   some ((⟨r1.2,(⟨#[]⟩:BA),(⟨#[]⟩:BA),(0:Int),true,false,(⟨#[]⟩:BA)⟩:decimal_number),o3_0)) (fun (o3_1:BA × BA) =>
   (zaj_p1 o3_1.1 (⟨#[]⟩:BA) true).bind fun o6=>(Sum.elim (fun (o6_0:Bool) =>
    some ((⟨r1.2,o3_1.2,(⟨#[]⟩:BA),(0:Int),true,false,(⟨#[]⟩:BA)⟩:decimal_number),o6_0)) (fun (o6_1:BA × BA × Bool) =>
    (zaj_p2 o6_1.1 o6_1.2.2 false (⟨#[]⟩:BA)).bind fun o11=>(Sum.elim (fun (o11_0:Bool × Bool) =>
     some ((⟨r1.2,o3_1.2,(⟨#[]⟩:BA),(0:Int),o6_1.2.2,o11_0.2,(⟨#[]⟩:BA)⟩:decimal_number),o11_0.1)) (fun (o11_1:BA × Bool × Bool × BA) =>
     (zaj_p4 o11_1.1 o6_1.2.1 o3_1.2 o11_1.2.2.1 o11_1.2.2.2).bind fun o14 =>
     some ((⟨r1.2,o3_1.2,o14.2.1,o14.2.2.1,o11_1.2.1,o14.2.2.2,o11_1.2.2.2⟩:decimal_number),o14.1))) o11)) o6)) o3)
 else (
  bif decide (part=(1:Int)) then (
   (zaj_p0 s).bind fun o15=>(Sum.elim (fun (o15_0:Bool) =>
    some ((⟨false,(⟨#[]⟩:BA),(⟨#[]⟩:BA),(0:Int),true,false,(⟨#[]⟩:BA)⟩:decimal_number),o15_0)) (fun (o15_1:BA × BA) =>
    (zaj_p1 o15_1.1 (⟨#[]⟩:BA) true).bind fun o16=>(Sum.elim (fun (o16_0:Bool) =>
     some ((⟨false,o15_1.2,(⟨#[]⟩:BA),(0:Int),true,false,(⟨#[]⟩:BA)⟩:decimal_number),o16_0)) (fun (o16_1:BA × BA × Bool) =>
     (zaj_p2 o16_1.1 o16_1.2.2 false (⟨#[]⟩:BA)).bind fun o17=>(Sum.elim (fun (o17_0:Bool × Bool) =>
      some ((⟨false,o15_1.2,(⟨#[]⟩:BA),(0:Int),o16_1.2.2,o17_0.2,(⟨#[]⟩:BA)⟩:decimal_number),o17_0.1)) (fun (o17_1:BA × Bool × Bool × BA) =>
      (zaj_p4 o17_1.1 o16_1.2.1 o15_1.2 o17_1.2.2.1 o17_1.2.2.2).bind fun o18 =>
      some ((⟨false,o15_1.2,o18.2.1,o18.2.2.1,o17_1.2.1,o18.2.2.2,o17_1.2.2.2⟩:decimal_number),o18.1))) o17)) o16)) o15)
  else (
   bif decide (part=(2:Int)) then (
    (zaj_p1 s (⟨#[]⟩:BA) true).bind fun o19=>(Sum.elim (fun (o19_0:Bool) =>
     some ((⟨false,(⟨#[]⟩:BA),(⟨#[]⟩:BA),(0:Int),true,false,(⟨#[]⟩:BA)⟩:decimal_number),o19_0)) (fun (o19_1:BA × BA × Bool) =>
     (zaj_p2 o19_1.1 o19_1.2.2 false (⟨#[]⟩:BA)).bind fun o20=>(Sum.elim (fun (o20_0:Bool × Bool) =>
      some ((⟨false,(⟨#[]⟩:BA),(⟨#[]⟩:BA),(0:Int),o19_1.2.2,o20_0.2,(⟨#[]⟩:BA)⟩:decimal_number),o20_0.1)) (fun (o20_1:BA × Bool × Bool × BA) =>
      (zaj_p4 o20_1.1 o19_1.2.1 (⟨#[]⟩:BA) o20_1.2.2.1 o20_1.2.2.2).bind fun o21 =>
      some ((⟨false,(⟨#[]⟩:BA),o21.2.1,o21.2.2.1,o20_1.2.1,o21.2.2.2,o20_1.2.2.2⟩:decimal_number),o21.1))) o20)) o19)
   else (
    bif decide (part=(3:Int)) then (
     (zaj_p2 s true false (⟨#[]⟩:BA)).bind fun o22=>(Sum.elim (fun (o22_0:Bool × Bool) =>
      some ((⟨false,(⟨#[]⟩:BA),(⟨#[]⟩:BA),(0:Int),true,o22_0.2,(⟨#[]⟩:BA)⟩:decimal_number),o22_0.1)) (fun (o22_1:BA × Bool × Bool × BA) =>
      (zaj_p4 o22_1.1 (⟨#[]⟩:BA) (⟨#[]⟩:BA) o22_1.2.2.1 o22_1.2.2.2).bind fun o23 =>
      some ((⟨false,(⟨#[]⟩:BA),o23.2.1,o23.2.2.1,o22_1.2.1,o23.2.2.2,o22_1.2.2.2⟩:decimal_number),o23.1))) o22)
    else (
     (zaj_p4 s (⟨#[]⟩:BA) (⟨#[]⟩:BA) false (⟨#[]⟩:BA)).bind fun o24 =>
     some ((⟨false,(⟨#[]⟩:BA),o24.2.1,o24.2.2.1,true,o24.2.2.2,(⟨#[]⟩:BA)⟩:decimal_number),o24.1)))))
def zaj_G:Nat→Option CQ:=tblQ [(117,zcr_w),(118,zak_w),(119,zct_w),(120,zcu_w)]
def zDGC1:=(qCv 151 (qAa dB (qAa dS (qAa dS (qAa dZ (qAa dB (qAa dB (qAa dS dNil))))))))
def zDGC2:=(qAa (dSO 0 dS) (qAa (dSO 4 (dH 0 0)) (qAa (dSO 6 (dH 1 0)) (qAa (dSO 7 dS) dNil))))
def zDGC3:=(qAa zDGC1 (qAa zDGC1 dNil))
def zaj_d0:=(dQS zDGC2 zDGC3)
def zaj_l0:SubQ:=mkL zaj_d0 (fun x=>zaj_p0 x.1.1) fun x r R kn kx kr=>(Sum.elim (fun (r_0:Bool)=>kr ⟨[sL 4 (.hd 0 0),sL 5 (.vB r_0)],[],[.cells 151 [.vB x.2.2.1.1,.vS x.2.2.1.2.1,.vS x.2.2.1.2.2.1,.vI x.2.2.1.2.2.2.1,.vB x.2.2.1.2.2.2.2.1,.vB x.2.2.1.2.2.2.2.2.1,.vS x.2.2.1.2.2.2.2.2.2.1]]⟩) (fun (r_1:BA × BA)=>kn ⟨[sL 0 (.vS r_1.1),sL 4 (.hd 0 0),sL 6 (.hd 1 0),sL 7 (.vS x.1.2.2.2.1)],[],[.cells 151 [.vB x.2.1.1,.vS x.2.1.2.1,.vS x.2.1.2.2.1,.vI x.2.1.2.2.2.1,.vB x.2.1.2.2.2.2.1,.vB x.2.1.2.2.2.2.2.1,.vS x.2.1.2.2.2.2.2.2.1],.cells 151 [.vB x.2.2.1.1,.vS r_1.2,.vS x.2.2.1.2.2.1,.vI x.2.2.1.2.2.2.1,.vB x.2.2.1.2.2.2.2.1,.vB x.2.2.1.2.2.2.2.2.1,.vS x.2.2.1.2.2.2.2.2.2.1]]⟩)) r
def zaj_d1:=(dQS zDGC2 zDGC3)
def zaj_l1:SubQ:=mkL zaj_d1 (fun x=>zaj_p1 x.1.1 x.1.2.2.2.1 x.2.2.1.2.2.2.2.1) fun x r R kn kx kr=>(Sum.elim (fun (r_0:Bool)=>kr ⟨[sL 4 (.hd 0 0),sL 5 (.vB r_0)],[],[.cells 151 [.vB x.2.2.1.1,.vS x.2.2.1.2.1,.vS x.2.2.1.2.2.1,.vI x.2.2.1.2.2.2.1,.vB x.2.2.1.2.2.2.2.1,.vB x.2.2.1.2.2.2.2.2.1,.vS x.2.2.1.2.2.2.2.2.2.1]]⟩) (fun (r_1:BA × BA × Bool)=>kn ⟨[sL 0 (.vS r_1.1),sL 4 (.hd 0 0),sL 6 (.hd 1 0),sL 7 (.vS r_1.2.1)],[],[.cells 151 [.vB x.2.1.1,.vS x.2.1.2.1,.vS x.2.1.2.2.1,.vI x.2.1.2.2.2.1,.vB x.2.1.2.2.2.2.1,.vB x.2.1.2.2.2.2.2.1,.vS x.2.1.2.2.2.2.2.2.1],.cells 151 [.vB x.2.2.1.1,.vS x.2.2.1.2.1,.vS x.2.2.1.2.2.1,.vI x.2.2.1.2.2.2.1,.vB r_1.2.2,.vB x.2.2.1.2.2.2.2.2.1,.vS x.2.2.1.2.2.2.2.2.2.1]]⟩)) r
def zaj_d3:=(dQS zDGC2 zDGC3)
def zaj_l3:SubQ:=mkL zaj_d3 (fun x=>zaj_p3 x.1.1) fun x r R kn kx kr=>(Sum.elim (fun (r_0:Bool)=>kr ⟨[sL 4 (.hd 0 0),sL 5 (.vB r_0)],[],[.cells 151 [.vB x.2.2.1.1,.vS x.2.2.1.2.1,.vS x.2.2.1.2.2.1,.vI x.2.2.1.2.2.2.1,.vB x.2.2.1.2.2.2.2.1,.vB x.2.2.1.2.2.2.2.2.1,.vS x.2.2.1.2.2.2.2.2.2.1]]⟩) (fun (r_1:BA × Bool × BA)=>kn ⟨[sL 0 (.vS r_1.1),sL 4 (.hd 0 0),sL 6 (.hd 1 0),sL 7 (.vS x.1.2.2.2.1)],[],[.cells 151 [.vB x.2.1.1,.vS x.2.1.2.1,.vS x.2.1.2.2.1,.vI x.2.1.2.2.2.1,.vB x.2.1.2.2.2.2.1,.vB x.2.1.2.2.2.2.2.1,.vS x.2.1.2.2.2.2.2.2.1],.cells 151 [.vB x.2.2.1.1,.vS x.2.2.1.2.1,.vS x.2.2.1.2.2.1,.vI x.2.2.1.2.2.2.1,.vB r_1.2.1,.vB x.2.2.1.2.2.2.2.2.1,.vS r_1.2.2]]⟩)) r
def zaj_d2:=(dQS zDGC2 zDGC3)
def zaj_l2:SubQ:=mkL zaj_d2 (fun x=>zaj_p2 x.1.1 x.2.2.1.2.2.2.2.1 x.2.2.1.2.2.2.2.2.1 x.2.2.1.2.2.2.2.2.2.1) fun x r R kn kx kr=>(Sum.elim (fun (r_0:Bool × Bool)=>kr ⟨[sL 4 (.hd 0 0),sL 5 (.vB r_0.1)],[],[.cells 151 [.vB x.2.2.1.1,.vS x.2.2.1.2.1,.vS x.2.2.1.2.2.1,.vI x.2.2.1.2.2.2.1,.vB x.2.2.1.2.2.2.2.1,.vB r_0.2,.vS x.2.2.1.2.2.2.2.2.2.1]]⟩) (fun (r_1:BA × Bool × Bool × BA)=>kx 0 ⟨[sL 0 (.vS r_1.1),sL 4 (.hd 0 0),sL 6 (.hd 1 0),sL 7 (.vS x.1.2.2.2.1)],[],[.cells 151 [.vB x.2.1.1,.vS x.2.1.2.1,.vS x.2.1.2.2.1,.vI x.2.1.2.2.2.1,.vB x.2.1.2.2.2.2.1,.vB x.2.1.2.2.2.2.2.1,.vS x.2.1.2.2.2.2.2.2.1],.cells 151 [.vB x.2.2.1.1,.vS x.2.2.1.2.1,.vS x.2.2.1.2.2.1,.vI x.2.2.1.2.2.2.1,.vB r_1.2.1,.vB r_1.2.2.1,.vS r_1.2.2.2]]⟩)) r
def zaj_d4:=(dQS zDGC2 zDGC3)
def zaj_l4:SubQ:=mkL zaj_d4 (fun x=>zaj_p4 x.1.1 x.1.2.2.2.1 x.2.2.1.2.1 x.2.2.1.2.2.2.2.2.1 x.2.2.1.2.2.2.2.2.2.1) fun x r R kn kx kr=>kr ⟨[sL 4 (.hd 0 0),sL 5 (.vB r.1)],[],[.cells 151 [.vB x.2.2.1.1,.vS x.2.2.1.2.1,.vS r.2.1,.vI r.2.2.1,.vB x.2.2.1.2.2.2.2.1,.vB r.2.2.2,.vS x.2.2.1.2.2.2.2.2.2.1]]⟩
def zaj_L:Nat→SubQ:=tblL [(0,zaj_l0),(1,zaj_l1),(3,zaj_l3),(2,zaj_l2),(4,zaj_l4)]
theorem zaj_sub0:qBe zaj_L zaj_G 0 15 139 0 zaj_b0:=qAo (show zaj_L 0=zaj_l0 from by kernel_rfl) fun x R kn kx kr=>by
 simp only [zaj_p0,-eq_self,sZ];kernel_rfl
theorem zaj_sub1:qBe zaj_L zaj_G 0 15 139 1 zaj_b1:=qAo (show zaj_L 1=zaj_l1 from by kernel_rfl) fun x R kn kx kr=>by
 simp only [zaj_p1,-eq_self,sZ];kernel_rfl
theorem zaj_sub3:qBe zaj_L zaj_G 0 15 139 3 zaj_b3:=qAo (show zaj_L 3=zaj_l3 from by kernel_rfl) fun x R kn kx kr=>by
 simp only [zaj_p3,-eq_self,sZ];kernel_rfl
theorem zaj_sub2:qBe zaj_L zaj_G 0 15 139 2 zaj_b2:=qAo (show zaj_L 2=zaj_l2 from by kernel_rfl) fun x R kn kx kr=>by
 simp only [zaj_p2,-eq_self,sZ];kernel_rfl
theorem zaj_sub4:qBe zaj_L zaj_G 0 15 139 4 zaj_b4:=qAo (show zaj_L 4=zaj_l4 from by kernel_rfl) fun x R kn kx kr=>by
 simp only [zaj_p4,-eq_self,sZ];kernel_rfl
def zaj_c:CS:=mkC (qAa (dVC (dCO dS)) (qAa (dVC (dCO dZ)) dNil)) dNil (fun x y=>zaj_s x.1 x.2.1) (fun x y r=>.tup [.agg [.vB r.1.minus,.vS r.1.whole,.vS r.1.digits,.vI r.1.point,.vB r.1.plain,.vB r.1.down,.vS r.1.exp_],.o (.vB r.2)]) fun x y r=>[]
theorem zaj_val:qAh Tryd.prog 114 zaj_c:=vl1 zaj_q [.cell 4 (some 7),.tmp 5] 139 15 0 (show qA3 zaj_L zaj_G 0 15 139 [(0,zaj_b0),(1,zaj_b1),(2,zaj_b2),(3,zaj_b3),(4,zaj_b4)] from ⟨zaj_sub0,zaj_sub1,zaj_sub2,zaj_sub3,zaj_sub4,tV⟩) (qAr ⟨zcr_ok,zak_ok,zct_ok,zcu_ok,tV⟩) fun x y=>by
 simp only [zaj_s,-eq_self,sZ];kernel_rfl
def zaj_w:CQ:=qCw [] zaj_c
theorem zaj_ok:qAe Tryd.prog 114 zaj_w:=qAs zaj_val
def zai_b0:IQ:=(.loop [4,6,23,24] (.seq (rg 25 [oP 25 (.bi .lss t24 t23)]) (.seq (.cond t25 .skip (.cn [4,6] (.exit 0))) (.seq (.block 1 (.seq (rg 7 [oM 26 t24,oM 7 t26]) (.seq (rg 8 [oP 27 (.faddr 1 t4),oP 28 (.load none t27),oM 29 t7,oP 30 (.index t28 t29),oP 31 (.bi .sub t30 (vC 48)),oP 32 (.conv false .u64 t31),oM 8 t32]) (.seq (.seq (rg 37 [oM 33 t6,oM 34 t8,oP 35 (.bi .sub (.v (.int .u64 9223372036854775808)) t34),oP 36 (.bi .quo t35 (.v (.int .u64 10))),oP 37 (.bi .gtr t33 t36)]) (.cond t37 (.seq (rg 3 [oP 2 (.mv (vI 0)),oP 3 (.mv vF)]) (.cn [2,3] .ret)) .skip)) (rg 6 [oM 38 t6,oP 39 (.bi .mul (.v (.int .u64 10)) t38),oM 40 t8,oP 41 (.bi .add t39 t40),oM 6 t41]))))) (rg 24 [oP 42 (.bi .add t24 (vI 1)),oM 24 t42])))))
def zai_q:IQ:=(.seq (rg 3 [oP 2 (.mv (vI 0)),oP 3 (.mv vF)]) (.seq (rg 5 [oM 10 t0,oP 11 (.call 114 [t10,(vI 0)]),oM 9 t11,oP 12 (.extract t9 0),oP 13 (.extract t9 1),oP 4 (.alloc 151 [.bool false,.string ⟨#[]⟩,.string ⟨#[]⟩,.int .i64 0,.bool false,.bool false,.string ⟨#[]⟩]),oN (.store 7 t4 t12),oM 5 t13]) (.seq (.seq (rg 20 [oM 14 t5,oP 15 (.un .not t14),oM 16 t15,oE 17 (.faddr 4 t4) 16,oE 18 (.load none t17) 16,oE 19 (.un .not t18) 16,oP 20 (.pick t16 vT t19)]) (.cond t20 (.seq (rg 3 [oP 2 (.mv (vI 0)),oP 3 (.mv vF)]) (.cn [2,3] .ret)) .skip)) (.seq (rg 6 [oP 6 (.mv (.v (.int .u64 0)))]) (.seq (.seq (rg 24 [oP 21 (.faddr 1 t4),oP 22 (.load none t21),oP 23 (.lenS t22),oP 24 (.mv (vI 0))]) (.block 0 (.cn [4,6,23,24] (.sub 0 zai_b0)))) (.seq (.seq (rg 49 [oP 43 (.faddr 0 t4),oP 44 (.load none t43),oP 45 (.un .not t44),oM 46 t45,oF 47 (.mv t6) 46,oF 48 (.bi .eql t47 (.v (.int .u64 9223372036854775808))) 46,oP 49 (.pick t46 t48 vF)]) (.cond t49 (.seq (rg 3 [oP 2 (.mv (vI 0)),oP 3 (.mv vF)]) (.cn [2,3] .ret)) .skip)) (.seq (.seq (rg 51 [oP 50 (.faddr 0 t4),oP 51 (.load none t50)]) (.cond t51 (rg 6 [oM 52 t6,oP 53 (.un .neg t52),oM 6 t53]) .skip)) (.seq (rg 3 [oM 54 t6,oP 55 (.conv true .i64 t54),oM 2 t55,oP 3 (.mv vT)]) (.cn [2,3] .ret)))))))))
def qDv (v x23_ x24_:Int) (n_whole:BA):Option ((Int × Int) ⊕ ((Int × Bool) ⊕ Int)) :=
 bif decide (x24_<x23_) then (
  gd (0≤x24_∧x24_<n_whole.size) <|
  gd (0≤(((9223372036854775808:Int) - ((((bAt n_whole x24_) - (48:Int)) % 256) % 18446744073709551616)) % 18446744073709551616)∧(((9223372036854775808:Int) - ((((bAt n_whole x24_) - (48:Int)) % 256) % 18446744073709551616)) % 18446744073709551616)≤18446744073709551615∧1≤(10:Int)) <|
  bif decide (((((9223372036854775808:Int) - ((((bAt n_whole x24_) - (48:Int)) % 256) % 18446744073709551616)) % 18446744073709551616) / (10:Int))<v) then (
   some (.inr (.inl ((0:Int),false))))
  else (
   gd (qAc (x24_+(1:Int))) <|
   some (.inl ((((((10:Int)*v) % 18446744073709551616)+((((bAt n_whole x24_) - (48:Int)) % 256) % 18446744073709551616)) % 18446744073709551616),(x24_+(1:Int))))))
 else (
  some (.inr (.inr v)))
def zai_p0 (v x23_ x24_:Int) (n_whole:BA):Option ((Int × Bool) ⊕ Int) :=
 qAw (fun x:(Int × Int)=>qDv x.1 x23_ x.2 n_whole) (v,x24_)
def zai_s (text:BA):Option (Int × Bool) :=
 (zaj_s text (0:Int)).bind fun r3 =>
 bif ((!r3.2) || (!r3.1.plain)) then (
  some ((0:Int),false))
 else (
  (zai_p0 (0:Int) (r3.1.whole.size:Int) (0:Int) r3.1.whole).bind fun o4=>(Sum.elim (fun (o4_0:Int × Bool) =>
   some (o4_0.1,o4_0.2)) (fun (o4_1:Int) =>
   bif ((!r3.1.minus) && (decide (o4_1=(9223372036854775808:Int)))) then (
    some ((0:Int),false))
   else (
    bif r3.1.minus then (
     some (w64 ((0 - o4_1) % 18446744073709551616),true))
    else (
     some (w64 o4_1,true))))) o4)
def zai_G:Nat→Option CQ:=tblQ [(114,zaj_w)]
def zai_d0:=(dQS (qAa (dSO 4 (dH 0 0)) (qAa (dSO 6 (dI .u64)) (qAa (dSO 23 dZ) (qAa (dSO 24 dZ) dNil)))) (qAa zDGC1 dNil))
def zai_l0:SubQ:=mkL zai_d0 (fun x=>zai_p0 x.1.2.1 x.1.2.2.1 x.1.2.2.2.1 x.2.1.2.1) fun x r R kn kx kr=>(Sum.elim (fun (r_0:Int × Bool)=>kr ⟨[sL 2 (.vI r_0.1),sL 3 (.vB r_0.2)],[],[]⟩) (fun (r_1:Int)=>kx 0 ⟨[sL 4 (.hd 0 0),(6,[],.c (.o (.val (.int .u64 r_1))))],[],[.cells 151 [.vB x.2.1.1,.vS x.2.1.2.1,.vS x.2.1.2.2.1,.vI x.2.1.2.2.2.1,.vB x.2.1.2.2.2.2.1,.vB x.2.1.2.2.2.2.2.1,.vS x.2.1.2.2.2.2.2.2.1]]⟩)) r
def zai_L:Nat→SubQ:=tblL [(0,zai_l0)]
theorem zai_sub0:qBe zai_L zai_G 0 25 56 0 zai_b0:=qAo (show zai_L 0=zai_l0 from by kernel_rfl) fun x R kn kx kr=>qAl (step:=fun y=>qDv y.1 x.1.2.2.1 y.2 x.2.1.2.1) (enc:=fun (y:Int × Int)=>zai_d0.e ((x.1.1,y.1,x.1.2.2.1,y.2,x.1.2.2.2.2),x.2)) (fun y=>by kernel_rfl) (fun y ki=>by simp only [qDv,-eq_self,sZ]; kernel_rfl) (x.1.2.1,x.1.2.2.2.1)
def zai_c:CS:=mkC (qAa (dVC (dCO dS)) dNil) dNil (fun x y=>zai_s x.1) (fun x y r=>.tup [.o (.vI r.1),.o (.vB r.2)]) fun x y r=>[]
theorem zai_val:qAh Tryd.prog 109 zai_c:=vl1 zai_q [.tmp 2,.tmp 3] 56 25 0 (raws:=[55]) (show qA3 zai_L zai_G 0 25 56 [(0,zai_b0)] from ⟨zai_sub0,tV⟩) (qAr ⟨zaj_ok,tV⟩) fun x y=>by
 simp only [zai_s,-eq_self,sZ];kernel_rfl
def zai_w:CQ:=qCw [] zai_c
theorem zai_ok:qAe Tryd.prog 109 zai_w:=qAs zai_val
end
structure DKey where
 ds:List Int
 pow:Int
def Dig (l:List Int):Prop:=∀d∈l,0≤d∧d≤9
def LastNZ:List Int→Prop
 | []=>True
 | [d]=>d≠0
 | _::l=>LastNZ l
structure Norm (a:DKey):Prop where
 dig:Dig a.ds
 last:LastNZ a.ds
 first:∀d,a.ds.head?=some d→d≠0
end Go.Proofs.YtlmfmmgfiffjiaaDoor
namespace Go.Proofs.YtlmfmmgfiffjiaaDoor
open Go.Eng
end Go.Proofs.YtlmfmmgfiffjiaaDoor
namespace Go.Proofs.YtlmfmmgfiffjiaaDoor
open Go.Eng
end Go.Proofs.YtlmfmmgfiffjiaaDoor
namespace Go.Proofs.YtlmfmmgfiffjiaaDoor
open Go.Eng
def chr (d:Int):UInt8:=UInt8.ofNat ((48+d) % 256).toNat
def byteD (l:List Int):List UInt8:=l.map chr
def dotF (F:List Int):List UInt8:=if F=[] then [] else 46::byteD F
structure NumTxt (t:BA) (W F:List Int):Prop where
 txt:t.data.toList=byteD W++dotF F
 dw:Dig W
 df:Dig F
 ne:W≠[]
 head:W.head?≠some 0∨W.length=1
section
variable {t:BA} {W F:List Int} (h:NumTxt t W F)
include h
end
end Go.Proofs.YtlmfmmgfiffjiaaDoor
namespace Go.Proofs.YtlmfmmgfiffjiaaDoor
open Go.Eng
section
variable (s:BA) (hsz:s.size<1000000000)
include hsz
end
section
variable (s:BA) (hsz:s.size<1000000000)
include hsz
end
end Go.Proofs.YtlmfmmgfiffjiaaDoor
namespace Go.Proofs.YtlmfmmgfiffjiaaDoor
open Go.Eng
set_option maxRecDepth 100000
noncomputable section
structure qIk where
 at_:Int
 l:(List Eng.Node)
 s:BA
 code:Int
 bad:Int
def zbc_b0:IQ:=(.loop [0,1,5] (.seq (.seq (rg 21 [oM 14 t5,oP 15 (.bi .gtr t14 (vI 0)),oM 16 t15,oF 17 (.mv t1) 16,oF 18 (.mv t0) 16,oF 19 (.len t18) 16,oF 20 (.bi .lss t17 t19) 16,oP 21 (.pick t16 t20 vF)]) (.cond t21 .skip (.cn [1] (.exit 0)))) (.seq (.block 1 (rg 5 [oM 24 t5,oM 25 t0,oM 26 t1,oP 27 (.iaddr 6 t25 t26),oP 28 (.faddr 5 t27),oP 29 (.load none t28),oP 30 (.bin true .sub t29 (vI 1)),oP 31 (.bin true .add t24 t30),oM 5 t31])) (rg 1 [oM 22 t1,oP 23 (.bi .add t22 (vI 1)),oM 1 t23]))))
def zbc_q:IQ:=(.seq (rg 4 [oP 4 (.mv (vI 0))]) (.seq (.seq (rg 13 [oM 6 t1,oP 7 (.bi .lss t6 (vI 0)),oM 8 t7,oE 9 (.mv t1) 8,oE 10 (.mv t0) 8,oE 11 (.len t10) 8,oE 12 (.bi .geq t9 t11) 8,oP 13 (.pick t8 vT t12)]) (.cond t13 (.seq (rg 4 [oP 4 (.mv (.v (.int .i64 (-1))))]) (.cn [4] .ret)) .skip)) (.seq (.seq (rg 5 [oP 5 (.mv (vI 1))]) (.block 0 (.cn [0,1,5] (.sub 0 zbc_b0)))) (.seq (rg 4 [oM 32 t1,oM 4 t32]) (.cn [4] .ret)))))
def qDw (at_ left:Int) (v:List Eng.Node):Option ((Int × Int) ⊕ Int) :=
 bif ((decide ((0:Int)<left)) && (decide (at_<(v.length:Int)))) then (
  gd (0≤at_∧at_<v.length) <|
  gd ((Int.toNat at_)<v.length) <|
  gd ((Int.toNat at_)<v.length) <|
  gd (qAc (at_+(1:Int))) <|
  some (.inl ((at_+(1:Int)),w64 (left+(w64 (((v.getD (Int.toNat at_) (ET.dft .node)).kids) - (1:Int)))))))
 else (
  some (.inr at_))
def zbc_p0 (at_ left:Int) (v:List Eng.Node):Option Int :=
 qAw (fun x:(Int × Int)=>qDw x.1 x.2 v) (at_,left)
def zbc_s (v:(List Eng.Node)) (at_:Int):Option Int :=
 bif ((decide (at_<(0:Int))) || (decide ((v.length:Int)≤at_))) then (
  some (-1:Int))
 else (
  (zbc_p0 at_ (1:Int) v).bind fun o1 =>
  some o1)
def zbc_G:Nat→Option CQ:=tblQ []
def zbc_d0:=(dQS (qAa (dSO 0 (dO 0)) (qAa (dSO 1 dZ) (qAa (dSO 5 dZ) dNil))) (qAa (qBn .node) dNil))
def zbc_l0:SubQ:=mkL zbc_d0 (fun x=>zbc_p0 x.1.2.1 x.1.2.2.1 x.2.1) fun x r R kn kx kr=>kx 0 ⟨[sL 1 (.vI r)],[],[.view .node x.2.1]⟩
def zbc_L:Nat→SubQ:=tblL [(0,zbc_l0)]
theorem zbc_sub0:qBe zbc_L zbc_G 1 6 33 0 zbc_b0:=qAo (show zbc_L 0=zbc_l0 from by kernel_rfl) fun x R kn kx kr=>qAl (step:=fun y=>qDw y.1 y.2 x.2.1) (enc:=fun (y:Int × Int)=>zbc_d0.e ((x.1.1,y.1,y.2,x.1.2.2.2),x.2)) (fun y=>by kernel_rfl) (fun y ki=>by simp only [qDw,-eq_self,sZ]; kernel_rfl) (x.1.2.1,x.1.2.2.1)
def zbc_c:CS:=mkC (qAa (dVC (dCO (dO 0))) (qAa (dVC (dCO dZ)) dNil)) (qAa (qBn .node) dNil) (fun x y=>zbc_s y.1 x.2.1) (fun x y r=>.c (.o (.vI r))) fun x y r=>[.view .node y.1]
theorem zbc_val:qAh Tryd.prog 71 zbc_c:=vl1 zbc_q [.tmp 4] 33 6 1 (raws:=[30,31]) (show qA3 zbc_L zbc_G 1 6 33 [(0,zbc_b0)] from ⟨zbc_sub0,tV⟩) (fun f C h=>by cases h) fun x y=>by
 simp only [zbc_s,-eq_self,sZ];kernel_rfl
def zbc_w:CQ:=qBk [(0,none,some (.node,39))] (qCw [false] zbc_c)
theorem zbc_ok:qAe Tryd.prog 71 zbc_w:=qEx zbc_val
def zbd_b0:IQ:=(.loop [0,1,5,6,7] (.seq (.seq (rg 34 [oM 18 t7,oM 19 t0,oM 20 t1,oP 21 (.iaddr 6 t19 t20),oP 22 (.faddr 5 t21),oP 23 (.load none t22),oP 24 (.bi .lss t18 t23),oM 25 t24,oF 26 (.mv t6) 25,oF 27 (.bi .geq t26 (vI 0)) 25,oP 28 (.pick t25 t27 vF),oM 29 t28,oF 30 (.mv t6) 29,oF 31 (.mv t0) 29,oF 32 (.len t31) 29,oF 33 (.bi .lss t30 t32) 29,oP 34 (.pick t29 t33 vF)]) (.cond t34 .skip (.cn [5] (.exit 0)))) (.seq (.block 1 (.seq (rg 5 [oM 37 t5,oM 38 t6,oP 39 (.bslice 3 1 1 [.int .i64 0] [(0,t38)]),oP 40 (.append 3 1 8 [.int .i64 0] t37 t39),oM 5 t40]) (rg 6 [oM 41 t0,oM 42 t6,oP 43 (.call 71 [t41,t42]),oM 6 t43]))) (rg 7 [oM 35 t7,oP 36 (.bi .add t35 (vI 1)),oM 7 t36]))))
def zbd_q:IQ:=(.seq (rg 4 [oP 4 (.mv (.v (.slice none 0 0)))]) (.seq (.seq (rg 15 [oM 8 t1,oP 9 (.bi .lss t8 (vI 0)),oM 10 t9,oE 11 (.mv t1) 10,oE 12 (.mv t0) 10,oE 13 (.len t12) 10,oE 14 (.bi .geq t11 t13) 10,oP 15 (.pick t10 vT t14)]) (.cond t15 (.seq (rg 4 [oP 4 (.mv (.v (.slice none 0 0)))]) (.canon [(4,none,.i64,3)] [4] .ret)) .skip)) (.seq (rg 5 [oP 5 (.mv (.v (.slice none 0 0)))]) (.seq (rg 6 [oM 16 t1,oP 17 (.bi .add t16 (vI 1)),oM 6 t17]) (.seq (.seq (rg 7 [oP 7 (.mv (vI 0))]) (.block 0 (.canon [(5,none,.i64,3)] [0,1,5,6,7] (.sub 0 zbd_b0)))) (.seq (rg 4 [oM 44 t5,oM 4 t44]) (.canon [(4,none,.i64,3)] [4] .ret)))))))
def qFc (at_ next i:Int) (v:List Eng.Node) (out:List Int):Option ((Int × Int × (List Int)) ⊕ ((List Int))) :=
 gd (0≤at_∧at_<v.length) <|
 gd ((Int.toNat at_)<v.length) <|
 gd ((Int.toNat at_)<v.length) <|
 bif (((decide (i<((v.getD (Int.toNat at_) (ET.dft .node)).kids))) && (decide ((0:Int)≤next))) && (decide (next<(v.length:Int)))) then (
  gd (out.length+([next]:List Int).length≤9223372036854775807∧(out.length+([next]:List Int).length)*8≤140737488355328) <|
  (zbc_s v next).bind fun r5 =>
  gd (qAc (i+(1:Int))) <|
  some (.inl (r5,(i+(1:Int)),(out++[next]))))
 else (
  some (.inr out))
def zbd_p0 (at_ next i:Int) (v:List Eng.Node) (out:List Int):Option ((List Int)) :=
 qAw (fun x:(Int × Int × (List Int))=>qFc at_ x.1 x.2.1 v x.2.2) (next,i,out)
def zbd_s (v:(List Eng.Node)) (at_:Int):Option ((List Int)) :=
 bif ((decide (at_<(0:Int))) || (decide ((v.length:Int)≤at_))) then (
  some [])
 else (
  gd (qAc (at_+(1:Int))) <|
  (zbd_p0 at_ (at_+(1:Int)) (0:Int) v []).bind fun o6 =>
  some o6)
def zbd_G:Nat→Option CQ:=tblQ [(71,zbc_w)]
def zbd_d0:=(dQS (qAa (dSO 0 (dO 0)) (qAa (dSO 1 dZ) (qAa (dSO 5 (dO 1)) (qAa (dSO 6 dZ) (qAa (dSO 7 dZ) dNil))))) (qAa (qBn .node) (qAa (dRow .i64 3) dNil)))
def zbd_l0:SubQ:=mkL zbd_d0 (fun x=>zbd_p0 x.1.2.1 x.1.2.2.2.1 x.1.2.2.2.2.1 x.2.1 x.2.2.1) fun x r R kn kx kr=>kx 0 ⟨[sL 5 (.own 1)],[],[.view .node x.2.1,.row .i64 3 r]⟩
def zbd_L:Nat→SubQ:=tblL [(0,zbd_l0)]
theorem zbd_sub0:qBe zbd_L zbd_G 1 8 45 0 zbd_b0:=qAo (show zbd_L 0=zbd_l0 from by kernel_rfl) fun x R kn kx kr=>qAl (step:=fun y=>qFc x.1.2.1 y.1 y.2.1 x.2.1 y.2.2) (enc:=fun (y:Int × Int × (List Int))=>zbd_d0.e ((x.1.1,x.1.2.1,x.1.2.2.1,y.1,y.2.1,x.1.2.2.2.2.2),(x.2.1,y.2.2,x.2.2.2))) (fun y=>by kernel_rfl) (fun y ki=>by simp only [qFc,-eq_self,sZ]; kernel_rfl) (x.1.2.2.2.1,x.1.2.2.2.2.1,x.2.2.1)
def zbd_c:CS:=mkC (qAa (dVC (dCO (dO 0))) (qAa (dVC (dCO dZ)) dNil)) (qAa (qBn .node) dNil) (fun x y=>zbd_s y.1 x.2.1) (fun x y r=>.c (.o (.own 1))) fun x y r=>[.view .node y.1,.row .i64 3 r]
theorem zbd_val:qAh Tryd.prog 59 zbd_c:=vl1 zbd_q [.tmp 4] 45 8 1 (show qA3 zbd_L zbd_G 1 8 45 [(0,zbd_b0)] from ⟨zbd_sub0,tV⟩) (qAr ⟨zbc_ok,tV⟩) fun x y=>by
 simp only [zbd_s,-eq_self,sZ];kernel_rfl
def zbd_w:CQ:=qBk [(0,none,some (.node,39))] (qBq [false] zbd_c)
theorem zbd_ok:qAe Tryd.prog 59 zbd_w:=qAn zbd_val
def zbe_b0:IQ:=(.loop [0,1,2,7,8] (.seq (.seq (rg 43 [oM 27 t8,oM 28 t0,oM 29 t1,oP 30 (.iaddr 6 t28 t29),oP 31 (.faddr 5 t30),oP 32 (.load none t31),oP 33 (.bi .lss t27 t32),oM 34 t33,oF 35 (.mv t7) 34,oF 36 (.bi .geq t35 (vI 0)) 34,oP 37 (.pick t34 t36 vF),oM 38 t37,oF 39 (.mv t7) 38,oF 40 (.mv t0) 38,oF 41 (.len t40) 38,oF 42 (.bi .lss t39 t41) 38,oP 43 (.pick t38 t42 vF)]) (.cond t43 .skip (.cn [] (.exit 0)))) (.seq (.block 1 (.seq (.seq (rg 52 [oM 46 t0,oM 47 t7,oP 48 (.iaddr 6 t46 t47),oP 49 (.faddr 1 t48),oP 50 (.load none t49),oM 51 t2,oP 52 (.bi .eql t50 t51)]) (.cond t52 (.seq (rg 6 [oM 53 t7,oM 6 t53]) (.cn [6] .ret)) .skip)) (rg 7 [oM 54 t0,oM 55 t7,oP 56 (.call 71 [t54,t55]),oM 7 t56]))) (rg 8 [oM 44 t8,oP 45 (.bi .add t44 (vI 1)),oM 8 t45]))))
def zbe_q:IQ:=(.seq (rg 6 [oP 6 (.mv (vI 0))]) (.seq (.seq (rg 24 [oM 9 t1,oP 10 (.bi .lss t9 (vI 0)),oM 11 t10,oE 12 (.mv t1) 11,oE 13 (.mv t0) 11,oE 14 (.len t13) 11,oE 15 (.bi .geq t12 t14) 11,oP 16 (.pick t11 vT t15),oM 17 t16,oE 18 (.mv t0) 17,oE 19 (.mv t1) 17,oE 20 (.iaddr 6 t18 t19) 17,oE 21 (.faddr 0 t20) 17,oE 22 (.load none t21) 17,oE 23 (.bi .neq t22 (vI 7)) 17,oP 24 (.pick t17 vT t23)]) (.cond t24 (.seq (rg 6 [oP 6 (.mv (.v (.int .i64 (-1))))]) (.cn [6] .ret)) .skip)) (.seq (rg 7 [oM 25 t1,oP 26 (.bi .add t25 (vI 1)),oM 7 t26]) (.seq (.seq (rg 8 [oP 8 (.mv (vI 0))]) (.block 0 (.cn [0,1,2,7,8] (.sub 0 zbe_b0)))) (.seq (rg 6 [oP 6 (.mv (.v (.int .i64 (-1))))]) (.cn [6] .ret))))))
def qDx (at_:Int) (key:BA) (next i:Int) (v:List Eng.Node):Option ((Int × Int) ⊕ (Int ⊕ Unit)) :=
 gd (0≤at_∧at_<v.length) <|
 gd ((Int.toNat at_)<v.length) <|
 gd ((Int.toNat at_)<v.length) <|
 bif (((decide (i<((v.getD (Int.toNat at_) (ET.dft .node)).kids))) && (decide ((0:Int)≤next))) && (decide (next<(v.length:Int)))) then (
  gd (0≤next∧next<v.length) <|
  gd ((Int.toNat next)<v.length) <|
  gd ((Int.toNat next)<v.length) <|
  bif decide (((v.getD (Int.toNat next) (ET.dft .node)).key)=key) then (
   some (.inr (.inl next)))
  else (
   (zbc_s v next).bind fun r3 =>
   gd (qAc (i+(1:Int))) <|
   some (.inl (r3,(i+(1:Int))))))
 else (
  some (.inr (.inr ())))
def zbe_p0 (at_:Int) (key:BA) (next i:Int) (v:List Eng.Node):Option (Int ⊕ Unit) :=
 qAw (fun x:(Int × Int)=>qDx at_ key x.1 x.2 v) (next,i)
def zbe_s (v:(List Eng.Node)) (at_:Int) (key:BA):Option Int :=
 gd (((decide (at_<(0:Int))) || (decide ((v.length:Int)≤at_)))=false→0≤at_∧at_<v.length) <|
 gd (((decide (at_<(0:Int))) || (decide ((v.length:Int)≤at_)))=false→(Int.toNat at_)<v.length) <|
 gd (((decide (at_<(0:Int))) || (decide ((v.length:Int)≤at_)))=false→(Int.toNat at_)<v.length) <|
 bif (((decide (at_<(0:Int))) || (decide ((v.length:Int)≤at_))) || (!decide (((v.getD (Int.toNat at_) (ET.dft .node)).kind)=(7:Int)))) then (
  some (-1:Int))
 else (
  gd (qAc (at_+(1:Int))) <|
  (zbe_p0 at_ key (at_+(1:Int)) (0:Int) v).bind fun o4=>(Sum.elim (fun (o4_0:Int) =>
   some o4_0) (fun (o4_1:Unit) =>
   some (-1:Int))) o4)
def zbe_G:Nat→Option CQ:=tblQ [(71,zbc_w)]
def zbe_d0:=(dQS (qAa (dSO 0 (dO 0)) (qAa (dSO 1 dZ) (qAa (dSO 2 dS) (qAa (dSO 7 dZ) (qAa (dSO 8 dZ) dNil))))) (qAa (qBn .node) dNil))
def zbe_l0:SubQ:=mkL zbe_d0 (fun x=>zbe_p0 x.1.2.1 x.1.2.2.1 x.1.2.2.2.1 x.1.2.2.2.2.1 x.2.1) fun x r R kn kx kr=>(Sum.elim (fun (r_0:Int)=>kr ⟨[sL 6 (.vI r_0)],[],[.view .node x.2.1]⟩) (fun (r_1:Unit)=>kx 0 ⟨[],[],[.view .node x.2.1]⟩)) r
def zbe_L:Nat→SubQ:=tblL [(0,zbe_l0)]
theorem zbe_sub0:qBe zbe_L zbe_G 1 9 57 0 zbe_b0:=qAo (show zbe_L 0=zbe_l0 from by kernel_rfl) fun x R kn kx kr=>qAl (step:=fun y=>qDx x.1.2.1 x.1.2.2.1 y.1 y.2 x.2.1) (enc:=fun (y:Int × Int)=>zbe_d0.e ((x.1.1,x.1.2.1,x.1.2.2.1,y.1,y.2,x.1.2.2.2.2.2),x.2)) (fun y=>by kernel_rfl) (fun y ki=>by simp only [qDx,-eq_self,sZ]; kernel_rfl) (x.1.2.2.2.1,x.1.2.2.2.2.1)
def zbe_c:CS:=mkC (qAa (dVC (dCO (dO 0))) (qAa (dVC (dCO dZ)) (qAa (dVC (dCO dS)) dNil))) (qAa (qBn .node) dNil) (fun x y=>zbe_s y.1 x.2.1 x.2.2.1) (fun x y r=>.c (.o (.vI r))) fun x y r=>[.view .node y.1]
theorem zbe_val:qAh Tryd.prog 49 zbe_c:=vl1 zbe_q [.tmp 6] 57 9 1 (show qA3 zbe_L zbe_G 1 9 57 [(0,zbe_b0)] from ⟨zbe_sub0,tV⟩) (qAr ⟨zbc_ok,tV⟩) fun x y=>by
 simp only [zbe_s,-eq_self,sZ];kernel_rfl
def zbe_w:CQ:=qBk [(0,none,some (.node,39))] (qCw [false] zbe_c)
theorem zbe_ok:qAe Tryd.prog 49 zbe_w:=qEx zbe_val
end
open Go.RowKit Go.Lib
def qFq (n b0 b1 b2:Nat):Bool :=
 if n=0 then false else if Lib.firstT b0 % 8≤n then true else if 1<n∧(b1<Lib.accLo (Lib.firstT b0 / 16)∨Lib.accHi (Lib.firstT b0 / 16)<b1) then true else if 2<n∧(b2<128∨191<b2) then true else false
structure HidF (p:Prop):Prop where
 out:p
theorem belowN {B:Nat} {a w:World} (h:Below B a w) (n:Nat):Below B a (w.drewN n):=h.trans ⟨rfl,rfl,rfl,Nat.le_refl _,fun _ _=>rfl⟩
theorem emB:∀a b:Bool,a=true∨a=false∧(b=true∨b=false):=by decide
theorem emD:∀a b c d:Bool,a=true∨a=false∧(b=true∨b=false∧(c=true∨c=false∧(d=true∨d=false))):=by decide
def fullS (s:BA):Bool:=qFq s.size (s.get! 0).toNat (s.get! 1).toNat (s.get! 2).toNat
set_option maxHeartbeats 4000000 in
set_option maxRecDepth 1000000 in
theorem full_run (s:BA) (w:World) (hS:s.size≤9223372036854775807) (hT:Lib.Utf8Tabs 11 12 w) :
  Calls Tryd.prog 113 #[.string s] w fun e w'=>e=.returned (.bool (fullS s))∧Below w.heap.size w w':=by
 unfold fullS;by_cases h0:s.size=0
 ·have hz:(s.size:Int)=0:=by omega
  rw [qFq,if_pos h0];go_enter Tryd.func113,Tryd.ntmps113
  go_wp2
  go_ret
  exact ⟨rfl,Below.refl _ _⟩
 ·have hz0:(0:Int)<(s.size:Int):=by omega
  have hz0':¬((s.size:Int)=0):=by omega
  obtain ⟨x0,hx0⟩:∃x,s.get! 0=x:=⟨_,rfl⟩;obtain ⟨x1,hx1⟩:∃x,s.get! 1=x:=⟨_,rfl⟩;obtain ⟨x2,hx2⟩:∃x,s.get! 2=x:=⟨_,rfl⟩;have hs0:s[0]'(by omega)=x0:=by rw [←hx0]; exact (Utf8W.get!_of_lt s 0 (by omega)).symm
  have l0:=x0.toNat_lt; have l1:=x1.toNat_lt; have l2:=x2.toNat_lt;have hc0:=hT.1 x0.toNat (by omega);rw [hx0,hx1,hx2];rcases Lib.firstT_cases x0.toNat with hX | hX | hX | hX | hX | hX | hX | hX | hX
  ·rw [qFq,if_neg h0,hX,if_pos (by omega)];rw [hX] at hc0;have hz1:((0:Int)≤(s.size:Int)):=by omega
   clear hT hX;go_enter Tryd.func113,Tryd.ntmps113
   go_wp2
   go_ret
   exact ⟨rfl,Below.refl _ _⟩
  ·rw [qFq,if_neg h0,hX,if_pos (by omega)];rw [hX] at hc0;have hz1:((1:Int)≤(s.size:Int)):=by omega
   clear hT hX;go_enter Tryd.func113,Tryd.ntmps113
   go_wp2
   go_ret
   exact ⟨rfl,Below.refl _ _⟩
  ·rw [hX] at hc0;have ha0:=(hT.2 0 (by omega)).1;have ha1:=(hT.2 0 (by omega)).2;simp only [accLo,accHi,Nat.reduceMul,Nat.reduceAdd,Nat.reduceEqDiff,if_true,if_false,Nat.reduceMod,Nat.reduceDiv] at ha0 ha1;generalize hr:qFq s.size x0.toNat x1.toNat x2.toNat=r
   rw [qFq,if_neg h0,hX] at hr;simp only [Nat.reduceMod,Nat.reduceDiv,accLo,accHi,Nat.reduceEqDiff,if_true,if_false] at hr;clear hT hX;by_cases hk:2≤s.size
   ·have hz1:((2:Int)≤(s.size:Int)):=by omega
    rw [if_pos (by omega)] at hr;subst hr;go_enter Tryd.func113,Tryd.ntmps113
    go_wp2
    go_ret
    exact ⟨rfl,Below.refl _ _⟩
   ·have Hr:=(HidF.mk hr);clear hr;rcases (show (s.size:Int)=1 by omega) with hz
    all_goals
     go_enter Tryd.func113,Tryd.ntmps113
     go_wp2
     go_quiet (fail)
     go_wp2
     all_goals (go_ret; refine ⟨?_,belowN ((Below.refl _ _).alloc (Nat.le_refl _) _) _⟩; rw [←Hr.out]; (repeat' split) <;> first | rfl | (exfalso; first | omega | (simp only [decide_eq_true_eq,decide_eq_false_iff_not] at *; omega)))
  ·rw [hX] at hc0;have ha0:=(hT.2 1 (by omega)).1;have ha1:=(hT.2 1 (by omega)).2;simp only [accLo,accHi,Nat.reduceMul,Nat.reduceAdd,Nat.reduceEqDiff,if_true,if_false,Nat.reduceMod,Nat.reduceDiv] at ha0 ha1;generalize hr:qFq s.size x0.toNat x1.toNat x2.toNat=r
   rw [qFq,if_neg h0,hX] at hr;simp only [Nat.reduceMod,Nat.reduceDiv,accLo,accHi,Nat.reduceEqDiff,if_true,if_false] at hr;clear hT hX;by_cases hk:3≤s.size
   ·have hz1:((3:Int)≤(s.size:Int)):=by omega
    rw [if_pos (by omega)] at hr;subst hr;go_enter Tryd.func113,Tryd.ntmps113
    go_wp2
    go_ret
    exact ⟨rfl,Below.refl _ _⟩
   ·have Hr:=(HidF.mk hr);clear hr;rcases (show (s.size:Int)=1∨(s.size:Int)=2 by omega) with hz | hz
    rotate_left 1
    have hs1:s[1]'(by omega)=x1:=by rw [←hx1]; exact (Utf8W.get!_of_lt s 1 (by omega)).symm
    rcases emB (decide ((x1.toNat:Int)<160)) (decide ((191:Int)<(x1.toNat:Int))) with d0 | ⟨d0,d1 | d1⟩
    all_goals
     go_enter Tryd.func113,Tryd.ntmps113
     go_wp2
     go_quiet (fail)
     go_wp2
     all_goals (go_ret; refine ⟨?_,belowN ((Below.refl _ _).alloc (Nat.le_refl _) _) _⟩; rw [←Hr.out]; (repeat' split) <;> first | rfl | (exfalso; first | omega | (simp only [decide_eq_true_eq,decide_eq_false_iff_not] at *; omega)))
  ·rw [hX] at hc0;have ha0:=(hT.2 0 (by omega)).1;have ha1:=(hT.2 0 (by omega)).2;simp only [accLo,accHi,Nat.reduceMul,Nat.reduceAdd,Nat.reduceEqDiff,if_true,if_false,Nat.reduceMod,Nat.reduceDiv] at ha0 ha1;generalize hr:qFq s.size x0.toNat x1.toNat x2.toNat=r
   rw [qFq,if_neg h0,hX] at hr;simp only [Nat.reduceMod,Nat.reduceDiv,accLo,accHi,Nat.reduceEqDiff,if_true,if_false] at hr;clear hT hX;by_cases hk:3≤s.size
   ·have hz1:((3:Int)≤(s.size:Int)):=by omega
    rw [if_pos (by omega)] at hr;subst hr;go_enter Tryd.func113,Tryd.ntmps113
    go_wp2
    go_ret
    exact ⟨rfl,Below.refl _ _⟩
   ·have Hr:=(HidF.mk hr);clear hr;rcases (show (s.size:Int)=1∨(s.size:Int)=2 by omega) with hz | hz
    rotate_left 1
    have hs1:s[1]'(by omega)=x1:=by rw [←hx1]; exact (Utf8W.get!_of_lt s 1 (by omega)).symm
    rcases emB (decide ((x1.toNat:Int)<128)) (decide ((191:Int)<(x1.toNat:Int))) with d0 | ⟨d0,d1 | d1⟩
    all_goals
     go_enter Tryd.func113,Tryd.ntmps113
     go_wp2
     go_quiet (fail)
     go_wp2
     all_goals (go_ret; refine ⟨?_,belowN ((Below.refl _ _).alloc (Nat.le_refl _) _) _⟩; rw [←Hr.out]; (repeat' split) <;> first | rfl | (exfalso; first | omega | (simp only [decide_eq_true_eq,decide_eq_false_iff_not] at *; omega)))
  ·rw [hX] at hc0;have ha0:=(hT.2 2 (by omega)).1;have ha1:=(hT.2 2 (by omega)).2;simp only [accLo,accHi,Nat.reduceMul,Nat.reduceAdd,Nat.reduceEqDiff,if_true,if_false,Nat.reduceMod,Nat.reduceDiv] at ha0 ha1;generalize hr:qFq s.size x0.toNat x1.toNat x2.toNat=r
   rw [qFq,if_neg h0,hX] at hr;simp only [Nat.reduceMod,Nat.reduceDiv,accLo,accHi,Nat.reduceEqDiff,if_true,if_false] at hr;clear hT hX;by_cases hk:3≤s.size
   ·have hz1:((3:Int)≤(s.size:Int)):=by omega
    rw [if_pos (by omega)] at hr;subst hr;go_enter Tryd.func113,Tryd.ntmps113
    go_wp2
    go_ret
    exact ⟨rfl,Below.refl _ _⟩
   ·have Hr:=(HidF.mk hr);clear hr;rcases (show (s.size:Int)=1∨(s.size:Int)=2 by omega) with hz | hz
    rotate_left 1
    have hs1:s[1]'(by omega)=x1:=by rw [←hx1]; exact (Utf8W.get!_of_lt s 1 (by omega)).symm
    rcases emB (decide ((x1.toNat:Int)<128)) (decide ((159:Int)<(x1.toNat:Int))) with d0 | ⟨d0,d1 | d1⟩
    all_goals
     go_enter Tryd.func113,Tryd.ntmps113
     go_wp2
     go_quiet (fail)
     go_wp2
     all_goals (go_ret; refine ⟨?_,belowN ((Below.refl _ _).alloc (Nat.le_refl _) _) _⟩; rw [←Hr.out]; (repeat' split) <;> first | rfl | (exfalso; first | omega | (simp only [decide_eq_true_eq,decide_eq_false_iff_not] at *; omega)))
  ·rw [hX] at hc0;have ha0:=(hT.2 3 (by omega)).1;have ha1:=(hT.2 3 (by omega)).2;simp only [accLo,accHi,Nat.reduceMul,Nat.reduceAdd,Nat.reduceEqDiff,if_true,if_false,Nat.reduceMod,Nat.reduceDiv] at ha0 ha1;generalize hr:qFq s.size x0.toNat x1.toNat x2.toNat=r
   rw [qFq,if_neg h0,hX] at hr;simp only [Nat.reduceMod,Nat.reduceDiv,accLo,accHi,Nat.reduceEqDiff,if_true,if_false] at hr;clear hT hX;by_cases hk:4≤s.size
   ·have hz1:((4:Int)≤(s.size:Int)):=by omega
    rw [if_pos (by omega)] at hr;subst hr;go_enter Tryd.func113,Tryd.ntmps113
    go_wp2
    go_ret
    exact ⟨rfl,Below.refl _ _⟩
   ·have Hr:=(HidF.mk hr);clear hr;rcases (show (s.size:Int)=1∨(s.size:Int)=2∨(s.size:Int)=3 by omega) with hz | hz | hz
    rotate_left 1
    have hs1:s[1]'(by omega)=x1:=by rw [←hx1]; exact (Utf8W.get!_of_lt s 1 (by omega)).symm
    rcases emB (decide ((x1.toNat:Int)<144)) (decide ((191:Int)<(x1.toNat:Int))) with d0 | ⟨d0,d1 | d1⟩
    rotate_left 3
    have hs1:s[1]'(by omega)=x1:=by rw [←hx1]; exact (Utf8W.get!_of_lt s 1 (by omega)).symm
    have hs2:s[2]'(by omega)=x2:=by rw [←hx2]; exact (Utf8W.get!_of_lt s 2 (by omega)).symm
    rcases emD (decide ((x1.toNat:Int)<144)) (decide ((191:Int)<(x1.toNat:Int))) (decide ((x2.toNat:Int)<128)) (decide ((191:Int)<(x2.toNat:Int))) with d0 | ⟨d0,d1 | ⟨d1,d2 | ⟨d2,d3 | d3⟩⟩⟩
    all_goals
     go_enter Tryd.func113,Tryd.ntmps113
     go_wp2
     go_quiet (fail)
     go_wp2
     all_goals (go_ret; refine ⟨?_,belowN ((Below.refl _ _).alloc (Nat.le_refl _) _) _⟩; rw [←Hr.out]; (repeat' split) <;> first | rfl | (exfalso; first | omega | (simp only [decide_eq_true_eq,decide_eq_false_iff_not] at *; omega)))
  ·rw [hX] at hc0;have ha0:=(hT.2 0 (by omega)).1;have ha1:=(hT.2 0 (by omega)).2;simp only [accLo,accHi,Nat.reduceMul,Nat.reduceAdd,Nat.reduceEqDiff,if_true,if_false,Nat.reduceMod,Nat.reduceDiv] at ha0 ha1;generalize hr:qFq s.size x0.toNat x1.toNat x2.toNat=r
   rw [qFq,if_neg h0,hX] at hr;simp only [Nat.reduceMod,Nat.reduceDiv,accLo,accHi,Nat.reduceEqDiff,if_true,if_false] at hr;clear hT hX;by_cases hk:4≤s.size
   ·have hz1:((4:Int)≤(s.size:Int)):=by omega
    rw [if_pos (by omega)] at hr;subst hr;go_enter Tryd.func113,Tryd.ntmps113
    go_wp2
    go_ret
    exact ⟨rfl,Below.refl _ _⟩
   ·have Hr:=(HidF.mk hr);clear hr;rcases (show (s.size:Int)=1∨(s.size:Int)=2∨(s.size:Int)=3 by omega) with hz | hz | hz
    rotate_left 1
    have hs1:s[1]'(by omega)=x1:=by rw [←hx1]; exact (Utf8W.get!_of_lt s 1 (by omega)).symm
    rcases emB (decide ((x1.toNat:Int)<128)) (decide ((191:Int)<(x1.toNat:Int))) with d0 | ⟨d0,d1 | d1⟩
    rotate_left 3
    have hs1:s[1]'(by omega)=x1:=by rw [←hx1]; exact (Utf8W.get!_of_lt s 1 (by omega)).symm
    have hs2:s[2]'(by omega)=x2:=by rw [←hx2]; exact (Utf8W.get!_of_lt s 2 (by omega)).symm
    rcases emD (decide ((x1.toNat:Int)<128)) (decide ((191:Int)<(x1.toNat:Int))) (decide ((x2.toNat:Int)<128)) (decide ((191:Int)<(x2.toNat:Int))) with d0 | ⟨d0,d1 | ⟨d1,d2 | ⟨d2,d3 | d3⟩⟩⟩
    all_goals
     go_enter Tryd.func113,Tryd.ntmps113
     go_wp2
     go_quiet (fail)
     go_wp2
     all_goals (go_ret; refine ⟨?_,belowN ((Below.refl _ _).alloc (Nat.le_refl _) _) _⟩; rw [←Hr.out]; (repeat' split) <;> first | rfl | (exfalso; first | omega | (simp only [decide_eq_true_eq,decide_eq_false_iff_not] at *; omega)))
  ·rw [hX] at hc0;have ha0:=(hT.2 4 (by omega)).1;have ha1:=(hT.2 4 (by omega)).2;simp only [accLo,accHi,Nat.reduceMul,Nat.reduceAdd,Nat.reduceEqDiff,if_true,if_false,Nat.reduceMod,Nat.reduceDiv] at ha0 ha1;generalize hr:qFq s.size x0.toNat x1.toNat x2.toNat=r
   rw [qFq,if_neg h0,hX] at hr;simp only [Nat.reduceMod,Nat.reduceDiv,accLo,accHi,Nat.reduceEqDiff,if_true,if_false] at hr;clear hT hX;by_cases hk:4≤s.size
   ·have hz1:((4:Int)≤(s.size:Int)):=by omega
    rw [if_pos (by omega)] at hr;subst hr;go_enter Tryd.func113,Tryd.ntmps113
    go_wp2
    go_ret
    exact ⟨rfl,Below.refl _ _⟩
   ·have Hr:=(HidF.mk hr);clear hr;rcases (show (s.size:Int)=1∨(s.size:Int)=2∨(s.size:Int)=3 by omega) with hz | hz | hz
    rotate_left 1
    have hs1:s[1]'(by omega)=x1:=by rw [←hx1]; exact (Utf8W.get!_of_lt s 1 (by omega)).symm
    rcases emB (decide ((x1.toNat:Int)<128)) (decide ((143:Int)<(x1.toNat:Int))) with d0 | ⟨d0,d1 | d1⟩
    rotate_left 3
    have hs1:s[1]'(by omega)=x1:=by rw [←hx1]; exact (Utf8W.get!_of_lt s 1 (by omega)).symm
    have hs2:s[2]'(by omega)=x2:=by rw [←hx2]; exact (Utf8W.get!_of_lt s 2 (by omega)).symm
    rcases emD (decide ((x1.toNat:Int)<128)) (decide ((143:Int)<(x1.toNat:Int))) (decide ((x2.toNat:Int)<128)) (decide ((191:Int)<(x2.toNat:Int))) with d0 | ⟨d0,d1 | ⟨d1,d2 | ⟨d2,d3 | d3⟩⟩⟩
    all_goals
     go_enter Tryd.func113,Tryd.ntmps113
     go_wp2
     go_quiet (fail)
     go_wp2
     all_goals (go_ret; refine ⟨?_,belowN ((Below.refl _ _).alloc (Nat.le_refl _) _) _⟩; rw [←Hr.out]; (repeat' split) <;> first | rfl | (exfalso; first | omega | (simp only [decide_eq_true_eq,decide_eq_false_iff_not] at *; omega)))
end Go.Proofs.YtlmfmmgfiffjiaaDoor
namespace Go.Proofs
open Go.Shelf
shelf_lay Lays.n197 Nm 197 at Tryd as Tryd.laysDecode
end Go.Proofs
namespace Go.Proofs.YtlmfmmgfiffjiaaDoor
open Go.Eng
theorem stays_below {w w':World} (h:Go.RowKit.Below w.heap.size w w'):Stays (fun _=>False) w w':=⟨h.os,h.output,h.size,fun k hk _=>h.block k hk⟩
theorem given_cont {α β γ:Type} {A:Dec α (List SV)} {B:Dec β (List SB)} (f:α→Option γ) (v:γ→SV) (args:List SV) (hp:List SB) (R:Type) (k:SV→List SB→Option R) :
  ((Dec.d A args).bind fun x=>(Dec.d B hp).bind fun y=>(f x).bind fun r=>k (v r) [])=(((Dec.d A args).bind fun x=>(Dec.d B hp).bind fun y=>(f x).bind fun r=>some (v r,([]:List SB))):Option (SV × List SB)).bind fun z=>k z.1 z.2:=by
 cases Dec.d A args with
 | none=>rfl
 | some x =>
  cases Dec.d B hp with
  | none=>rfl
  | some y=>simp only [obS,Option.bind_assoc]
def utf8_da:=(qAa (dVC (dCO dS)) dNil)
def utf8_db:=(dNil:Dec Unit (List SB))
noncomputable def qBb (s:BA):Option (Int × Int):=some (((Lib.decodeGo s).1:Int),((Lib.decodeGo s).2:Int))
noncomputable def qCy:CS:=fun args hp R k=>(Dec.d utf8_da args).bind fun x=>(Dec.d utf8_db hp).bind fun y=>(qBb x.1).bind fun r=>k (.tup [.o (.val (.int .i32 r.1)),.o (.val (.int .i64 r.2))]) []
theorem qFa:qAh Tryd.prog 112 qCy:=by
 refine ⟨fun args hp R k=>given_cont (A:=utf8_da) (B:=utf8_db) (fun x=>qBb x.1) (fun r=>.tup [.o (.val (.int .i32 r.1)),.o (.val (.int .i64 r.2))]) args hp R k,fun args hp v hp' hC hlt X w ρ hhp=>?_⟩;obtain ⟨x,h1,h2⟩:=Option.bind_eq_some_iff.1 hC;obtain ⟨y,h3,h4⟩:=Option.bind_eq_some_iff.1 h2;obtain ⟨r,h5,h6⟩:=Option.bind_eq_some_iff.1 h4;rw [Dec.ok _ _ _ h1];have hhp':=Dec.ok _ _ _ h3;obtain ⟨s,u⟩:=x;simp only [qBb,snJ,Prod.mk.injEq] at h6 h5;obtain ⟨rfl,rfl⟩:=h6;subst h5;rw [hhp'] at hhp ⊢;refine (Any.utf8_DecodeRuneInString Tryd.laysDecode s w (by first | exact hhp.tab.1 | exact hhp.tab.2.1)).mono ?_
 rintro e w' ⟨rfl,hb⟩
 obtain ⟨g1,g2⟩:=hhp.past ⟨rfl,rfl,Nat.le_refl _,fun k _ _=>rfl⟩ (stays_below hb);exact ⟨ρ,fun _ _=>rfl,Nat.le_refl _,rfl,fun c hc=>by simp only [List.mem_cons,List.not_mem_nil,or_false] at hc; rcases hc with rfl | rfl <;> trivial,g1,g2⟩
noncomputable def qCz:CQ:=qCw [] qCy
theorem qFr:qAe Tryd.prog 112 qCz:=qAs qFa
noncomputable def qBr (s:BA):Option Bool:=gd (s.size≤9223372036854775807) (some (fullS s))
noncomputable def qDh:CS:=fun args hp R k=>(Dec.d utf8_da args).bind fun x=>(Dec.d utf8_db hp).bind fun y=>(qBr x.1).bind fun r=>k (.c (.o (.val (.bool r)))) []
theorem qGd:qAh Tryd.prog 113 qDh:=by
 refine ⟨fun args hp R k=>given_cont (A:=utf8_da) (B:=utf8_db) (fun x=>qBr x.1) (fun r=>.c (.o (.val (.bool r)))) args hp R k,fun args hp v hp' hC hlt X w ρ hhp=>?_⟩;obtain ⟨x,h1,h2⟩:=Option.bind_eq_some_iff.1 hC;obtain ⟨y,h3,h4⟩:=Option.bind_eq_some_iff.1 h2;obtain ⟨r,h5,h6⟩:=Option.bind_eq_some_iff.1 h4;obtain ⟨hi,h7⟩:=gd_some.1 h5;rw [Dec.ok _ _ _ h1];have hhp':=Dec.ok _ _ _ h3;obtain ⟨s,u⟩:=x;simp only [snJ,Prod.mk.injEq] at h6 h7;obtain ⟨rfl,rfl⟩:=h6;simp only at hi;subst h7;rw [hhp'] at hhp ⊢;refine (full_run s w hi (by first | exact hhp.tab.1 | exact hhp.tab.2.1)).mono ?_
 rintro e w' ⟨rfl,hb⟩
 obtain ⟨g1,g2⟩:=hhp.past ⟨rfl,rfl,Nat.le_refl _,fun k _ _=>rfl⟩ (stays_below hb);exact ⟨ρ,fun _ _=>rfl,Nat.le_refl _,rfl,trivial,g1,g2⟩
noncomputable def qDi:CQ:=qCw [] qDh
theorem qGt:qAe Tryd.prog 113 qDi:=qAs qGd
end Go.Proofs.YtlmfmmgfiffjiaaDoor
namespace Go.Proofs.YtlmfmmgfiffjiaaDoor
open Go.Eng
set_option maxRecDepth 100000
theorem nd_get {v:List Eng.Node} {a:Nat} {n:Eng.Node} (h:v[a]?=some n):v.getD a (ET.dft .node)=n:=by
 rw [List.getD_eq_getElem?_getD,h]; rfl
structure OkN (n:Eng.Node):Prop where
 key:n.key.size≤3000000
 text:n.text.size≤3000000
 kids:qAc n.kids
def OkL (v:List Eng.Node):Prop:=v.length≤2000000∧∀n∈v,OkN n
end Go.Proofs.YtlmfmmgfiffjiaaDoor
