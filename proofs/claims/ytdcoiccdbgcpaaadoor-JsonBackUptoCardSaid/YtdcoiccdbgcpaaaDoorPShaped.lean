/-
  The document's shape of a list of nodes: it is always told, and where it is good the list is a tree. No program.
-/
import Derived.Test.YtdcoiccdbgcpaaaDoorEngO
import Derived.Test.YtdcoiccdbgcpaaaDoorGC
import Derived.Test.YtdcoiccdbgcpaaaDoorProg
import Derived.Test.YtdcoiccdbgcpaaaDoorEngH
namespace Go.Proofs.YtdcoiccdbgcpaaaDoor
open Go.Eng
set_option linter.unusedVariables false
set_option linter.unusedSimpArgs false
theorem dV_range (s:ByteArray) (i:Nat):0≤dV s i∧dV s i<256:=by unfold dV; omega
structure DKey where
 ds:List Int
 pow:Int
def Dig (l:List Int):Prop:=∀d∈l,0≤d∧d≤9
def LastNZ:List Int→Prop
 | []=>True
 | [d]=>d≠0
 | _::l=>LastNZ l
structure Norm (a:DKey):Prop where
 dig:Dig a.ds
 last:LastNZ a.ds
 first:∀d,a.ds.head?=some d→d≠0
end Go.Proofs.YtdcoiccdbgcpaaaDoor
namespace Go.Proofs.YtdcoiccdbgcpaaaDoor
open Go.Eng
set_option linter.unusedVariables false
set_option linter.unusedSimpArgs false
end Go.Proofs.YtdcoiccdbgcpaaaDoor
namespace Go.Proofs.YtdcoiccdbgcpaaaDoor
open Go.Eng
set_option linter.unusedVariables false
set_option linter.unusedSimpArgs false
end Go.Proofs.YtdcoiccdbgcpaaaDoor
namespace Go.Proofs.YtdcoiccdbgcpaaaDoor
open Go.Eng
set_option linter.unusedVariables false
set_option linter.unusedSimpArgs false
def chr (d:Int):UInt8:=UInt8.ofNat ((48+d) % 256).toNat
def byteD (l:List Int):List UInt8:=l.map chr
def dotF (F:List Int):List UInt8:=if F=[] then [] else 46::byteD F
structure NumTxt (t:ByteArray) (W F:List Int):Prop where
 txt:t.data.toList=byteD W++dotF F
 dw:Dig W
 df:Dig F
 ne:W≠[]
 head:W.head?≠some 0∨W.length=1
section
variable {t:ByteArray} {W F:List Int} (h:NumTxt t W F)
include h
end
end Go.Proofs.YtdcoiccdbgcpaaaDoor
namespace Go.Proofs.YtdcoiccdbgcpaaaDoor
open Go.Eng
set_option linter.unusedVariables false
set_option linter.unusedSimpArgs false
theorem p_digit (s:ByteArray) (k:Nat):qDu s k=some (digS s k):=by
 unfold qDu
 refine (qAa (fun h=>by have:=of_decide_eq_true h; omega) _).trans ?_
 refine (qAa (fun h=>by have:=of_decide_eq_true (Bool.and_eq_true _ _ ▸ h).1; omega) _).trans ?_
 congr 1
 unfold digS
 by_cases hlt:(k:Int)<s.size
 ·simp [hlt]
 ·have:=qBk hlt
  simp [hlt,this]
theorem p_many (s:ByteArray) (hsz:s.size<4000000000000000000) (k:Nat) (hk:k≤s.size):qB3 s k=some (manyS s k:Int):=by
 unfold qB3 qFs
 rw [qDb (fun x:Int=>∃j:Nat,x=j∧j≤s.size∧manyS s j=manyS s k) (fun x=>s.size - x.toNat) (fun _=>(manyS s k:Int)) ?_ (x:=(k:Int)) ⟨k,rfl,hk,rfl⟩]
 ·rfl
 rintro _ ⟨j,rfl,hj,hm⟩
 unfold qD1
 rw [p_digit,obS]
 cases hd:digS s j with
 | true =>
  left
  have hlt:=qF5 hd
  refine ⟨((j+1:Nat):Int),?_,⟨j+1,rfl,by omega,by rw [←hm,qCf hd]⟩,by omega,rfl⟩
  refine (qAa (by unfold InI64; omega) _).trans ?_
  rfl
 | false =>
  right
  show some (Sum.inr (j:Int))=_
  rw [←hm,qBw hd]
theorem dV_ne (s:ByteArray) (i:Nat) (h:i<s.size):((!decide (bAt s i=48)):Bool)=decide (dV s i≠0):=by
 have h1:=qE5 s i
 have h2:=bAt_nn (s:=s) (i:=i) (by omega) (by omega)
 rw [←decide_not,decide_eq_decide]
 unfold dV
 omega
theorem bias_or (a:Prop) [Decidable a] (n:Nat):(decide a || decide ((0:Int)<(n:Int)))=decide (a∨0<n):=by
 rw [Bool.eq_iff_iff]
 simp
section
variable (s:ByteArray) (hsz:s.size<1000000000)
include hsz
theorem p_ref3 (a k:Nat) (hak:a≤k) (hk:k≤s.size):qDh s k a []=some (lead (qB1 s a (k - a))):=by
 unfold qDh
 rw [qDb (fun x:Int × List Int=>∃j:Nat,x=(((a+j:Nat):Int),lead (qB1 s a j))∧a+j≤k) (fun x=>k - x.1.toNat) (fun _=>lead (qB1 s a (k - a))) ?_ (x:=((a:Int),[])) ⟨0,rfl,by omega⟩]
 rintro _ ⟨j,rfl,hj⟩
 unfold qDw
 have hl:=lead_le (qB1 s a j)
 rw [dsFrom_length] at hl
 by_cases hlt:a+j<k
 ·left
  have hs:=lead_snoc (qB1 s a j) (dV s (a+j))
  rw [←dsFrom_succ] at hs
  have hr:=dV_range s (a+j)
  refine ⟨(((a+(j+1):Nat):Int),lead (qB1 s a (j+1))),?_,⟨j+1,rfl,by omega⟩,by simp only; omega,rfl⟩
  simp only
  rw [deT (by omega),cnT]
  refine (qAa (by omega) _).trans ?_
  rw [dV_ne s (a+j) (by omega),bias_or,hs]
  by_cases hc:dV s (a+j)≠0∨0<(lead (qB1 s a j)).length
  ·rw [deT hc,cnT,if_pos hc]
   refine (qAa (by omega) _).trans ?_
   refine (qAa (by unfold InI64; have:=hr; unfold dV at this; omega) _).trans ?_
   refine (qAa (by simp only [List.length_singleton]; omega) _).trans ?_
   refine (qAa (by unfold InI64; omega) _).trans ?_
   rfl
  ·rw [deF hc,cnF,if_neg hc]
   refine (qAa (by unfold InI64; omega) _).trans ?_
   have:lead (qB1 s a j)=[]:=by
    apply List.eq_nil_of_length_eq_zero
    omega
   rw [this]
   rfl
 ·right
  simp only
  rw [deF (by omega),cnF,show k - a=j by omega]
theorem p_ref2 (a:Nat) (ha:a≤s.size):qB9 s a=some (if decide (manyS s a=a)=true then .inl (false,[],[]) else .inr ((manyS s a:Int),lead (qB1 s a (manyS s a - a)))):=by
 unfold qB9
 rw [p_many s (by omega) a ha,obS]
 have:decide ((manyS s a:Int)=(a:Int))=decide (manyS s a=a):=by rw [decide_eq_decide]; omega
 rw [this]
 cases hd:decide (manyS s a=a) with
 | true=>rfl
 | false =>
  simp only [cnF]
  rw [p_ref3 s hsz a (manyS s a) (qDn s a) (manyS_le s a ha)]
  rfl
end
theorem p_ref5 (t:ByteArray) (ht:t.size<4000000000) (o:Int) (ho : -4000000000≤o∧o≤4000000000):qDk t 0 o []=some (o - ((t.size:Int) - (lead (qB1 t 0 t.size)).length),lead (qB1 t 0 t.size)):=by
 unfold qDk
 rw [qDb (fun x:Int × Int × List Int=>∃j:Nat,x=((j:Int),o - ((j:Int) - (lead (qB1 t 0 j)).length),lead (qB1 t 0 j))∧j≤t.size) (fun x=>t.size - x.1.toNat) (fun _=>(o - ((t.size:Int) - (lead (qB1 t 0 t.size)).length),lead (qB1 t 0 t.size))) ?_ (x:=((0:Int),o,[])) ⟨0,by simp [qB1,lead],by omega⟩]
 rintro _ ⟨j,rfl,hj⟩
 unfold qD0
 have hl:=lead_le (qB1 t 0 j)
 rw [dsFrom_length] at hl
 by_cases hlt:j<t.size
 ·left
  have hs:=lead_snoc (qB1 t 0 j) (dV t (0+j))
  rw [←dsFrom_succ] at hs
  rw [Nat.zero_add] at hs
  have hr:=dV_range t j
  refine ⟨(((j+1:Nat):Int),o - (((j+1:Nat):Int) - (lead (qB1 t 0 (j+1))).length),lead (qB1 t 0 (j+1))),?_,⟨j+1,rfl,by omega⟩,by simp only; omega,rfl⟩
  simp only
  rw [deT (by omega),cnT]
  refine (qAa (by omega) _).trans ?_
  refine (qAa (by unfold InI64; have:=hr; unfold dV at this; omega) _).trans ?_
  have e:(!decide ((bAt t (j:Int) - 48) % 256=0))=decide (dV t j≠0):=by rw [←decide_not]; rfl
  rw [e,bias_or,hs]
  by_cases hc:dV t j≠0∨0<(lead (qB1 t 0 j)).length
  ·rw [deT hc,cnT,if_pos hc]
   refine (qAa (by simp only [List.length_singleton]; omega) _).trans ?_
   refine (qAa (by unfold InI64; omega) _).trans ?_
   congr 3
   rw [List.length_append,List.length_singleton]
   congr 1
   omega
  ·rw [deF hc,cnF,if_neg hc]
   have:lead (qB1 t 0 j)=[]:=by
    apply List.eq_nil_of_length_eq_zero
    omega
   rw [this]
   refine (qAa (by unfold InI64; simp only [List.length_nil]; omega) _).trans ?_
   refine (qAa (by unfold InI64; omega) _).trans ?_
   congr 3
   simp only [List.length_nil]
   congr 1
   omega
 ·right
  simp only
  rw [deF (by omega),cnF,show t.size=j by omega]
theorem p_ref6 (l0:List Int) (hl:l0.length<4000000000):qDs l0=some (trail l0):=by
 unfold qDs
 rw [qDb (fun l:List Int=>l.length≤l0.length∧trail l=trail l0) (fun l=>l.length) (fun _=>trail l0) ?_ (x:=l0) ⟨by omega,rfl⟩]
 rintro l ⟨hle,ht⟩
 unfold qDp
 rcases List.eq_nil_or_concat l with rfl | ⟨m,d,rfl⟩
 ·right
  refine (qAa (fun h=>by simp at h) _).trans ?_
  refine (qAa (fun h=>by simp at h) _).trans ?_
  refine (qAa (fun h=>by simp at h) _).trans ?_
  rw [←ht]
  rfl
 ·rw [List.concat_eq_append] at hle ht ⊢
  have hz:(m++[d]).length=m.length+1:=by simp
  rw [hz] at hle
  have hN:Int.toNat (((m++[d]).length:Int) - 1)=m.length:=by rw [hz]; omega
  have hg:(m++[d]).getD m.length (ET.dft .i64)=d:=by simp
  rw [hN,hg,hz]
  rw [deT (show (0:Int)<((m.length+1:Nat):Int) by omega)]
  by_cases hd:d=0
  ·left
   subst hd
   refine ⟨m,?_,⟨by omega,by rw [←ht,trail_snoc_zero]⟩,by omega,rfl⟩
   refine (qAa (fun _=>by unfold InI64; omega) _).trans ?_
   refine (qAa (fun _=>by omega) _).trans ?_
   refine (qAa (fun _=>by omega) _).trans ?_
   simp only [decide_true,Bool.and_true,cnT]
   refine (qAa (by unfold InI64; omega) _).trans ?_
   refine (qAa (by omega) _).trans ?_
   simp
  ·right
   refine (qAa (fun _=>by unfold InI64; omega) _).trans ?_
   refine (qAa (fun _=>by omega) _).trans ?_
   refine (qAa (fun _=>by omega) _).trans ?_
   rw [deF hd]
   simp only [Bool.and_false,cnF]
   rw [←ht,trail_snoc m d hd]
def rnum (r:RNum):signetref2_Num:=⟨r.minus,r.digits,r.off,r.down,r.exp,r.plain,r.text⟩
section
variable (s:ByteArray) (hsz:s.size<1000000000)
include hsz
theorem allS_size:(allS s).size≤s.size+s.size:=by
 unfold allS
 split <;> simp <;> omega
theorem p_ref4 (a:Nat) (o:Int) (ho : -4000000000≤o∧o≤4000000000):qBm s a (allS s) o=some (if decide (a=s.size)=true then (true,o - (((allS s).size:Int) - (lead (qB1 (allS s) 0 (allS s).size)).length),(readS s).digits) else (false,o,[])):=by
 have hz:=allS_size s hsz
 have hl:=lead_le (qB1 (allS s) 0 (allS s).size)
 rw [dsFrom_length] at hl
 unfold qBm
 have:(!decide ((a:Int)=(s.size:Int)))=!decide (a=s.size):=by congr 1; rw [decide_eq_decide]; omega
 rw [this]
 cases hd:decide (a=s.size) with
 | false=>rfl
 | true =>
  simp only [Bool.not_true,cnF,if_true]
  rw [p_ref5 (allS s) (by omega) o ho,obS]
  simp only
  rw [p_ref6 _ (by omega),obS]
  rfl
theorem p_ref1 (hbd:badA s=false) (hdk:(dotS s && decide (atK s=atB s+1))=false):qBa s (atC s) (allS s) ((atB s:Int) - atA s) false (!dotS s)=some (qBi s,(qA8 s).off,(qA8 s).down,(qA8 s).plain,(qA8 s).digits,(qA8 s).exp):=by
 have hC:=atC_le s
 have hA:=atA_le s
 have hB:=atB_le s
 have hAB:=atA_le_atB s
 have hro:qBi s=(!(expS s && decide (atF s=atE s)) && decide (atG s=s.size)):=by
  unfold qBi
  rw [hbd,hdk]
  rfl
 have hexp:(decide ((atC s:Int)<(s.size:Int)) && (decide (bAt s (atC s)=101) || decide (bAt s (atC s)=69)))=expS s:=by
  unfold expS
  by_cases h:atC s<s.size
  ·simp [h]
  ·have:bAt s (atC s) = -1:=qBk (by omega)
   simp [this]
 unfold qBa
 refine (qAa (fun h=>by have:=of_decide_eq_true h; omega) _).trans ?_
 refine (qAa (fun _ h=>by have:=of_decide_eq_true h; omega) _).trans ?_
 rw [hexp]
 cases he:expS s with
 | false =>
  have hG:atG s=atC s:=by simp [atG,he]
  have h3:(expS s && decide (atF s=atE s))=false:=by simp [he]
  simp only [cnF]
  rw [p_ref4 s hsz (atC s) _ (by omega),obS,hro,h3,hG]
  cases hd:decide (atC s=s.size) with
  | false =>
   rw [readAll_4 hbd hdk h3 (by rw [hG]; exact hd)]
   simp [readS,he]
  | true =>
   have:qBi s=true:=by rw [hro,h3,hG,hd]; rfl
   rw [readAll_ok this]
   simp [readS,he]
 | true =>
  have hCl:=atC_lt he
  have hEl:=atE_le he
  have hF:=atF_le he
  have hsg:(decide ((atC s:Int)+1<(s.size:Int)) && (decide (bAt s ((atC s:Int)+1)=43) || decide (bAt s ((atC s:Int)+1)=45)))=sgnS s:=by
   unfold sgnS
   by_cases h:(atC s:Int)+1<s.size
   ·simp [h]
   ·have:bAt s ((atC s:Int)+1) = -1:=qBk h
    simp [this]
  have hG:atG s=atF s:=by simp [atG,he]
  have common:∀(dn:Bool),dn=decide (bAt s ((atC s:Int)+1)=45)→((qB9 s (atE s)).bind fun o83=>(Sum.elim (fun (o83_0:Bool × (List Int) × (List Int)) =>
    some (o83_0.1,((atB s:Int) - atA s),dn,false,o83_0.2.1,o83_0.2.2)) (fun (o83_1:Int × (List Int)) =>
    (qBm s o83_1.1 (allS s) ((atB s:Int) - atA s)).bind fun o86 =>
    some (o86.1,o86.2.1,dn,false,o86.2.2,o83_1.2))) o83)=some (qBi s,(qA8 s).off,(qA8 s).down,(qA8 s).plain,(qA8 s).digits,(qA8 s).exp):=by
   intro dn hdn
   subst hdn
   rw [p_ref2 s hsz (atE s) hEl,obS]
   show (Sum.elim _ _ (if decide (atF s=atE s)=true then _ else _))=_
   cases hd:decide (atF s=atE s) with
   | true =>
    have h3:(expS s && decide (atF s=atE s))=true:=by rw [he,hd]; rfl
    rw [readAll_3 hbd hdk h3,hro,h3]
    simp [readS,he]
   | false =>
    have h3:(expS s && decide (atF s=atE s))=false:=by rw [he,hd]; rfl
    simp only [Bool.false_eq_true,if_false,Sum.elim_inr]
    show ((qBm s (atF s:Int) _ _).bind _)=_
    rw [p_ref4 s hsz (atF s) _ (by omega),obS,hro,h3,hG]
    cases hq:decide (atF s=s.size) with
    | false =>
     rw [readAll_4 hbd hdk h3 (by rw [hG]; exact hq)]
     simp [readS,he,atF]
    | true =>
     have:qBi s=true:=by rw [hro,h3,hG,hq]; rfl
     rw [readAll_ok this]
     simp [readS,he,atF]
  simp only [cnT]
  refine (qAa (by unfold InI64; omega) _).trans ?_
  refine (qAa (fun h=>by have:=of_decide_eq_true h; omega) _).trans ?_
  refine (qAa (fun _ h=>by have:=of_decide_eq_true h; omega) _).trans ?_
  rw [hsg]
  cases hs:sgnS s with
  | true =>
   have hsl:=sgn_lt hs
   have hE:(atC s:Int)+1+1=(atE s:Int):=by simp [atE,hs]; omega
   simp only [cnT]
   refine (qAa (by omega) _).trans ?_
   refine (qAa (by unfold InI64; omega) _).trans ?_
   rw [hE]
   exact common _ rfl
  | false =>
   have hnd:¬bAt s ((atC s:Int)+1)=45:=fun e=>by simp [sgnS,e] at hs
   have hE:(atC s:Int)+1=(atE s:Int):=by simp [atE,hs]
   simp only [cnF]
   have:=common false (by simp [hnd])
   rw [←hE] at this
   exact this
theorem p_ref0:qBv s (atA s) 0 false true (⟨#[]⟩:ByteArray)=some (qBi s,(qA8 s).off,(qA8 s).down,(qA8 s).plain,(qA8 s).text,(qA8 s).digits,(qA8 s).exp):=by
 have hC:=atC_le s
 have hA:=atA_le s
 have hB:=atB_le s
 have hAB:=atA_le_atB s
 unfold qBv
 rw [p_many s (by omega) (atA s) hA,obS]
 show gd (decide ((atB s:Int)=(atA s:Int))=false→_) _=_
 have e1:decide ((atB s:Int)=(atA s:Int))=decide (atB s=atA s):=by rw [decide_eq_decide]; omega
 have e2:decide ((atA s:Int)+1<(atB s:Int))=decide (atA s+1<atB s):=by rw [decide_eq_decide]; omega
 have hbad:(decide (atB s=atA s) || decide (bAt s (atA s)=48) && decide (atA s+1<atB s))=badA s:=rfl
 refine (qAa (fun h=>by have:=of_decide_eq_false h; omega) _).trans ?_
 refine (qAa (fun _ _=>by unfold InI64; omega) _).trans ?_
 show (bif (decide ((atB s:Int)=(atA s:Int)) || decide (bAt s (atA s)=48) && decide ((atA s:Int)+1<(atB s:Int))) then _ else _)=_
 rw [e1,e2,hbad]
 cases hbd:badA s with
 | true =>
  have hro:qBi s=false:=by simp [qBi,hbd]
  rw [readAll_1 hbd,hro]
  rfl
 | false =>
  simp only [cnF]
  show gd ((0:Int)≤(atA s:Int)∧(atA s:Int)≤(atB s:Int)∧(atB s:Int)≤(s.size:Int)) _=_
  refine (qAa (by omega) _).trans ?_
  refine (qAa (by show (0:Int)≤(atA s:Int)∧(atA s:Int)≤(atB s:Int)∧(atB s:Int)≤(s.size:Int); omega) _).trans ?_
  refine (qAa (by show InI64 ((atB s:Int) - atA s); unfold InI64; omega) _).trans ?_
  refine (qAa (fun h=>by have:=of_decide_eq_true h; show (0:Int)≤(atB s:Int)∧(atB s:Int)<(s.size:Int); exact ⟨by omega,this⟩) _).trans ?_
  show (bif decide ((atB s:Int)<(s.size:Int)) && decide (bAt s (atB s)=46) then _ else _)=_
  have hdot:(decide ((atB s:Int)<(s.size:Int)) && decide (bAt s (atB s)=46))=dotS s:=by
   unfold dotS
   by_cases h:atB s<s.size
   ·simp [h]
   ·have:bAt s (atB s) = -1:=qBk (by omega)
    simp [this]
  rw [hdot]
  cases hd:dotS s with
  | false =>
   have hc:atC s=atB s:=by simp [atC,hd]
   have ha:allS s=s.extract (atA s) (atB s):=by simp [allS,hd]
   have hdk:(dotS s && decide (atK s=atB s+1))=false:=by rw [hd]; rfl
   have h1:=p_ref1 s hsz hbd hdk
   rw [hc,ha,hd] at h1
   simp only [cnF]
   show ((qBa s (atB s:Int) (s.extract (Int.toNat (atA s:Int)) (Int.toNat (atB s:Int))) ((atB s:Int) - atA s) false true).bind _)=_
   rw [Int.toNat_natCast,Int.toNat_natCast]
   have h1':qBa s (atB s:Int) (s.extract (atA s) (atB s)) ((atB s:Int) - atA s) false true=_:=h1
   rw [h1',obS]
   have ht:(qA8 s).text=s.extract (atA s) (atB s):=by
    unfold qA8
    rw [hbd,hdk]
    simp only [Bool.false_eq_true,if_false]
    split
    ·rfl
    ·split <;> rfl
   rw [ht]
   rfl
  | true =>
   have hBl:=atB_lt hd
   have hKl:=atK_le hd
   have hKg:=atK_ge s
   have hc:atC s=atK s:=by simp [atC,hd]
   have ha:allS s=s.extract (atA s) (atB s)++s.extract (atB s+1) (atK s):=by simp [allS,hd]
   simp only [cnT]
   show gd (InI64 ((atB s:Int)+1)) _=_
   refine (qAa (by unfold InI64; omega) _).trans ?_
   show ((qB3 s ((atB s+1:Nat):Int)).bind _)=_
   rw [p_many s (by omega) (atB s+1) (by omega),obS]
   refine (qAa (by show InI64 ((atB s:Int)+1); unfold InI64; omega) _).trans ?_
   show (bif decide ((atK s:Int)=(atB s:Int)+1) then _ else _)=_
   have e3:decide ((atK s:Int)=(atB s:Int)+1)=decide (atK s=atB s+1):=by rw [decide_eq_decide]; omega
   rw [e3]
   cases hk:decide (atK s=atB s+1) with
   | true =>
    have hdk:(dotS s && decide (atK s=atB s+1))=true:=by rw [hd,hk]; rfl
    have hro:qBi s=false:=by simp only [qBi,hbd,hdk,Bool.not_true,Bool.not_false,Bool.and_false,Bool.false_and]
    rw [readAll_2 hbd hdk,hro]
    rfl
   | false =>
    have hdk:(dotS s && decide (atK s=atB s+1))=false:=by rw [hd,hk]; rfl
    have h1:=p_ref1 s hsz hbd hdk
    rw [hc,ha,hd] at h1
    simp only [cnF]
    refine (qAa (by show InI64 ((atB s:Int)+1); unfold InI64; omega) _).trans ?_
    refine (qAa (by show (0:Int)≤(atB s:Int)+1∧(atB s:Int)+1≤(atK s:Int)∧(atK s:Int)≤(s.size:Int); omega) _).trans ?_
    have hx:(s.extract (atA s) (atB s)).size≤s.size:=by rw [ByteArray.size_extract]; omega
    have hy:(s.extract (atB s+1) (atK s)).size≤s.size:=by rw [ByteArray.size_extract]; omega
    show gd ((s.extract (Int.toNat (atA s:Int)) (Int.toNat (atB s:Int))).size+(s.extract (Int.toNat ((atB s+1:Nat):Int)) (Int.toNat (atK s:Int))).size≤9223372036854775807) ((qBa s (atK s:Int) (s.extract (Int.toNat (atA s:Int)) (Int.toNat (atB s:Int))++s.extract (Int.toNat ((atB s+1:Nat):Int)) (Int.toNat (atK s:Int))) ((atB s:Int) - atA s) false false).bind _)=_
    rw [Int.toNat_natCast,Int.toNat_natCast,Int.toNat_natCast,Int.toNat_natCast]
    refine (qAa (by omega) _).trans ?_
    have h1':qBa s (atK s:Int) (s.extract (atA s) (atB s)++s.extract (atB s+1) (atK s)) ((atB s:Int) - atA s) false false=_:=h1
    rw [h1',obS]
    have ht:(qA8 s).text=s.extract (atA s) (atB s):=by
     unfold qA8
     rw [hbd,hdk]
     simp only [Bool.false_eq_true,if_false]
     split
     ·rfl
     ·split <;> rfl
    rw [ht]
    rfl
theorem p_Read:qCy s=some (rnum (qA8 s),qBi s):=by
 have hm:(qA8 s).minus=decide (bAt s 0=45):=by
  unfold qA8
  split
  ·rfl
  ·split
   ·rfl
   ·split
    ·rfl
    ·split <;> rfl
 have h0:=p_ref0 s hsz
 unfold qCy
 refine (qAa (fun h=>by have:=of_decide_eq_true h; omega) _).trans ?_
 have e:(decide ((0:Int)<(s.size:Int)) && decide (bAt s 0=45))=decide (bAt s 0=45):=by
  by_cases h:0<s.size
  ·simp [h]
  ·have:bAt s 0 = -1:=qBk (by omega)
   simp [this]
 rw [e]
 by_cases h:bAt s 0=45
 ·have ha:atA s=1:=by simp [atA,h]
  rw [ha] at h0
  rw [deT h,cnT]
  refine (qAa (by unfold InI64; omega) _).trans ?_
  have h0':qBv s ((0:Int)+1) 0 false true (⟨#[]⟩:ByteArray)=_:=h0
  rw [h0',obS]
  unfold rnum
  rw [hm,deT h]
 ·have ha:atA s=0:=by simp [atA,h]
  rw [ha] at h0
  rw [deF h,cnF]
  have h0':qBv s (0:Int) 0 false true (⟨#[]⟩:ByteArray)=_:=h0
  rw [h0',obS]
  unfold rnum
  rw [hm,deF h]
end
end Go.Proofs.YtdcoiccdbgcpaaaDoor
namespace Go.Proofs.YtdcoiccdbgcpaaaDoor
open Go.Eng
set_option linter.unusedVariables false
set_option linter.unusedSimpArgs false
set_option maxRecDepth 100000
noncomputable section
structure signetref3_Got where
 at_:Int
 l:(List Eng.Node)
 s:ByteArray
 code:Int
 bad:Int
def zbn_b1:IQ:=(.loop [0,3,4] (.seq (.seq (rg 22 [oM 11 t3,oP 12 (.len t11),oP 13 (.bi .gtr t12 (vI 0)),oM 14 t13,oG 15 (.mv t3) 14 true,oG 16 (.mv t3) 14 true,oG 17 (.len t16) 14 true,oG 18 (.bi .sub t17 (vI 1)) 14 true,oG 19 (.iaddr 1 t15 t18) 14 true,oG 20 (.load none t19) 14 true,oG 21 (.bi .leq t20 (vI 0)) 14 true,oP 22 (.pick t14 t21 vF)]) (.cond t22 .skip (.cn [0,3,4] (.exit 2)))) (.block 3 (rg 3 [oM 23 t3,oM 24 t3,oP 25 (.len t24),oP 26 (.bi .sub t25 (vI 1)),oP 27 (.sub (some 1) t23 none (some t26)),oM 3 t27]))))
def zbn_b2:IQ:=(.join [] [0,3,4] (.seq (rg 3 [oM 43 t3,oM 44 t0,oM 45 t4,oP 46 (.iaddr 6 t44 t45),oP 47 (.faddr 5 t46),oP 48 (.load none t47),oP 49 (.bslice 3 1 1 [.int .i64 0] [(0,t48)]),oP 50 (.append 3 1 8 [.int .i64 0] t43 t49),oM 3 t50]) (.seq (rg 53 [oM 51 t3,oP 52 (.len t51),oP 53 (.bi .gtr t52 (vI 65536))]) (.cond t53 (.seq (rg 2 [oP 2 (.mv vT)]) (.cn [2] .ret)) .skip))))
def zbn_b0:IQ:=(.loop [0,3,4] (.seq (.seq (rg 8 [oM 5 t4,oM 6 t0,oP 7 (.len t6),oP 8 (.bi .lss t5 t7)]) (.cond t8 .skip (.cn [] (.exit 0)))) (.seq (.block 1 (.seq (.block 2 (.canon [(3,none,.i64,3)] [0,3,4] (.sub 1 zbn_b1))) (.seq (.seq (rg 30 [oM 28 t3,oP 29 (.len t28),oP 30 (.bi .gtr t29 (vI 0))]) (.cond t30 (rg 0 [oM 31 t3,oM 32 t3,oP 33 (.len t32),oP 34 (.bi .sub t33 (vI 1)),oM 35 t3,oM 36 t3,oP 37 (.len t36),oP 38 (.bi .sub t37 (vI 1)),oP 39 (.iaddr 1 t35 t38),oP 40 (.load none t39),oP 41 (.bi .sub t40 (vI 1)),oP 42 (.iaddr 1 t31 t34),oN (.store 1 t42 t41)]) .skip)) (.canon [(3,none,.i64,3)] [0,3,4] (.sub 2 zbn_b2))))) (rg 4 [oM 9 t4,oP 10 (.bi .add t9 (vI 1)),oM 4 t10]))))
def zbn_q:IQ:=(.seq (rg 2 [oP 2 (.mv vF)]) (.seq (rg 3 [oP 3 (.mv (.v (.slice none 0 0)))]) (.seq (.seq (rg 4 [oP 4 (.mv (vI 0))]) (.block 0 (.canon [(3,none,.i64,3)] [0,3,4] (.sub 0 zbn_b0)))) (.seq (rg 2 [oP 2 (.mv vF)]) (.cn [2] .ret)))))
theorem zbn_chk:chk Tryd.prog 14 []=some (zbn_q.erase,[.tmp 2],54):=by kernel_rfl
def qD7 (open_:List Int):Option (((List Int)) ⊕ ((List Int))) :=
 gd ((decide ((0:Int)<(open_.length:Int)))=true→InI64 ((open_.length:Int) - (1:Int))) <|
 gd ((decide ((0:Int)<(open_.length:Int)))=true→0≤((open_.length:Int) - (1:Int))∧((open_.length:Int) - (1:Int))<open_.length) <|
 gd ((decide ((0:Int)<(open_.length:Int)))=true→(Int.toNat ((open_.length:Int) - (1:Int)))<open_.length) <|
 bif ((decide ((0:Int)<(open_.length:Int))) && (decide ((open_.getD (Int.toNat ((open_.length:Int) - (1:Int))) (ET.dft .i64))≤(0:Int)))) then (
  gd (InI64 ((open_.length:Int) - (1:Int))) <|
  gd (0≤((open_.length:Int) - (1:Int))∧((open_.length:Int) - (1:Int))≤open_.length) <|
  some (.inl (open_.take (Int.toNat ((open_.length:Int) - (1:Int))))))
 else (
  some (.inr open_))
def zbn_p1 (open_:List Int):Option ((List Int)) :=
 qBg (fun x:((List Int))=>qD7 x) open_
def zbn_p2 (i:Int) (v:List Eng.Node) (open_:List Int):Option (Bool ⊕ ((List Int))) :=
 gd (0≤i∧i<v.length) <|
 gd ((Int.toNat i)<v.length) <|
 gd ((Int.toNat i)<v.length) <|
 gd (open_.length+([(v.getD (Int.toNat i) (ET.dft .node)).kids]:List Int).length≤9223372036854775807∧(open_.length+([(v.getD (Int.toNat i) (ET.dft .node)).kids]:List Int).length)*8≤140737488355328) <|
 bif decide ((65536:Int)<((open_++[(v.getD (Int.toNat i) (ET.dft .node)).kids]).length:Int)) then (
  some (.inl true))
 else (
  some (.inr (open_++[(v.getD (Int.toNat i) (ET.dft .node)).kids])))
def qD5 (i:Int) (v:List Eng.Node) (open_:List Int):Option ((Int × (List Int)) ⊕ (Bool ⊕ Unit)) :=
 bif decide (i<(v.length:Int)) then (
  (zbn_p1 open_).bind fun o8 =>
  bif decide ((0:Int)<(o8.length:Int)) then (
   gd (InI64 ((o8.length:Int) - (1:Int))) <|
   gd (InI64 ((o8.length:Int) - (1:Int))) <|
   gd (0≤((o8.length:Int) - (1:Int))∧((o8.length:Int) - (1:Int))<o8.length) <|
   gd ((Int.toNat ((o8.length:Int) - (1:Int)))<o8.length) <|
   gd (InI64 ((o8.getD (Int.toNat ((o8.length:Int) - (1:Int))) (ET.dft .i64)) - (1:Int))) <|
   gd (0≤((o8.length:Int) - (1:Int))∧((o8.length:Int) - (1:Int))<o8.length) <|
   gd ((Int.toNat ((o8.length:Int) - (1:Int)))<o8.length) <|
   (zbn_p2 i v (o8.set (Int.toNat ((o8.length:Int) - (1:Int))) ((o8.getD (Int.toNat ((o8.length:Int) - (1:Int))) (ET.dft .i64)) - (1:Int)))).bind fun o9=>(Sum.elim (fun (o9_0:Bool) =>
    some (.inr (.inl o9_0))) (fun (o9_1:(List Int)) =>
    gd (InI64 (i+(1:Int))) <|
    some (.inl ((i+(1:Int)),o9_1)))) o9)
  else (
   (zbn_p2 i v o8).bind fun o10=>(Sum.elim (fun (o10_0:Bool) =>
    some (.inr (.inl o10_0))) (fun (o10_1:(List Int)) =>
    gd (InI64 (i+(1:Int))) <|
    some (.inl ((i+(1:Int)),o10_1)))) o10))
 else (
  some (.inr (.inr ())))
def zbn_p0 (i:Int) (v:List Eng.Node) (open_:List Int):Option (Bool ⊕ Unit) :=
 qBg (fun x:(Int × (List Int))=>qD5 x.1 v x.2) (i,open_)
def zbn_s (v:(List Eng.Node)):Option Bool :=
 (zbn_p0 (0:Int) v []).bind fun o11=>(Sum.elim (fun (o11_0:Bool) =>
  some o11_0) (fun (o11_1:Unit) =>
  some false)) o11
def zbn_G:Nat→Option CQ:=tblQ []
theorem zbn_Gok:∀f C,zbn_G f=some C→qAe Tryd.prog f C:=fun f C h=>by cases h
def zbn_d1:=(dQS (dCons (dSO 0 (dO 0)) (dCons (dSO 3 (dO 1)) (dCons (dSO 4 dZ) dNil))) (dCons (dView .node) (dCons (dRow .i64 3) dNil)))
def zbn_l1:SubQ:=mkL zbn_d1 (fun x=>zbn_p1 x.2.2.1) fun x r R kn kx kr=>kx 2 ⟨[sL 0 (.own 0),sL 3 (.own 1),sL 4 (.vI x.1.2.2.1)],[],[.view .node x.2.1,.row .i64 3 r]⟩
def zbn_d2:=(dQS (dCons (dSO 0 (dO 0)) (dCons (dSO 3 (dO 1)) (dCons (dSO 4 dZ) dNil))) (dCons (dView .node) (dCons (dRow .i64 3) dNil)))
def zbn_l2:SubQ:=mkL zbn_d2 (fun x=>zbn_p2 x.1.2.2.1 x.2.1 x.2.2.1) fun x r R kn kx kr=>(Sum.elim (fun (r_0:Bool)=>kr ⟨[sL 2 (.vB r_0)],[],[.view .node x.2.1]⟩) (fun (r_1:(List Int))=>kn ⟨[sL 0 (.own 0),sL 3 (.own 1),sL 4 (.vI x.1.2.2.1)],[],[.view .node x.2.1,.row .i64 3 r_1]⟩)) r
def zbn_d0:=(dQS (dCons (dSO 0 (dO 0)) (dCons (dSO 3 (dO 1)) (dCons (dSO 4 dZ) dNil))) (dCons (dView .node) (dCons (dRow .i64 3) dNil)))
def zbn_l0:SubQ:=mkL zbn_d0 (fun x=>zbn_p0 x.1.2.2.1 x.2.1 x.2.2.1) fun x r R kn kx kr=>(Sum.elim (fun (r_0:Bool)=>kr ⟨[sL 2 (.vB r_0)],[],[.view .node x.2.1]⟩) (fun (r_1:Unit)=>kx 0 ⟨[],[],[.view .node x.2.1]⟩)) r
def zbn_L:Nat→SubQ:=tblL [(1,zbn_l1),(2,zbn_l2),(0,zbn_l0)]
theorem zbn_sub1:SubOK zbn_L zbn_G 1 5 54 1 zbn_b1:=qAz (show zbn_L 1=zbn_l1 from by kernel_rfl) fun x R kn kx kr=>qA0 (step:=fun y=>qD7 y) (enc:=fun (y:(List Int))=>zbn_d1.e (x.1,(x.2.1,y,x.2.2.2))) (fun y=>by kernel_rfl) (fun y ki=>by simp only [qD7,-eq_self,qAc,qAf,obA,obS,slL,slR,qAb]; kernel_rfl) x.2.2.1
theorem zbn_sub2:SubOK zbn_L zbn_G 1 5 54 2 zbn_b2:=qAz (show zbn_L 2=zbn_l2 from by kernel_rfl) fun x R kn kx kr=>by
 simp only [zbn_p2,-eq_self,qAc,qAf,obA,obS,slL,slR,qAb]
 kernel_rfl
theorem zbn_sub0:SubOK zbn_L zbn_G 1 5 54 0 zbn_b0:=qAz (show zbn_L 0=zbn_l0 from by kernel_rfl) fun x R kn kx kr=>qA0 (step:=fun y=>qD5 y.1 x.2.1 y.2) (enc:=fun (y:Int × (List Int))=>zbn_d0.e ((x.1.1,x.1.2.1,y.1,x.1.2.2.2),(x.2.1,y.2,x.2.2.2))) (fun y=>by kernel_rfl) (fun y ki=>by simp only [qD5,-eq_self,qAc,qAf,obA,obS,slL,slR,qAb]; kernel_rfl) (x.1.2.2.1,x.2.2.1)
theorem zbn_subs:qAo zbn_L zbn_G 1 5 54 zbn_q:=qAl (show qAp zbn_L zbn_G 1 5 54 [(0,zbn_b0),(1,zbn_b1),(2,zbn_b2)] from ⟨zbn_sub0,zbn_sub1,zbn_sub2,trivial⟩)
def zbn_da:=(dCons (dVC (dCO (dO 0))) dNil)
def zbn_db:=(dCons (dView .node) dNil)
def zbn_c:CS:=mkC zbn_da zbn_db (fun x y=>zbn_s y.1) (fun x y r=>.c (.o (.vB r))) fun x y r=>[.view .node y.1]
theorem zbn_val:qAm Tryd.prog 14 zbn_c:=qAn zbn_chk 5 zbn_Gok 1 (fun x=>Nat.le_of_ble_eq_true rfl) (fun y=>rfl) zbn_subs fun x y=>by
 simp only [zbn_s,-eq_self,qAc,qAf,obA,obS,slL,slR,qAb]
 kernel_rfl
def zbn_w:CQ:=prepQ [(0,none,some (.node,36))] (liftV [false] zbn_c)
theorem zbn_ok:qAe Tryd.prog 14 zbn_w:=qE4 zbn_val
def qFb (c:Int):Option (Int × Int × Int) :=
 bif ((decide (c<(194:Int))) || (decide ((244:Int)<c))) then (
  some ((-1:Int),(0:Int),(0:Int)))
 else (
  bif decide (c<(224:Int)) then (
   some ((1:Int),(128:Int),(191:Int)))
  else (
   bif decide (c=(224:Int)) then (
    some ((2:Int),(160:Int),(191:Int)))
   else (
    bif decide (c=(237:Int)) then (
     some ((2:Int),(128:Int),(159:Int)))
    else (
     bif decide (c<(240:Int)) then (
      some ((2:Int),(128:Int),(191:Int)))
     else (
      bif decide (c=(240:Int)) then (
       some ((3:Int),(144:Int),(191:Int)))
      else (
       bif decide (c=(244:Int)) then (
        some ((3:Int),(128:Int),(143:Int)))
       else (
        some ((3:Int),(128:Int),(191:Int)))))))))
def qDi (e at_:Int):Option signetref3_Got :=
 some (⟨(0:Int),[],(⟨#[]⟩:ByteArray),e,at_⟩:signetref3_Got)
def qDc (t:ByteArray) (at_:Int):Option Int :=
 bif decide ((t.size:Int)≤at_) then (
  some (-1:Int))
 else (
  gd (0≤at_∧at_<t.size) <|
  gd (InI64 (bAt t at_)) <|
  some (bAt t at_))
def qA3 (t:ByteArray) (at_ n low high i:Int):Option ((Int × Int × Int) ⊕ ((Int × ByteArray × Int × Int × (List Eng.Node)) ⊕ Unit)) :=
 bif decide (i≤n) then (
  gd (InI64 (at_+i)) <|
  (qDc t (at_+i)).bind fun r18 =>
  bif decide (r18<(0:Int)) then (
   (qDi (31:Int) (t.size:Int)).bind fun r19 =>
   some (.inr (.inl (r19.at_,r19.s,r19.code,r19.bad,r19.l))))
  else (
   bif ((decide (r18<low)) || (decide (high<r18))) then (
    (qDi (32:Int) at_).bind fun r20 =>
    some (.inr (.inl (r20.at_,r20.s,r20.code,r20.bad,r20.l))))
   else (
    gd (InI64 (i+(1:Int))) <|
    some (.inl ((128:Int),(191:Int),(i+(1:Int)))))))
 else (
  some (.inr (.inr ())))
def qBd (t:ByteArray) (at_ n low high i:Int):Option ((Int × ByteArray × Int × Int × (List Eng.Node)) ⊕ Unit) :=
 qBg (fun x:(Int × Int × Int)=>qA3 t at_ n x.1 x.2.1 x.2.2) (low,high,i)
def qCr (t:ByteArray) (at_:Int):Option signetref3_Got :=
 gd (0≤at_∧at_<t.size) <|
 gd (InI64 (bAt t at_)) <|
 (qFb (bAt t at_)).bind fun r16 =>
 bif decide (r16.1<(0:Int)) then (
  (qDi (32:Int) at_).bind fun r17 =>
  some r17)
 else (
  (qBd t at_ r16.1 r16.2.1 r16.2.2 (1:Int)).bind fun o21=>(Sum.elim (fun (o21_0:Int × ByteArray × Int × Int × (List Eng.Node)) =>
   some (⟨o21_0.1,o21_0.2.2.2.2,o21_0.2.1,o21_0.2.2.1,o21_0.2.2.2.1⟩:signetref3_Got)) (fun (o21_1:Unit) =>
   gd (InI64 (at_+r16.1)) <|
   gd (InI64 ((at_+r16.1)+(1:Int))) <|
   gd (InI64 (at_+r16.1)) <|
   gd (InI64 ((at_+r16.1)+(1:Int))) <|
   gd (0≤at_∧at_≤((at_+r16.1)+(1:Int))∧((at_+r16.1)+(1:Int))≤t.size) <|
   some (⟨((at_+r16.1)+(1:Int)),[],(t.extract (Int.toNat at_) (Int.toNat ((at_+r16.1)+(1:Int)))),(0:Int),(0:Int)⟩:signetref3_Got))) o21)
def qBc (s:ByteArray) (at_:Int):Option (Int ⊕ (Bool ⊕ Unit)) :=
 bif decide (at_<(s.size:Int)) then (
  gd (0≤at_∧at_<s.size) <|
  bif decide ((bAt s at_)<(128:Int)) then (
   gd (InI64 (at_+(1:Int))) <|
   some (.inl (at_+(1:Int))))
  else (
   (qCr s at_).bind fun r1 =>
   bif (!decide (r1.code=(0:Int))) then (
    some (.inr (.inl false)))
   else (
    some (.inl r1.at_))))
 else (
  some (.inr (.inr ())))
def qBq (s:ByteArray) (at_:Int):Option (Bool ⊕ Unit) :=
 qBg (fun x:Int=>qBc s x) at_
def qEy (s:ByteArray):Option Bool :=
 (qBq s (0:Int)).bind fun o2=>(Sum.elim (fun (o2_0:Bool) =>
  some o2_0) (fun (o2_1:Unit) =>
  some true)) o2
def qDo (n:Eng.Node):Option Bool :=
 bif ((((decide (n.kind<(1:Int))) || (decide ((7:Int)<n.kind))) || (decide (n.kids<(0:Int)))) || ((decide ((0:Int)<n.kids)) && (decide (n.kind<(6:Int))))) then (
  some false)
 else (
  (qB8 n.text).bind fun r1 =>
  (qDl n.text).bind fun r2 =>
  (qEy n.text).bind fun r3 =>
  bif decide (n.kind=(4:Int)) then (
   some ((r2 && (r1.2 == n.whole)) && (decide (r1.1=n.int))))
  else (
   bif (n.whole || (!decide (n.int=(0:Int)))) then (
    some false)
   else (
    bif decide (n.kind=(5:Int)) then (
     some r3)
    else (
     some (decide (n.text=(⟨#[]⟩:ByteArray)))))))
def qCd (self:(List Eng.Node)→Int→Option Int) (at_ next i:Int) (v:List Eng.Node):Option ((Int × Int) ⊕ Int) :=
 gd (0≤at_∧at_<v.length) <|
 gd ((Int.toNat at_)<v.length) <|
 gd ((Int.toNat at_)<v.length) <|
 bif ((decide (i<((v.getD (Int.toNat at_) (ET.dft .node)).kids))) && (decide ((0:Int)≤next))) then (
  (self v next).bind fun r3 =>
  gd (InI64 (i+(1:Int))) <|
  some (.inl (r3,(i+(1:Int)))))
 else (
  some (.inr next))
def qCe (self:(List Eng.Node)→Int→Option Int) (at_ next i:Int) (v:List Eng.Node):Option Int :=
 qBg (fun x:(Int × Int)=>qCd self at_ x.1 x.2 v) (next,i)
def qDa (self:(List Eng.Node)→Int→Option Int) (v:(List Eng.Node)) (at_:Int):Option Int :=
 bif ((decide (at_<(0:Int))) || (decide ((v.length:Int)≤at_))) then (
  some (-1:Int))
 else (
  gd (InI64 (at_+(1:Int))) <|
  (qCe self at_ (at_+(1:Int)) (0:Int) v).bind fun o4 =>
  some o4)
def qB5:Nat→(List Eng.Node)→Int→Option Int
 | 0=>fun _ _=>none
 | n+1=>qDa (qB5 n)
def qFd (v:(List Eng.Node)) (at_:Int):Option Int:=evt fun n=>qB5 n v at_
def qCj (at_ next i:Int) (v:List Eng.Node) (out:List Int):Option ((Int × Int × (List Int)) ⊕ ((List Int))) :=
 gd (0≤at_∧at_<v.length) <|
 gd ((Int.toNat at_)<v.length) <|
 gd ((Int.toNat at_)<v.length) <|
 bif (((decide (i<((v.getD (Int.toNat at_) (ET.dft .node)).kids))) && (decide ((0:Int)≤next))) && (decide (next<(v.length:Int)))) then (
  gd (out.length+([next]:List Int).length≤9223372036854775807∧(out.length+([next]:List Int).length)*8≤140737488355328) <|
  (qFd v next).bind fun r5 =>
  gd (InI64 (i+(1:Int))) <|
  some (.inl (r5,(i+(1:Int)),(out++[next]))))
 else (
  some (.inr out))
def qCq (at_ next i:Int) (v:List Eng.Node) (out:List Int):Option ((List Int)) :=
 qBg (fun x:(Int × Int × (List Int))=>qCj at_ x.1 x.2.1 v x.2.2) (next,i,out)
def qEi (v:(List Eng.Node)) (at_:Int):Option ((List Int)) :=
 bif ((decide (at_<(0:Int))) || (decide ((v.length:Int)≤at_))) then (
  some [])
 else (
  gd (InI64 (at_+(1:Int))) <|
  (qCq at_ (at_+(1:Int)) (0:Int) v []).bind fun o6 =>
  some o6)
def qBs (key:ByteArray) (i:Int) (v:List Eng.Node) (l:List Int):Option (Int ⊕ (Int ⊕ Unit)) :=
 bif decide (i<(l.length:Int)) then (
  gd (0≤i∧i<l.length) <|
  gd ((Int.toNat i)<l.length) <|
  gd (0≤(l.getD (Int.toNat i) (ET.dft .i64))∧(l.getD (Int.toNat i) (ET.dft .i64))<v.length) <|
  gd ((Int.toNat (l.getD (Int.toNat i) (ET.dft .i64)))<v.length) <|
  gd ((Int.toNat (l.getD (Int.toNat i) (ET.dft .i64)))<v.length) <|
  bif decide (((v.getD (Int.toNat (l.getD (Int.toNat i) (ET.dft .i64))) (ET.dft .node)).key)=key) then (
   gd (0≤i∧i<l.length) <|
   gd ((Int.toNat i)<l.length) <|
   some (.inr (.inl (l.getD (Int.toNat i) (ET.dft .i64)))))
  else (
   gd (InI64 (i+(1:Int))) <|
   some (.inl (i+(1:Int)))))
 else (
  some (.inr (.inr ())))
def qBy (key:ByteArray) (i:Int) (v:List Eng.Node) (l:List Int):Option (Int ⊕ Unit) :=
 qBg (fun x:Int=>qBs key x v l) i
def qFg (v:(List Eng.Node)) (at_:Int) (key:ByteArray):Option Int :=
 gd (((decide (at_<(0:Int))) || (decide ((v.length:Int)≤at_)))=false→0≤at_∧at_<v.length) <|
 gd (((decide (at_<(0:Int))) || (decide ((v.length:Int)≤at_)))=false→(Int.toNat at_)<v.length) <|
 gd (((decide (at_<(0:Int))) || (decide ((v.length:Int)≤at_)))=false→(Int.toNat at_)<v.length) <|
 bif (((decide (at_<(0:Int))) || (decide ((v.length:Int)≤at_))) || (!decide (((v.getD (Int.toNat at_) (ET.dft .node)).kind)=(7:Int)))) then (
  some (-1:Int))
 else (
  (qEi v at_).bind fun r2 =>
  (qBy key (0:Int) v r2).bind fun o3=>(Sum.elim (fun (o3_0:Int) =>
   some o3_0) (fun (o3_1:Unit) =>
   some (-1:Int))) o3)
def zah_b0:IQ:=(.loop [0,1,5] (.seq (.seq (rg 21 [oM 14 t5,oP 15 (.bi .gtr t14 (vI 0)),oM 16 t15,oG 17 (.mv t1) 16 true,oG 18 (.mv t0) 16 true,oG 19 (.len t18) 16 true,oG 20 (.bi .lss t17 t19) 16 true,oP 21 (.pick t16 t20 vF)]) (.cond t21 .skip (.cn [1] (.exit 0)))) (.seq (.block 1 (rg 5 [oM 24 t5,oM 25 t0,oM 26 t1,oP 27 (.iaddr 6 t25 t26),oP 28 (.faddr 5 t27),oP 29 (.load none t28),oP 30 (.bin true .sub t29 (vI 1)),oP 31 (.bin true .add t24 t30),oM 5 t31])) (rg 1 [oM 22 t1,oP 23 (.bi .add t22 (vI 1)),oM 1 t23]))))
def zah_q:IQ:=(.seq (rg 4 [oP 4 (.mv (vI 0))]) (.seq (.seq (rg 13 [oM 6 t1,oP 7 (.bi .lss t6 (vI 0)),oM 8 t7,oG 9 (.mv t1) 8 false,oG 10 (.mv t0) 8 false,oG 11 (.len t10) 8 false,oG 12 (.bi .geq t9 t11) 8 false,oP 13 (.pick t8 vT t12)]) (.cond t13 (.seq (rg 4 [oP 4 (.mv (.v (.int .i64 (-1))))]) (.cn [4] .ret)) .skip)) (.seq (.seq (rg 5 [oP 5 (.mv (vI 1))]) (.block 0 (.cn [0,1,5] (.sub 0 zah_b0)))) (.seq (rg 4 [oM 32 t1,oM 4 t32]) (.cn [4] .ret)))))
theorem zah_chk:chk Tryd.prog 26 [30,31]=some (zah_q.erase,[.tmp 4],33):=by kernel_rfl
def qEb (at_ left:Int) (v:List Eng.Node):Option ((Int × Int) ⊕ Int) :=
 bif ((decide ((0:Int)<left)) && (decide (at_<(v.length:Int)))) then (
  gd (0≤at_∧at_<v.length) <|
  gd ((Int.toNat at_)<v.length) <|
  gd ((Int.toNat at_)<v.length) <|
  gd (InI64 (at_+(1:Int))) <|
  some (.inl ((at_+(1:Int)),w64 (left+(w64 (((v.getD (Int.toNat at_) (ET.dft .node)).kids) - (1:Int)))))))
 else (
  some (.inr at_))
def zah_p0 (at_ left:Int) (v:List Eng.Node):Option Int :=
 qBg (fun x:(Int × Int)=>qEb x.1 x.2 v) (at_,left)
def zah_s (v:(List Eng.Node)) (at_:Int):Option Int :=
 bif ((decide (at_<(0:Int))) || (decide ((v.length:Int)≤at_))) then (
  some (-1:Int))
 else (
  (zah_p0 at_ (1:Int) v).bind fun o1 =>
  some o1)
def zah_G:Nat→Option CQ:=tblQ []
theorem zah_Gok:∀f C,zah_G f=some C→qAe Tryd.prog f C:=fun f C h=>by cases h
def zah_d0:=(dQS (dCons (dSO 0 (dO 0)) (dCons (dSO 1 dZ) (dCons (dSO 5 dZ) dNil))) (dCons (dView .node) dNil))
def zah_l0:SubQ:=mkL zah_d0 (fun x=>zah_p0 x.1.2.1 x.1.2.2.1 x.2.1) fun x r R kn kx kr=>kx 0 ⟨[sL 1 (.vI r)],[],[.view .node x.2.1]⟩
def zah_L:Nat→SubQ:=tblL [(0,zah_l0)]
theorem zah_sub0:SubOK zah_L zah_G 1 6 33 0 zah_b0:=qAz (show zah_L 0=zah_l0 from by kernel_rfl) fun x R kn kx kr=>qA0 (step:=fun y=>qEb y.1 y.2 x.2.1) (enc:=fun (y:Int × Int)=>zah_d0.e ((x.1.1,y.1,y.2,x.1.2.2.2),x.2)) (fun y=>by kernel_rfl) (fun y ki=>by simp only [qEb,-eq_self,qAc,qAf,obA,obS,slL,slR,qAb]; kernel_rfl) (x.1.2.1,x.1.2.2.1)
theorem zah_subs:qAo zah_L zah_G 1 6 33 zah_q:=qAl (show qAp zah_L zah_G 1 6 33 [(0,zah_b0)] from ⟨zah_sub0,trivial⟩)
def zah_da:=(dCons (dVC (dCO (dO 0))) (dCons (dVC (dCO dZ)) dNil))
def zah_db:=(dCons (dView .node) dNil)
def zah_c:CS:=mkC zah_da zah_db (fun x y=>zah_s y.1 x.2.1) (fun x y r=>.c (.o (.vI r))) fun x y r=>[.view .node y.1]
theorem zah_val:qAm Tryd.prog 26 zah_c:=qAn zah_chk 6 zah_Gok 1 (fun x=>Nat.le_of_ble_eq_true rfl) (fun y=>rfl) zah_subs fun x y=>by
 simp only [zah_s,-eq_self,qAc,qAf,obA,obS,slL,slR,qAb]
 kernel_rfl
def zah_w:CQ:=prepQ [(0,none,some (.node,36))] (liftV [false] zah_c)
theorem zah_ok:qAe Tryd.prog 26 zah_w:=qE4 zah_val
def zai_b0:IQ:=(.loop [0,1,2,7,8] (.seq (.seq (rg 43 [oM 27 t8,oM 28 t0,oM 29 t1,oP 30 (.iaddr 6 t28 t29),oP 31 (.faddr 5 t30),oP 32 (.load none t31),oP 33 (.bi .lss t27 t32),oM 34 t33,oG 35 (.mv t7) 34 true,oG 36 (.bi .geq t35 (vI 0)) 34 true,oP 37 (.pick t34 t36 vF),oM 38 t37,oG 39 (.mv t7) 38 true,oG 40 (.mv t0) 38 true,oG 41 (.len t40) 38 true,oG 42 (.bi .lss t39 t41) 38 true,oP 43 (.pick t38 t42 vF)]) (.cond t43 .skip (.cn [] (.exit 0)))) (.seq (.block 1 (.seq (.seq (rg 52 [oM 46 t0,oM 47 t7,oP 48 (.iaddr 6 t46 t47),oP 49 (.faddr 1 t48),oP 50 (.load none t49),oM 51 t2,oP 52 (.bi .eql t50 t51)]) (.cond t52 (.seq (rg 6 [oM 53 t7,oM 6 t53]) (.cn [6] .ret)) .skip)) (rg 7 [oM 54 t0,oM 55 t7,oP 56 (.call 26 [t54,t55]),oM 7 t56]))) (rg 8 [oM 44 t8,oP 45 (.bi .add t44 (vI 1)),oM 8 t45]))))
def zai_q:IQ:=(.seq (rg 6 [oP 6 (.mv (vI 0))]) (.seq (.seq (rg 24 [oM 9 t1,oP 10 (.bi .lss t9 (vI 0)),oM 11 t10,oG 12 (.mv t1) 11 false,oG 13 (.mv t0) 11 false,oG 14 (.len t13) 11 false,oG 15 (.bi .geq t12 t14) 11 false,oP 16 (.pick t11 vT t15),oM 17 t16,oG 18 (.mv t0) 17 false,oG 19 (.mv t1) 17 false,oG 20 (.iaddr 6 t18 t19) 17 false,oG 21 (.faddr 0 t20) 17 false,oG 22 (.load none t21) 17 false,oG 23 (.bi .neq t22 (vI 7)) 17 false,oP 24 (.pick t17 vT t23)]) (.cond t24 (.seq (rg 6 [oP 6 (.mv (.v (.int .i64 (-1))))]) (.cn [6] .ret)) .skip)) (.seq (rg 7 [oM 25 t1,oP 26 (.bi .add t25 (vI 1)),oM 7 t26]) (.seq (.seq (rg 8 [oP 8 (.mv (vI 0))]) (.block 0 (.cn [0,1,2,7,8] (.sub 0 zai_b0)))) (.seq (rg 6 [oP 6 (.mv (.v (.int .i64 (-1))))]) (.cn [6] .ret))))))
theorem zai_chk:chk Tryd.prog 24 []=some (zai_q.erase,[.tmp 6],57):=by kernel_rfl
def qEh (at_:Int) (key:ByteArray) (next i:Int) (v:List Eng.Node):Option ((Int × Int) ⊕ (Int ⊕ Unit)) :=
 gd (0≤at_∧at_<v.length) <|
 gd ((Int.toNat at_)<v.length) <|
 gd ((Int.toNat at_)<v.length) <|
 bif (((decide (i<((v.getD (Int.toNat at_) (ET.dft .node)).kids))) && (decide ((0:Int)≤next))) && (decide (next<(v.length:Int)))) then (
  gd (0≤next∧next<v.length) <|
  gd ((Int.toNat next)<v.length) <|
  gd ((Int.toNat next)<v.length) <|
  bif decide (((v.getD (Int.toNat next) (ET.dft .node)).key)=key) then (
   some (.inr (.inl next)))
  else (
   (zah_s v next).bind fun r3 =>
   gd (InI64 (i+(1:Int))) <|
   some (.inl (r3,(i+(1:Int))))))
 else (
  some (.inr (.inr ())))
def zai_p0 (at_:Int) (key:ByteArray) (next i:Int) (v:List Eng.Node):Option (Int ⊕ Unit) :=
 qBg (fun x:(Int × Int)=>qEh at_ key x.1 x.2 v) (next,i)
def zai_s (v:(List Eng.Node)) (at_:Int) (key:ByteArray):Option Int :=
 gd (((decide (at_<(0:Int))) || (decide ((v.length:Int)≤at_)))=false→0≤at_∧at_<v.length) <|
 gd (((decide (at_<(0:Int))) || (decide ((v.length:Int)≤at_)))=false→(Int.toNat at_)<v.length) <|
 gd (((decide (at_<(0:Int))) || (decide ((v.length:Int)≤at_)))=false→(Int.toNat at_)<v.length) <|
 bif (((decide (at_<(0:Int))) || (decide ((v.length:Int)≤at_))) || (!decide (((v.getD (Int.toNat at_) (ET.dft .node)).kind)=(7:Int)))) then (
  some (-1:Int))
 else (
  gd (InI64 (at_+(1:Int))) <|
  (zai_p0 at_ key (at_+(1:Int)) (0:Int) v).bind fun o4=>(Sum.elim (fun (o4_0:Int) =>
   some o4_0) (fun (o4_1:Unit) =>
   some (-1:Int))) o4)
def zai_G:Nat→Option CQ:=tblQ [(26,zah_w)]
theorem zai_Gok:∀f C,zai_G f=some C→qAe Tryd.prog f C:=qAj ⟨zah_ok,trivial⟩
def zai_d0:=(dQS (dCons (dSO 0 (dO 0)) (dCons (dSO 1 dZ) (dCons (dSO 2 dS) (dCons (dSO 7 dZ) (dCons (dSO 8 dZ) dNil))))) (dCons (dView .node) dNil))
def zai_l0:SubQ:=mkL zai_d0 (fun x=>zai_p0 x.1.2.1 x.1.2.2.1 x.1.2.2.2.1 x.1.2.2.2.2.1 x.2.1) fun x r R kn kx kr=>(Sum.elim (fun (r_0:Int)=>kr ⟨[sL 6 (.vI r_0)],[],[.view .node x.2.1]⟩) (fun (r_1:Unit)=>kx 0 ⟨[],[],[.view .node x.2.1]⟩)) r
def zai_L:Nat→SubQ:=tblL [(0,zai_l0)]
theorem zai_sub0:SubOK zai_L zai_G 1 9 57 0 zai_b0:=qAz (show zai_L 0=zai_l0 from by kernel_rfl) fun x R kn kx kr=>qA0 (step:=fun y=>qEh x.1.2.1 x.1.2.2.1 y.1 y.2 x.2.1) (enc:=fun (y:Int × Int)=>zai_d0.e ((x.1.1,x.1.2.1,x.1.2.2.1,y.1,y.2,x.1.2.2.2.2.2),x.2)) (fun y=>by kernel_rfl) (fun y ki=>by simp only [qEh,-eq_self,qAc,qAf,obA,obS,slL,slR,qAb]; kernel_rfl) (x.1.2.2.2.1,x.1.2.2.2.2.1)
theorem zai_subs:qAo zai_L zai_G 1 9 57 zai_q:=qAl (show qAp zai_L zai_G 1 9 57 [(0,zai_b0)] from ⟨zai_sub0,trivial⟩)
def zai_da:=(dCons (dVC (dCO (dO 0))) (dCons (dVC (dCO dZ)) (dCons (dVC (dCO dS)) dNil)))
def zai_db:=(dCons (dView .node) dNil)
def zai_c:CS:=mkC zai_da zai_db (fun x y=>zai_s y.1 x.2.1 x.2.2.1) (fun x y r=>.c (.o (.vI r))) fun x y r=>[.view .node y.1]
theorem zai_val:qAm Tryd.prog 24 zai_c:=qAn zai_chk 9 zai_Gok 1 (fun x=>Nat.le_of_ble_eq_true rfl) (fun y=>rfl) zai_subs fun x y=>by
 simp only [zai_s,-eq_self,qAc,qAf,obA,obS,slL,slR,qAb]
 kernel_rfl
def zai_w:CQ:=prepQ [(0,none,some (.node,36))] (liftV [false] zai_c)
theorem zai_ok:qAe Tryd.prog 24 zai_w:=qE4 zai_val
end
end Go.Proofs.YtdcoiccdbgcpaaaDoor
namespace Go.Proofs.YtdcoiccdbgcpaaaDoor
open Go.Eng
set_option linter.unusedVariables false
set_option linter.unusedSimpArgs false
theorem nd_get {v:List Eng.Node} {a:Nat} {n:Eng.Node} (h:v[a]?=some n):v.getD a (ET.dft .node)=n:=by
 rw [List.getD_eq_getElem?_getD,h]; rfl
theorem nd_some {v:List Eng.Node} {a:Nat} (h:a<v.length):∃n,v[a]?=some n∧n∈v∧v.getD a (ET.dft .node)=n :=
 ⟨v[a],List.getElem?_eq_getElem h,List.getElem_mem h,nd_get (List.getElem?_eq_getElem h)⟩
structure OkN (n:Eng.Node):Prop where
 key:n.key.size≤3000000
 text:n.text.size≤3000000
 kids:InI64 n.kids
def OkL (v:List Eng.Node):Prop:=v.length≤2000000∧∀n∈v,OkN n
theorem bAt_byte (t:ByteArray) (i:Int) : -1≤bAt t i∧bAt t i≤255:=by
 unfold bAt
 split
 ·split
  ·rename_i b _
   have:=b.toNat_lt
   omega
  ·omega
 ·omega
theorem byteAt_some (t:ByteArray) (at_:Int) (h0:0≤at_):qDc t at_=some (if (t.size:Int)≤at_ then -1 else bAt t at_)∧(0≤(if (t.size:Int)≤at_ then -1 else bAt t at_)→at_<t.size):=by
 have:=bAt_byte t at_
 unfold qDc
 by_cases h:(t.size:Int)≤at_
 ·rw [deT h,cnT,if_pos h]
  exact ⟨rfl,fun h=>by omega⟩
 ·rw [deF h,cnF,if_neg h]
  refine ⟨(qAa (by omega) _).trans (qAa (by unfold InI64; omega) _),fun _=>by omega⟩
end Go.Proofs.YtdcoiccdbgcpaaaDoor
