/-
  The document's shape of a list of nodes: it is always told, and where it is good the list is a tree. No program.
-/
import Derived.Test.YtdcoiccdbgcpaaaDoorEngO
import Derived.Test.YtdcoiccdbgcpaaaDoorGC
import Derived.Test.YtdcoiccdbgcpaaaDoorProg
import Derived.Test.YtdcoiccdbgcpaaaDoorEngQ
namespace Go.Proofs.YtdcoiccdbgcpaaaDoor
open Go.Eng
set_option linter.unusedVariables false
set_option linter.unusedSimpArgs false
theorem dV_range (s:ByteArray) (i:Nat):0≤dV s i∧dV s i<256:=by unfold dV; omega
structure DKey where
 ds:List Int
 pow:Int
def Dig (l:List Int):Prop:=∀d∈l,0≤d∧d≤9
def LastNZ:List Int→Prop
 | []=>True
 | [d]=>d≠0
 | _::l=>LastNZ l
structure Norm (a:DKey):Prop where
 dig:Dig a.ds
 last:LastNZ a.ds
 first:∀d,a.ds.head?=some d→d≠0
end Go.Proofs.YtdcoiccdbgcpaaaDoor
namespace Go.Proofs.YtdcoiccdbgcpaaaDoor
open Go.Eng
set_option linter.unusedVariables false
set_option linter.unusedSimpArgs false
end Go.Proofs.YtdcoiccdbgcpaaaDoor
namespace Go.Proofs.YtdcoiccdbgcpaaaDoor
open Go.Eng
set_option linter.unusedVariables false
set_option linter.unusedSimpArgs false
end Go.Proofs.YtdcoiccdbgcpaaaDoor
namespace Go.Proofs.YtdcoiccdbgcpaaaDoor
open Go.Eng
set_option linter.unusedVariables false
set_option linter.unusedSimpArgs false
def chr (d:Int):UInt8:=UInt8.ofNat ((48+d) % 256).toNat
def byteD (l:List Int):List UInt8:=l.map chr
def dotF (F:List Int):List UInt8:=if F=[] then [] else 46::byteD F
structure NumTxt (t:ByteArray) (W F:List Int):Prop where
 txt:t.data.toList=byteD W++dotF F
 dw:Dig W
 df:Dig F
 ne:W≠[]
 head:W.head?≠some 0∨W.length=1
section
variable {t:ByteArray} {W F:List Int} (h:NumTxt t W F)
include h
end
end Go.Proofs.YtdcoiccdbgcpaaaDoor
namespace Go.Proofs.YtdcoiccdbgcpaaaDoor
open Go.Eng
set_option linter.unusedVariables false
set_option linter.unusedSimpArgs false
theorem p_digit (s:ByteArray) (k:Nat):zbe_s s k=some (digS s k):=by
 unfold zbe_s
 refine (qAa (fun h=>by have:=of_decide_eq_true h; omega) _).trans ?_
 refine (qAa (fun h=>by have:=of_decide_eq_true (Bool.and_eq_true _ _ ▸ h).1; omega) _).trans ?_
 congr 1
 unfold digS
 by_cases hlt:(k:Int)<s.size
 ·simp [hlt]
 ·have:=qBg hlt
  simp [hlt,this]
theorem p_many (s:ByteArray) (hsz:s.size<4000000000000000000) (k:Nat) (hk:k≤s.size):zbf_s s k=some (manyS s k:Int):=by
 unfold zbf_s zbf_p0
 rw [qCk (fun x:Int=>∃j:Nat,x=j∧j≤s.size∧manyS s j=manyS s k) (fun x=>s.size - x.toNat) (fun _=>(manyS s k:Int)) ?_ (x:=(k:Int)) ⟨k,rfl,hk,rfl⟩]
 ·rfl
 rintro _ ⟨j,rfl,hj,hm⟩
 unfold zbf_p0_step
 rw [p_digit,obS]
 cases hd:digS s j with
 | true =>
  left
  have hlt:=qD0 hd
  refine ⟨((j+1:Nat):Int),?_,⟨j+1,rfl,by omega,by rw [←hm,qCo hd]⟩,by omega,rfl⟩
  refine (qAa (by unfold InI64; omega) _).trans ?_
  rfl
 | false =>
  right
  show some (Sum.inr (j:Int))=_
  rw [←hm,qDm hd]
theorem dV_ne (s:ByteArray) (i:Nat) (h:i<s.size):((!decide (bAt s i=48)):Bool)=decide (dV s i≠0):=by
 have h1:=qCh s i
 have h2:=bAt_nn (s:=s) (i:=i) (by omega) (by omega)
 rw [←decide_not,decide_eq_decide]
 unfold dV
 omega
theorem bias_or (a:Prop) [Decidable a] (n:Nat):(decide a || decide ((0:Int)<(n:Int)))=decide (a∨0<n):=by
 rw [Bool.eq_iff_iff]
 simp
section
variable (s:ByteArray) (hsz:s.size<1000000000)
include hsz
theorem p_ref3 (a k:Nat) (hak:a≤k) (hk:k≤s.size):zbc_p3 s k a []=some (lead (qBl s a (k - a))):=by
 unfold zbc_p3
 rw [qCk (fun x:Int × List Int=>∃j:Nat,x=(((a+j:Nat):Int),lead (qBl s a j))∧a+j≤k) (fun x=>k - x.1.toNat) (fun _=>lead (qBl s a (k - a))) ?_ (x:=((a:Int),[])) ⟨0,rfl,by omega⟩]
 rintro _ ⟨j,rfl,hj⟩
 unfold zbc_p3_step
 have hl:=lead_le (qBl s a j)
 rw [dsFrom_length] at hl
 by_cases hlt:a+j<k
 ·left
  have hs:=lead_snoc (qBl s a j) (dV s (a+j))
  rw [←dsFrom_succ] at hs
  have hr:=dV_range s (a+j)
  refine ⟨(((a+(j+1):Nat):Int),lead (qBl s a (j+1))),?_,⟨j+1,rfl,by omega⟩,by simp only; omega,rfl⟩
  simp only
  rw [deT (by omega),cnT]
  refine (qAa (by omega) _).trans ?_
  rw [dV_ne s (a+j) (by omega),bias_or,hs]
  by_cases hc:dV s (a+j)≠0∨0<(lead (qBl s a j)).length
  ·rw [deT hc,cnT,if_pos hc]
   refine (qAa (by omega) _).trans ?_
   refine (qAa (by unfold InI64; have:=hr; unfold dV at this; omega) _).trans ?_
   refine (qAa (by simp only [List.length_singleton]; omega) _).trans ?_
   refine (qAa (by unfold InI64; omega) _).trans ?_
   rfl
  ·rw [deF hc,cnF,if_neg hc]
   refine (qAa (by unfold InI64; omega) _).trans ?_
   have:lead (qBl s a j)=[]:=by
    apply List.eq_nil_of_length_eq_zero
    omega
   rw [this]
   rfl
 ·right
  simp only
  rw [deF (by omega),cnF,show k - a=j by omega]
theorem p_ref2 (a:Nat) (ha:a≤s.size):zbc_p2 s a=some (if decide (manyS s a=a)=true then .inl (false,[],[]) else .inr ((manyS s a:Int),lead (qBl s a (manyS s a - a)))):=by
 unfold zbc_p2
 rw [p_many s (by omega) a ha,obS]
 have:decide ((manyS s a:Int)=(a:Int))=decide (manyS s a=a):=by rw [decide_eq_decide]; omega
 rw [this]
 cases hd:decide (manyS s a=a) with
 | true=>rfl
 | false =>
  simp only [cnF]
  rw [p_ref3 s hsz a (manyS s a) (manyS_ge s a) (manyS_le s a ha)]
  rfl
end
theorem p_ref5 (t:ByteArray) (ht:t.size<4000000000) (o:Int) (ho : -4000000000≤o∧o≤4000000000):zbc_p5 t 0 o []=some (o - ((t.size:Int) - (lead (qBl t 0 t.size)).length),lead (qBl t 0 t.size)):=by
 unfold zbc_p5
 rw [qCk (fun x:Int × Int × List Int=>∃j:Nat,x=((j:Int),o - ((j:Int) - (lead (qBl t 0 j)).length),lead (qBl t 0 j))∧j≤t.size) (fun x=>t.size - x.1.toNat) (fun _=>(o - ((t.size:Int) - (lead (qBl t 0 t.size)).length),lead (qBl t 0 t.size))) ?_ (x:=((0:Int),o,[])) ⟨0,by simp [qBl,lead],by omega⟩]
 rintro _ ⟨j,rfl,hj⟩
 unfold zbc_p5_step
 have hl:=lead_le (qBl t 0 j)
 rw [dsFrom_length] at hl
 by_cases hlt:j<t.size
 ·left
  have hs:=lead_snoc (qBl t 0 j) (dV t (0+j))
  rw [←dsFrom_succ] at hs
  rw [Nat.zero_add] at hs
  have hr:=dV_range t j
  refine ⟨(((j+1:Nat):Int),o - (((j+1:Nat):Int) - (lead (qBl t 0 (j+1))).length),lead (qBl t 0 (j+1))),?_,⟨j+1,rfl,by omega⟩,by simp only; omega,rfl⟩
  simp only
  rw [deT (by omega),cnT]
  refine (qAa (by omega) _).trans ?_
  refine (qAa (by unfold InI64; have:=hr; unfold dV at this; omega) _).trans ?_
  have e:(!decide ((bAt t (j:Int) - 48) % 256=0))=decide (dV t j≠0):=by rw [←decide_not]; rfl
  rw [e,bias_or,hs]
  by_cases hc:dV t j≠0∨0<(lead (qBl t 0 j)).length
  ·rw [deT hc,cnT,if_pos hc]
   refine (qAa (by simp only [List.length_singleton]; omega) _).trans ?_
   refine (qAa (by unfold InI64; omega) _).trans ?_
   congr 3
   rw [List.length_append,List.length_singleton]
   congr 1
   omega
  ·rw [deF hc,cnF,if_neg hc]
   have:lead (qBl t 0 j)=[]:=by
    apply List.eq_nil_of_length_eq_zero
    omega
   rw [this]
   refine (qAa (by unfold InI64; simp only [List.length_nil]; omega) _).trans ?_
   refine (qAa (by unfold InI64; omega) _).trans ?_
   congr 3
   simp only [List.length_nil]
   congr 1
   omega
 ·right
  simp only
  rw [deF (by omega),cnF,show t.size=j by omega]
theorem p_ref6 (l0:List Int) (hl:l0.length<4000000000):zbc_p6 l0=some (trail l0):=by
 unfold zbc_p6
 rw [qCk (fun l:List Int=>l.length≤l0.length∧trail l=trail l0) (fun l=>l.length) (fun _=>trail l0) ?_ (x:=l0) ⟨by omega,rfl⟩]
 rintro l ⟨hle,ht⟩
 unfold zbc_p6_step
 rcases List.eq_nil_or_concat l with rfl | ⟨m,d,rfl⟩
 ·right
  refine (qAa (fun h=>by simp at h) _).trans ?_
  refine (qAa (fun h=>by simp at h) _).trans ?_
  refine (qAa (fun h=>by simp at h) _).trans ?_
  rw [←ht]
  rfl
 ·rw [List.concat_eq_append] at hle ht ⊢
  have hz:(m++[d]).length=m.length+1:=by simp
  rw [hz] at hle
  have hN:Int.toNat (((m++[d]).length:Int) - 1)=m.length:=by rw [hz]; omega
  have hg:(m++[d]).getD m.length (ET.dft .i64)=d:=by simp
  rw [hN,hg,hz]
  rw [deT (show (0:Int)<((m.length+1:Nat):Int) by omega)]
  by_cases hd:d=0
  ·left
   subst hd
   refine ⟨m,?_,⟨by omega,by rw [←ht,trail_snoc_zero]⟩,by omega,rfl⟩
   refine (qAa (fun _=>by unfold InI64; omega) _).trans ?_
   refine (qAa (fun _=>by omega) _).trans ?_
   refine (qAa (fun _=>by omega) _).trans ?_
   simp only [decide_true,Bool.and_true,cnT]
   refine (qAa (by unfold InI64; omega) _).trans ?_
   refine (qAa (by omega) _).trans ?_
   simp
  ·right
   refine (qAa (fun _=>by unfold InI64; omega) _).trans ?_
   refine (qAa (fun _=>by omega) _).trans ?_
   refine (qAa (fun _=>by omega) _).trans ?_
   rw [deF hd]
   simp only [Bool.and_false,cnF]
   rw [←ht,trail_snoc m d hd]
def rnum (r:RNum):signetref2_Num:=⟨r.minus,r.digits,r.off,r.down,r.exp,r.plain,r.text⟩
section
variable (s:ByteArray) (hsz:s.size<1000000000)
include hsz
theorem allS_size:(allS s).size≤s.size+s.size:=by
 unfold allS
 split <;> simp <;> omega
theorem p_ref4 (a:Nat) (o:Int) (ho : -4000000000≤o∧o≤4000000000):zbc_p4 s a (allS s) o=some (if decide (a=s.size)=true then (true,o - (((allS s).size:Int) - (lead (qBl (allS s) 0 (allS s).size)).length),(readS s).digits) else (false,o,[])):=by
 have hz:=allS_size s hsz
 have hl:=lead_le (qBl (allS s) 0 (allS s).size)
 rw [dsFrom_length] at hl
 unfold zbc_p4
 have:(!decide ((a:Int)=(s.size:Int)))=!decide (a=s.size):=by congr 1; rw [decide_eq_decide]; omega
 rw [this]
 cases hd:decide (a=s.size) with
 | false=>rfl
 | true =>
  simp only [Bool.not_true,cnF,if_true]
  rw [p_ref5 (allS s) (by omega) o ho,obS]
  simp only
  rw [p_ref6 _ (by omega),obS]
  rfl
theorem p_ref1 (hbd:badA s=false) (hdk:(dotS s && decide (atK s=atB s+1))=false):zbc_p1 s (atC s) (allS s) ((atB s:Int) - atA s) false (!dotS s)=some (qBt s,(qA3 s).off,(qA3 s).down,(qA3 s).plain,(qA3 s).digits,(qA3 s).exp):=by
 have hC:=atC_le s
 have hA:=atA_le s
 have hB:=atB_le s
 have hAB:=atA_le_atB s
 have hro:qBt s=(!(expS s && decide (atF s=atE s)) && decide (atG s=s.size)):=by
  unfold qBt
  rw [hbd,hdk]
  rfl
 have hexp:(decide ((atC s:Int)<(s.size:Int)) && (decide (bAt s (atC s)=101) || decide (bAt s (atC s)=69)))=expS s:=by
  unfold expS
  by_cases h:atC s<s.size
  ·simp [h]
  ·have:bAt s (atC s) = -1:=qBg (by omega)
   simp [this]
 unfold zbc_p1
 refine (qAa (fun h=>by have:=of_decide_eq_true h; omega) _).trans ?_
 refine (qAa (fun _ h=>by have:=of_decide_eq_true h; omega) _).trans ?_
 rw [hexp]
 cases he:expS s with
 | false =>
  have hG:atG s=atC s:=by simp [atG,he]
  have h3:(expS s && decide (atF s=atE s))=false:=by simp [he]
  simp only [cnF]
  rw [p_ref4 s hsz (atC s) _ (by omega),obS,hro,h3,hG]
  cases hd:decide (atC s=s.size) with
  | false =>
   rw [readAll_4 hbd hdk h3 (by rw [hG]; exact hd)]
   simp [readS,he]
  | true =>
   have:qBt s=true:=by rw [hro,h3,hG,hd]; rfl
   rw [readAll_ok this]
   simp [readS,he]
 | true =>
  have hCl:=atC_lt he
  have hEl:=atE_le he
  have hF:=atF_le he
  have hsg:(decide ((atC s:Int)+1<(s.size:Int)) && (decide (bAt s ((atC s:Int)+1)=43) || decide (bAt s ((atC s:Int)+1)=45)))=sgnS s:=by
   unfold sgnS
   by_cases h:(atC s:Int)+1<s.size
   ·simp [h]
   ·have:bAt s ((atC s:Int)+1) = -1:=qBg h
    simp [this]
  have hG:atG s=atF s:=by simp [atG,he]
  have common:∀(dn:Bool),dn=decide (bAt s ((atC s:Int)+1)=45)→((zbc_p2 s (atE s)).bind fun o83=>(Sum.elim (fun (o83_0:Bool × (List Int) × (List Int)) =>
    some (o83_0.1,((atB s:Int) - atA s),dn,false,o83_0.2.1,o83_0.2.2)) (fun (o83_1:Int × (List Int)) =>
    (zbc_p4 s o83_1.1 (allS s) ((atB s:Int) - atA s)).bind fun o86 =>
    some (o86.1,o86.2.1,dn,false,o86.2.2,o83_1.2))) o83)=some (qBt s,(qA3 s).off,(qA3 s).down,(qA3 s).plain,(qA3 s).digits,(qA3 s).exp):=by
   intro dn hdn
   subst hdn
   rw [p_ref2 s hsz (atE s) hEl,obS]
   show (Sum.elim _ _ (if decide (atF s=atE s)=true then _ else _))=_
   cases hd:decide (atF s=atE s) with
   | true =>
    have h3:(expS s && decide (atF s=atE s))=true:=by rw [he,hd]; rfl
    rw [readAll_3 hbd hdk h3,hro,h3]
    simp [readS,he]
   | false =>
    have h3:(expS s && decide (atF s=atE s))=false:=by rw [he,hd]; rfl
    simp only [Bool.false_eq_true,if_false,Sum.elim_inr]
    show ((zbc_p4 s (atF s:Int) _ _).bind _)=_
    rw [p_ref4 s hsz (atF s) _ (by omega),obS,hro,h3,hG]
    cases hq:decide (atF s=s.size) with
    | false =>
     rw [readAll_4 hbd hdk h3 (by rw [hG]; exact hq)]
     simp [readS,he,atF]
    | true =>
     have:qBt s=true:=by rw [hro,h3,hG,hq]; rfl
     rw [readAll_ok this]
     simp [readS,he,atF]
  simp only [cnT]
  refine (qAa (by unfold InI64; omega) _).trans ?_
  refine (qAa (fun h=>by have:=of_decide_eq_true h; omega) _).trans ?_
  refine (qAa (fun _ h=>by have:=of_decide_eq_true h; omega) _).trans ?_
  rw [hsg]
  cases hs:sgnS s with
  | true =>
   have hsl:=sgn_lt hs
   have hE:(atC s:Int)+1+1=(atE s:Int):=by simp [atE,hs]; omega
   simp only [cnT]
   refine (qAa (by omega) _).trans ?_
   refine (qAa (by unfold InI64; omega) _).trans ?_
   rw [hE]
   exact common _ rfl
  | false =>
   have hnd:¬bAt s ((atC s:Int)+1)=45:=fun e=>by simp [sgnS,e] at hs
   have hE:(atC s:Int)+1=(atE s:Int):=by simp [atE,hs]
   simp only [cnF]
   have:=common false (by simp [hnd])
   rw [←hE] at this
   exact this
theorem p_ref0:zbc_p0 s (atA s) 0 false true (⟨#[]⟩:ByteArray)=some (qBt s,(qA3 s).off,(qA3 s).down,(qA3 s).plain,(qA3 s).text,(qA3 s).digits,(qA3 s).exp):=by
 have hC:=atC_le s
 have hA:=atA_le s
 have hB:=atB_le s
 have hAB:=atA_le_atB s
 unfold zbc_p0
 rw [p_many s (by omega) (atA s) hA,obS]
 show gd (decide ((atB s:Int)=(atA s:Int))=false→_) _=_
 have e1:decide ((atB s:Int)=(atA s:Int))=decide (atB s=atA s):=by rw [decide_eq_decide]; omega
 have e2:decide ((atA s:Int)+1<(atB s:Int))=decide (atA s+1<atB s):=by rw [decide_eq_decide]; omega
 have hbad:(decide (atB s=atA s) || decide (bAt s (atA s)=48) && decide (atA s+1<atB s))=badA s:=rfl
 refine (qAa (fun h=>by have:=of_decide_eq_false h; omega) _).trans ?_
 refine (qAa (fun _ _=>by unfold InI64; omega) _).trans ?_
 show (bif (decide ((atB s:Int)=(atA s:Int)) || decide (bAt s (atA s)=48) && decide ((atA s:Int)+1<(atB s:Int))) then _ else _)=_
 rw [e1,e2,hbad]
 cases hbd:badA s with
 | true =>
  have hro:qBt s=false:=by simp [qBt,hbd]
  rw [readAll_1 hbd,hro]
  rfl
 | false =>
  simp only [cnF]
  show gd ((0:Int)≤(atA s:Int)∧(atA s:Int)≤(atB s:Int)∧(atB s:Int)≤(s.size:Int)) _=_
  refine (qAa (by omega) _).trans ?_
  refine (qAa (by show (0:Int)≤(atA s:Int)∧(atA s:Int)≤(atB s:Int)∧(atB s:Int)≤(s.size:Int); omega) _).trans ?_
  refine (qAa (by show InI64 ((atB s:Int) - atA s); unfold InI64; omega) _).trans ?_
  refine (qAa (fun h=>by have:=of_decide_eq_true h; show (0:Int)≤(atB s:Int)∧(atB s:Int)<(s.size:Int); exact ⟨by omega,this⟩) _).trans ?_
  show (bif decide ((atB s:Int)<(s.size:Int)) && decide (bAt s (atB s)=46) then _ else _)=_
  have hdot:(decide ((atB s:Int)<(s.size:Int)) && decide (bAt s (atB s)=46))=dotS s:=by
   unfold dotS
   by_cases h:atB s<s.size
   ·simp [h]
   ·have:bAt s (atB s) = -1:=qBg (by omega)
    simp [this]
  rw [hdot]
  cases hd:dotS s with
  | false =>
   have hc:atC s=atB s:=by simp [atC,hd]
   have ha:allS s=s.extract (atA s) (atB s):=by simp [allS,hd]
   have hdk:(dotS s && decide (atK s=atB s+1))=false:=by rw [hd]; rfl
   have h1:=p_ref1 s hsz hbd hdk
   rw [hc,ha,hd] at h1
   simp only [cnF]
   show ((zbc_p1 s (atB s:Int) (s.extract (Int.toNat (atA s:Int)) (Int.toNat (atB s:Int))) ((atB s:Int) - atA s) false true).bind _)=_
   rw [Int.toNat_natCast,Int.toNat_natCast]
   have h1':zbc_p1 s (atB s:Int) (s.extract (atA s) (atB s)) ((atB s:Int) - atA s) false true=_:=h1
   rw [h1',obS]
   have ht:(qA3 s).text=s.extract (atA s) (atB s):=by
    unfold qA3
    rw [hbd,hdk]
    simp only [Bool.false_eq_true,if_false]
    split
    ·rfl
    ·split <;> rfl
   rw [ht]
   rfl
  | true =>
   have hBl:=atB_lt hd
   have hKl:=atK_le hd
   have hKg:=atK_ge s
   have hc:atC s=atK s:=by simp [atC,hd]
   have ha:allS s=s.extract (atA s) (atB s)++s.extract (atB s+1) (atK s):=by simp [allS,hd]
   simp only [cnT]
   show gd (InI64 ((atB s:Int)+1)) _=_
   refine (qAa (by unfold InI64; omega) _).trans ?_
   show ((zbf_s s ((atB s+1:Nat):Int)).bind _)=_
   rw [p_many s (by omega) (atB s+1) (by omega),obS]
   refine (qAa (by show InI64 ((atB s:Int)+1); unfold InI64; omega) _).trans ?_
   show (bif decide ((atK s:Int)=(atB s:Int)+1) then _ else _)=_
   have e3:decide ((atK s:Int)=(atB s:Int)+1)=decide (atK s=atB s+1):=by rw [decide_eq_decide]; omega
   rw [e3]
   cases hk:decide (atK s=atB s+1) with
   | true =>
    have hdk:(dotS s && decide (atK s=atB s+1))=true:=by rw [hd,hk]; rfl
    have hro:qBt s=false:=by simp only [qBt,hbd,hdk,Bool.not_true,Bool.not_false,Bool.and_false,Bool.false_and]
    rw [readAll_2 hbd hdk,hro]
    rfl
   | false =>
    have hdk:(dotS s && decide (atK s=atB s+1))=false:=by rw [hd,hk]; rfl
    have h1:=p_ref1 s hsz hbd hdk
    rw [hc,ha,hd] at h1
    simp only [cnF]
    refine (qAa (by show InI64 ((atB s:Int)+1); unfold InI64; omega) _).trans ?_
    refine (qAa (by show (0:Int)≤(atB s:Int)+1∧(atB s:Int)+1≤(atK s:Int)∧(atK s:Int)≤(s.size:Int); omega) _).trans ?_
    have hx:(s.extract (atA s) (atB s)).size≤s.size:=by rw [ByteArray.size_extract]; omega
    have hy:(s.extract (atB s+1) (atK s)).size≤s.size:=by rw [ByteArray.size_extract]; omega
    show gd ((s.extract (Int.toNat (atA s:Int)) (Int.toNat (atB s:Int))).size+(s.extract (Int.toNat ((atB s+1:Nat):Int)) (Int.toNat (atK s:Int))).size≤9223372036854775807) ((zbc_p1 s (atK s:Int) (s.extract (Int.toNat (atA s:Int)) (Int.toNat (atB s:Int))++s.extract (Int.toNat ((atB s+1:Nat):Int)) (Int.toNat (atK s:Int))) ((atB s:Int) - atA s) false false).bind _)=_
    rw [Int.toNat_natCast,Int.toNat_natCast,Int.toNat_natCast,Int.toNat_natCast]
    refine (qAa (by omega) _).trans ?_
    have h1':zbc_p1 s (atK s:Int) (s.extract (atA s) (atB s)++s.extract (atB s+1) (atK s)) ((atB s:Int) - atA s) false false=_:=h1
    rw [h1',obS]
    have ht:(qA3 s).text=s.extract (atA s) (atB s):=by
     unfold qA3
     rw [hbd,hdk]
     simp only [Bool.false_eq_true,if_false]
     split
     ·rfl
     ·split <;> rfl
    rw [ht]
    rfl
theorem p_Read:zbc_s s=some (rnum (qA3 s),qBt s):=by
 have hm:(qA3 s).minus=decide (bAt s 0=45):=by
  unfold qA3
  split
  ·rfl
  ·split
   ·rfl
   ·split
    ·rfl
    ·split <;> rfl
 have h0:=p_ref0 s hsz
 unfold zbc_s
 refine (qAa (fun h=>by have:=of_decide_eq_true h; omega) _).trans ?_
 have e:(decide ((0:Int)<(s.size:Int)) && decide (bAt s 0=45))=decide (bAt s 0=45):=by
  by_cases h:0<s.size
  ·simp [h]
  ·have:bAt s 0 = -1:=qBg (by omega)
   simp [this]
 rw [e]
 by_cases h:bAt s 0=45
 ·have ha:atA s=1:=by simp [atA,h]
  rw [ha] at h0
  rw [deT h,cnT]
  refine (qAa (by unfold InI64; omega) _).trans ?_
  have h0':zbc_p0 s ((0:Int)+1) 0 false true (⟨#[]⟩:ByteArray)=_:=h0
  rw [h0',obS]
  unfold rnum
  rw [hm,deT h]
 ·have ha:atA s=0:=by simp [atA,h]
  rw [ha] at h0
  rw [deF h,cnF]
  have h0':zbc_p0 s (0:Int) 0 false true (⟨#[]⟩:ByteArray)=_:=h0
  rw [h0',obS]
  unfold rnum
  rw [hm,deF h]
end
end Go.Proofs.YtdcoiccdbgcpaaaDoor
namespace Go.Proofs.YtdcoiccdbgcpaaaDoor
open Go.Eng
set_option linter.unusedVariables false
set_option linter.unusedSimpArgs false
set_option maxRecDepth 100000
noncomputable section
structure signetref3_Got where
 at_:Int
 l:(List Eng.Node)
 s:ByteArray
 code:Int
 bad:Int
def zbk_q:IQ:=(.seq (rg 4 [oP 2 (.mv (vI 0)),oP 3 (.mv (vI 0)),oP 4 (.mv (vI 0))]) (.seq (.block 0 (.seq (rg 5 [oM 6 t0,oP 7 (.bi .lss t6 (vI 194)),oM 8 t7,oG 9 (.mv t0) 8 false,oG 10 (.bi .gtr t9 (vI 244)) 8 false,oP 11 (.pick t8 vT t10),oM 5 t11]) (.cond t5 (.seq (rg 4 [oP 2 (.mv (.v (.int .i64 (-1)))),oP 3 (.mv (vI 0)),oP 4 (.mv (vI 0))]) (.cn [2,3,4] .ret)) (.seq (rg 12 [oM 13 t0,oP 14 (.bi .lss t13 (vI 224)),oM 12 t14]) (.cond t12 (.seq (rg 4 [oP 2 (.mv (vI 1)),oP 3 (.mv (vI 128)),oP 4 (.mv (vI 191))]) (.cn [2,3,4] .ret)) (.seq (rg 15 [oM 16 t0,oP 17 (.bi .eql t16 (vI 224)),oM 15 t17]) (.cond t15 (.seq (rg 4 [oP 2 (.mv (vI 2)),oP 3 (.mv (vI 160)),oP 4 (.mv (vI 191))]) (.cn [2,3,4] .ret)) (.seq (rg 18 [oM 19 t0,oP 20 (.bi .eql t19 (vI 237)),oM 18 t20]) (.cond t18 (.seq (rg 4 [oP 2 (.mv (vI 2)),oP 3 (.mv (vI 128)),oP 4 (.mv (vI 159))]) (.cn [2,3,4] .ret)) (.seq (rg 21 [oM 22 t0,oP 23 (.bi .lss t22 (vI 240)),oM 21 t23]) (.cond t21 (.seq (rg 4 [oP 2 (.mv (vI 2)),oP 3 (.mv (vI 128)),oP 4 (.mv (vI 191))]) (.cn [2,3,4] .ret)) (.seq (rg 24 [oM 25 t0,oP 26 (.bi .eql t25 (vI 240)),oM 24 t26]) (.cond t24 (.seq (rg 4 [oP 2 (.mv (vI 3)),oP 3 (.mv (vI 144)),oP 4 (.mv (vI 191))]) (.cn [2,3,4] .ret)) (.seq (rg 27 [oM 28 t0,oP 29 (.bi .eql t28 (vI 244)),oM 27 t29]) (.cond t27 (.seq (rg 4 [oP 2 (.mv (vI 3)),oP 3 (.mv (vI 128)),oP 4 (.mv (vI 143))]) (.cn [2,3,4] .ret)) .skip))))))))))))))) (.seq (rg 4 [oP 2 (.mv (vI 3)),oP 3 (.mv (vI 128)),oP 4 (.mv (vI 191))]) (.cn [2,3,4] .ret))))
theorem zbk_chk:chk Tryd.prog 160 []=some (zbk_q.erase,[.tmp 2,.tmp 3,.tmp 4],30):=by kernel_rfl
def zbk_s (c:Int):Option (Int × Int × Int) :=
 bif ((decide (c<(194:Int))) || (decide ((244:Int)<c))) then (
  some ((-1:Int),(0:Int),(0:Int)))
 else (
  bif decide (c<(224:Int)) then (
   some ((1:Int),(128:Int),(191:Int)))
  else (
   bif decide (c=(224:Int)) then (
    some ((2:Int),(160:Int),(191:Int)))
   else (
    bif decide (c=(237:Int)) then (
     some ((2:Int),(128:Int),(159:Int)))
    else (
     bif decide (c<(240:Int)) then (
      some ((2:Int),(128:Int),(191:Int)))
     else (
      bif decide (c=(240:Int)) then (
       some ((3:Int),(144:Int),(191:Int)))
      else (
       bif decide (c=(244:Int)) then (
        some ((3:Int),(128:Int),(143:Int)))
       else (
        some ((3:Int),(128:Int),(191:Int)))))))))
def zbk_G:Nat→Option CQ:=tblQ []
theorem zbk_Gok:∀f C,zbk_G f=some C→qAe Tryd.prog f C:=fun f C h=>by cases h
def zbk_L:Nat→SubQ:=tblL []
theorem zbk_subs:qAn zbk_L zbk_G 0 5 30 zbk_q:=qAi (show qAp zbk_L zbk_G 0 5 30 [] from trivial)
def zbk_da:=(dCons (dVC (dCO dZ)) dNil)
def zbk_db:=(dNil:Dec Unit (List SB))
def zbk_c:CS:=mkC zbk_da zbk_db (fun x y=>zbk_s x.1) (fun x y r=>.tup [.o (.vI r.1),.o (.vI r.2.1),.o (.vI r.2.2)]) fun x y r=>[]
theorem zbk_val:qAj Tryd.prog 160 zbk_c:=qAl zbk_chk 5 zbk_Gok 0 (fun x=>Nat.le_of_ble_eq_true rfl) (fun y=>rfl) zbk_subs fun x y=>by
 simp only [zbk_s,-eq_self,qAb,qAd,obA,obS,slL,slR,qAc]
 kernel_rfl
def zbk_w:CQ:=liftV [] zbk_c
theorem zbk_ok:qAe Tryd.prog 160 zbk_w:=qAs zbk_val
def zbo_q:IQ:=(.seq (rg 4 [oP 4 (.alloc 117 [.int .i64 0,.slice none 0 0,.string ⟨#[]⟩,.int .i64 0,.int .i64 0])]) (.seq (rg 0 [oM 5 t0,oM 6 t1,oP 7 (.build [.int .i64 0,.slice none 0 0,.string ⟨#[]⟩,.int .i64 0,.int .i64 0] [(3,1,t5),(4,1,t6)]),oN (.store 5 t4 t7)]) (.canon [(4,some 1,.node,36)] [4] .ret)))
theorem zbo_chk:chk Tryd.prog 124 []=some (zbo_q.erase,[.cell 4 (some 5)],8):=by kernel_rfl
def zbo_s (e at_:Int):Option signetref3_Got :=
 some (⟨(0:Int),[],(⟨#[]⟩:ByteArray),e,at_⟩:signetref3_Got)
def zbo_G:Nat→Option CQ:=tblQ []
theorem zbo_Gok:∀f C,zbo_G f=some C→qAe Tryd.prog f C:=fun f C h=>by cases h
def zbo_L:Nat→SubQ:=tblL []
theorem zbo_subs:qAn zbo_L zbo_G 0 5 8 zbo_q:=qAi (show qAp zbo_L zbo_G 0 5 8 [] from trivial)
def zbo_da:=(dCons (dVC (dCO dZ)) (dCons (dVC (dCO dZ)) dNil))
def zbo_db:=(dNil:Dec Unit (List SB))
def zbo_c:CS:=mkC zbo_da zbo_db (fun x y=>zbo_s x.1 x.2.1) (fun x y r=>.c (.agg [.vI r.at_,.own 0,.vS r.s,.vI r.code,.vI r.bad])) fun x y r=>[.row .node 36 r.l]
theorem zbo_val:qAj Tryd.prog 124 zbo_c:=qAl zbo_chk 5 zbo_Gok 0 (fun x=>Nat.le_of_ble_eq_true rfl) (fun y=>rfl) zbo_subs fun x y=>by
 simp only [zbo_s,-eq_self,qAb,qAd,obA,obS,slL,slR,qAc]
 kernel_rfl
def zbo_w:CQ:=liftQ [] zbo_c
theorem zbo_ok:qAe Tryd.prog 124 zbo_w:=qBb zbo_val
def zbl_q:IQ:=(.seq (rg 4 [oP 4 (.mv (vI 0))]) (.seq (.seq (rg 8 [oM 5 t1,oM 6 t0,oP 7 (.lenS t6),oP 8 (.bi .geq t5 t7)]) (.cond t8 (.seq (rg 4 [oP 4 (.mv (.v (.int .i64 (-1))))]) (.cn [4] .ret)) .skip)) (.seq (rg 4 [oM 9 t0,oM 10 t1,oP 11 (.index t9 t10),oP 12 (.conv false .i64 t11),oM 4 t12]) (.cn [4] .ret))))
theorem zbl_chk:chk Tryd.prog 123 []=some (zbl_q.erase,[.tmp 4],13):=by kernel_rfl
def zbl_s (t:ByteArray) (at_:Int):Option Int :=
 bif decide ((t.size:Int)≤at_) then (
  some (-1:Int))
 else (
  gd (0≤at_∧at_<t.size) <|
  gd (InI64 (bAt t at_)) <|
  some (bAt t at_))
def zbl_G:Nat→Option CQ:=tblQ []
theorem zbl_Gok:∀f C,zbl_G f=some C→qAe Tryd.prog f C:=fun f C h=>by cases h
def zbl_L:Nat→SubQ:=tblL []
theorem zbl_subs:qAn zbl_L zbl_G 0 5 13 zbl_q:=qAi (show qAp zbl_L zbl_G 0 5 13 [] from trivial)
def zbl_da:=(dCons (dVC (dCO dS)) (dCons (dVC (dCO dZ)) dNil))
def zbl_db:=(dNil:Dec Unit (List SB))
def zbl_c:CS:=mkC zbl_da zbl_db (fun x y=>zbl_s x.1 x.2.1) (fun x y r=>.c (.o (.vI r))) fun x y r=>[]
theorem zbl_val:qAj Tryd.prog 123 zbl_c:=qAl zbl_chk 5 zbl_Gok 0 (fun x=>Nat.le_of_ble_eq_true rfl) (fun y=>rfl) zbl_subs fun x y=>by
 simp only [zbl_s,-eq_self,qAb,qAd,obA,obS,slL,slR,qAc]
 kernel_rfl
def zbl_w:CQ:=liftV [] zbl_c
theorem zbl_ok:qAe Tryd.prog 123 zbl_w:=qAs zbl_val
def zbw_b0:IQ:=(.loop [0,1,4,5,6,7,8] (.seq (.seq (rg 25 [oM 23 t8,oM 24 t5,oP 25 (.bi .leq t23 t24)]) (.cond t25 .skip (.cn [0,1,4,5] (.exit 0)))) (.seq (.block 1 (.seq (rg 9 [oM 28 t0,oM 29 t1,oM 30 t8,oP 31 (.bi .add t29 t30),oP 32 (.call 123 [t28,t31]),oM 9 t32]) (.seq (.seq (rg 34 [oM 33 t9,oP 34 (.bi .lss t33 (vI 0))]) (.cond t34 (.seq (rg 0 [oM 35 t0,oP 36 (.lenS t35),oP 37 (.call 124 [(vI 31),t36]),oN (.store 5 t4 t37)]) (.canon [(4,some 1,.node,36)] [4] .ret)) .skip)) (.seq (.seq (rg 45 [oM 38 t9,oM 39 t6,oP 40 (.bi .lss t38 t39),oM 41 t40,oG 42 (.mv t9) 41 false,oG 43 (.mv t7) 41 false,oG 44 (.bi .gtr t42 t43) 41 false,oP 45 (.pick t41 vT t44)]) (.cond t45 (.seq (rg 0 [oM 46 t1,oP 47 (.call 124 [(vI 32),t46]),oN (.store 5 t4 t47)]) (.canon [(4,some 1,.node,36)] [4] .ret)) .skip)) (.seq (rg 6 [oP 6 (.mv (vI 128))]) (rg 7 [oP 7 (.mv (vI 191))])))))) (rg 8 [oM 26 t8,oP 27 (.bi .add t26 (vI 1)),oM 8 t27]))))
def zbw_q:IQ:=(.seq (rg 4 [oP 4 (.alloc 117 [.int .i64 0,.slice none 0 0,.string ⟨#[]⟩,.int .i64 0,.int .i64 0])]) (.seq (rg 7 [oM 11 t0,oM 12 t1,oP 13 (.index t11 t12),oP 14 (.conv false .i64 t13),oP 15 (.call 160 [t14]),oM 10 t15,oP 16 (.extract t10 0),oP 17 (.extract t10 1),oP 18 (.extract t10 2),oM 5 t16,oM 6 t17,oM 7 t18]) (.seq (.seq (rg 20 [oM 19 t5,oP 20 (.bi .lss t19 (vI 0))]) (.cond t20 (.seq (rg 0 [oM 21 t1,oP 22 (.call 124 [(vI 32),t21]),oN (.store 5 t4 t22)]) (.canon [(4,some 1,.node,36)] [4] .ret)) .skip)) (.seq (.seq (rg 8 [oP 8 (.mv (vI 1))]) (.block 0 (.cn [0,1,4,5,6,7,8] (.sub 0 zbw_b0)))) (.seq (rg 0 [oM 48 t1,oM 49 t5,oP 50 (.bi .add t48 t49),oP 51 (.bi .add t50 (vI 1)),oM 52 t0,oM 53 t1,oM 54 t1,oM 55 t5,oP 56 (.bi .add t54 t55),oP 57 (.bi .add t56 (vI 1)),oP 58 (.sub none t52 (some t53) (some t57)),oP 59 (.build [.int .i64 0,.slice none 0 0,.string ⟨#[]⟩,.int .i64 0,.int .i64 0] [(0,1,t51),(2,1,t58)]),oN (.store 5 t4 t59)]) (.canon [(4,some 1,.node,36)] [4] .ret))))))
theorem zbw_chk:chk Tryd.prog 135 []=some (zbw_q.erase,[.cell 4 (some 5)],60):=by kernel_rfl
def qCl (t:ByteArray) (at_ n low high i:Int):Option ((Int × Int × Int) ⊕ ((Int × ByteArray × Int × Int × (List Eng.Node)) ⊕ Unit)) :=
 bif decide (i≤n) then (
  gd (InI64 (at_+i)) <|
  (zbl_s t (at_+i)).bind fun r18 =>
  bif decide (r18<(0:Int)) then (
   (zbo_s (31:Int) (t.size:Int)).bind fun r19 =>
   some (.inr (.inl (r19.at_,r19.s,r19.code,r19.bad,r19.l))))
  else (
   bif ((decide (r18<low)) || (decide (high<r18))) then (
    (zbo_s (32:Int) at_).bind fun r20 =>
    some (.inr (.inl (r20.at_,r20.s,r20.code,r20.bad,r20.l))))
   else (
    gd (InI64 (i+(1:Int))) <|
    some (.inl ((128:Int),(191:Int),(i+(1:Int)))))))
 else (
  some (.inr (.inr ())))
def zbw_p0 (t:ByteArray) (at_ n low high i:Int):Option ((Int × ByteArray × Int × Int × (List Eng.Node)) ⊕ Unit) :=
 qBd (fun x:(Int × Int × Int)=>qCl t at_ n x.1 x.2.1 x.2.2) (low,high,i)
def zbw_s (t:ByteArray) (at_:Int):Option signetref3_Got :=
 gd (0≤at_∧at_<t.size) <|
 gd (InI64 (bAt t at_)) <|
 (zbk_s (bAt t at_)).bind fun r16 =>
 bif decide (r16.1<(0:Int)) then (
  (zbo_s (32:Int) at_).bind fun r17 =>
  some r17)
 else (
  (zbw_p0 t at_ r16.1 r16.2.1 r16.2.2 (1:Int)).bind fun o21=>(Sum.elim (fun (o21_0:Int × ByteArray × Int × Int × (List Eng.Node)) =>
   some (⟨o21_0.1,o21_0.2.2.2.2,o21_0.2.1,o21_0.2.2.1,o21_0.2.2.2.1⟩:signetref3_Got)) (fun (o21_1:Unit) =>
   gd (InI64 (at_+r16.1)) <|
   gd (InI64 ((at_+r16.1)+(1:Int))) <|
   gd (InI64 (at_+r16.1)) <|
   gd (InI64 ((at_+r16.1)+(1:Int))) <|
   gd (0≤at_∧at_≤((at_+r16.1)+(1:Int))∧((at_+r16.1)+(1:Int))≤t.size) <|
   some (⟨((at_+r16.1)+(1:Int)),[],(t.extract (Int.toNat at_) (Int.toNat ((at_+r16.1)+(1:Int)))),(0:Int),(0:Int)⟩:signetref3_Got))) o21)
def zbw_G:Nat→Option CQ:=tblQ [(160,zbk_w),(124,zbo_w),(123,zbl_w)]
theorem zbw_Gok:∀f C,zbw_G f=some C→qAe Tryd.prog f C:=qAg ⟨zbk_ok,zbo_ok,zbl_ok,trivial⟩
def zbw_d0:=(dQS (dCons (dSO 0 dS) (dCons (dSO 1 dZ) (dCons (dSO 4 (dH 0 0)) (dCons (dSO 5 dZ) (dCons (dSO 6 dZ) (dCons (dSO 7 dZ) (dCons (dSO 8 dZ) dNil))))))) (dCons (qAk 117 (dCons dZ (dCons dNS (dCons dS (dCons dZ (dCons dZ dNil)))))) dNil))
def zbw_l0:SubQ:=mkL zbw_d0 (fun x=>zbw_p0 x.1.1 x.1.2.1 x.1.2.2.2.1 x.1.2.2.2.2.1 x.1.2.2.2.2.2.1 x.1.2.2.2.2.2.2.1) fun x r R kn kx kr=>(Sum.elim (fun (r_0:Int × ByteArray × Int × Int × (List Eng.Node))=>kr ⟨[sL 4 (.hd 0 0)],[],[.cells 117 [.vI r_0.1,.own 1,.vS r_0.2.1,.vI r_0.2.2.1,.vI r_0.2.2.2.1],.row .node 36 r_0.2.2.2.2]⟩) (fun (r_1:Unit)=>kx 0 ⟨[sL 0 (.vS x.1.1),sL 1 (.vI x.1.2.1),sL 4 (.hd 0 0),sL 5 (.vI x.1.2.2.2.1)],[],[.cells 117 [.vI x.2.1.1,.val (.slice none 0 0),.vS x.2.1.2.2.1,.vI x.2.1.2.2.2.1,.vI x.2.1.2.2.2.2.1]]⟩)) r
def zbw_L:Nat→SubQ:=tblL [(0,zbw_l0)]
theorem zbw_sub0:SubOK zbw_L zbw_G 0 10 60 0 zbw_b0:=qAo (show zbw_L 0=zbw_l0 from by kernel_rfl) fun x R kn kx kr=>qAq (step:=fun y=>qCl x.1.1 x.1.2.1 x.1.2.2.2.1 y.1 y.2.1 y.2.2) (enc:=fun (y:Int × Int × Int)=>zbw_d0.e ((x.1.1,x.1.2.1,x.1.2.2.1,x.1.2.2.2.1,y.1,y.2.1,y.2.2,x.1.2.2.2.2.2.2.2),x.2)) (fun y=>by kernel_rfl) (fun y ki=>by simp only [qCl,-eq_self,qAb,qAd,obA,obS,slL,slR,qAc]; kernel_rfl) (x.1.2.2.2.2.1,x.1.2.2.2.2.2.1,x.1.2.2.2.2.2.2.1)
theorem zbw_subs:qAn zbw_L zbw_G 0 10 60 zbw_q:=qAi (show qAp zbw_L zbw_G 0 10 60 [(0,zbw_b0)] from ⟨zbw_sub0,trivial⟩)
def zbw_da:=(dCons (dVC (dCO dS)) (dCons (dVC (dCO dZ)) dNil))
def zbw_db:=(dNil:Dec Unit (List SB))
def zbw_c:CS:=mkC zbw_da zbw_db (fun x y=>zbw_s x.1 x.2.1) (fun x y r=>.c (.agg [.vI r.at_,.own 0,.vS r.s,.vI r.code,.vI r.bad])) fun x y r=>[.row .node 36 r.l]
theorem zbw_val:qAj Tryd.prog 135 zbw_c:=qAl zbw_chk 10 zbw_Gok 0 (fun x=>Nat.le_of_ble_eq_true rfl) (fun y=>rfl) zbw_subs fun x y=>by
 simp only [zbw_s,-eq_self,qAb,qAd,obA,obS,slL,slR,qAc]
 kernel_rfl
def zbw_w:CQ:=liftQ [] zbw_c
theorem zbw_ok:qAe Tryd.prog 135 zbw_w:=qBb zbw_val
def zbj_b0:IQ:=(.loop [0,1,5] (.seq (.seq (rg 9 [oM 6 t5,oM 7 t0,oP 8 (.len t7),oP 9 (.bi .lss t6 t8)]) (.cond t9 .skip (.cn [] (.exit 0)))) (.seq (.block 1 (.seq (rg 17 [oM 12 t0,oM 13 t5,oP 14 (.iaddr 1 t12 t13),oP 15 (.load none t14),oM 16 t1,oP 17 (.bi .eql t15 t16)]) (.cond t17 (.seq (rg 4 [oP 4 (.mv vT)]) (.cn [4] .ret)) .skip))) (rg 5 [oM 10 t5,oP 11 (.bi .add t10 (vI 1)),oM 5 t11]))))
def zbj_q:IQ:=(.seq (rg 4 [oP 4 (.mv vF)]) (.seq (.seq (rg 5 [oP 5 (.mv (vI 0))]) (.block 0 (.cn [0,1,5] (.sub 0 zbj_b0)))) (.seq (rg 4 [oP 4 (.mv vF)]) (.cn [4] .ret))))
theorem zbj_chk:chk Tryd.prog 96 []=some (zbj_q.erase,[.tmp 4],18):=by kernel_rfl
def qC0 (s:ByteArray) (i:Int) (l:List ByteArray):Option (Int ⊕ (Bool ⊕ Unit)) :=
 bif decide (i<(l.length:Int)) then (
  gd (0≤i∧i<l.length) <|
  gd ((Int.toNat i)<l.length) <|
  bif decide ((l.getD (Int.toNat i) (ET.dft .str))=s) then (
   some (.inr (.inl true)))
  else (
   gd (InI64 (i+(1:Int))) <|
   some (.inl (i+(1:Int)))))
 else (
  some (.inr (.inr ())))
def zbj_p0 (s:ByteArray) (i:Int) (l:List ByteArray):Option (Bool ⊕ Unit) :=
 qBd (fun x:Int=>qC0 s x l) i
def zbj_s (l:(List ByteArray)) (s:ByteArray):Option Bool :=
 (zbj_p0 s (0:Int) l).bind fun o1=>(Sum.elim (fun (o1_0:Bool) =>
  some o1_0) (fun (o1_1:Unit) =>
  some false)) o1
def zbj_G:Nat→Option CQ:=tblQ []
theorem zbj_Gok:∀f C,zbj_G f=some C→qAe Tryd.prog f C:=fun f C h=>by cases h
def zbj_d0:=(dQS (dCons (dSO 0 (dO 0)) (dCons (dSO 1 dS) (dCons (dSO 5 dZ) dNil))) (dCons (dView .str) dNil))
def zbj_l0:SubQ:=mkL zbj_d0 (fun x=>zbj_p0 x.1.2.1 x.1.2.2.1 x.2.1) fun x r R kn kx kr=>(Sum.elim (fun (r_0:Bool)=>kr ⟨[sL 4 (.vB r_0)],[],[.view .str x.2.1]⟩) (fun (r_1:Unit)=>kx 0 ⟨[],[],[.view .str x.2.1]⟩)) r
def zbj_L:Nat→SubQ:=tblL [(0,zbj_l0)]
theorem zbj_sub0:SubOK zbj_L zbj_G 1 6 18 0 zbj_b0:=qAo (show zbj_L 0=zbj_l0 from by kernel_rfl) fun x R kn kx kr=>qAq (step:=fun y=>qC0 x.1.2.1 y x.2.1) (enc:=fun (y:Int)=>zbj_d0.e ((x.1.1,x.1.2.1,y,x.1.2.2.2),x.2)) (fun y=>by kernel_rfl) (fun y ki=>by simp only [qC0,-eq_self,qAb,qAd,obA,obS,slL,slR,qAc]; kernel_rfl) x.1.2.2.1
theorem zbj_subs:qAn zbj_L zbj_G 1 6 18 zbj_q:=qAi (show qAp zbj_L zbj_G 1 6 18 [(0,zbj_b0)] from ⟨zbj_sub0,trivial⟩)
def zbj_da:=(dCons (dVC (dCO (dO 0))) (dCons (dVC (dCO dS)) dNil))
def zbj_db:=(dCons (dView .str) dNil)
def zbj_c:CS:=mkC zbj_da zbj_db (fun x y=>zbj_s y.1 x.2.1) (fun x y r=>.c (.o (.vB r))) fun x y r=>[.view .str y.1]
theorem zbj_val:qAj Tryd.prog 96 zbj_c:=qAl zbj_chk 6 zbj_Gok 1 (fun x=>Nat.le_of_ble_eq_true rfl) (fun y=>rfl) zbj_subs fun x y=>by
 simp only [zbj_s,-eq_self,qAb,qAd,obA,obS,slL,slR,qAc]
 kernel_rfl
def zbj_w:CQ:=prepQ [(0,none,some (.str,9))] (liftV [false] zbj_c)
theorem zbj_ok:qAe Tryd.prog 96 zbj_w:=prep_quiet zbj_val
def zbh_b0:IQ:=(.loop [0,1,5] (.seq (.seq (rg 14 [oM 11 t5,oM 12 t0,oP 13 (.len t12),oP 14 (.bi .lss t11 t13)]) (.cond t14 .skip (.cn [] (.exit 0)))) (.seq (.block 1 (.seq (.reg 25 (some [0,1,2,3,4,5,6,7,8]) [oM 17 t0,oM 18 t5,oP 19 (.iaddr 6 t17 t18),oP 20 (.load (some 6) t19),oM 21 t1,oM 22 t5,oP 23 (.iaddr 6 t21 t22),oP 24 (.load (some 6) t23),oP 25 (.ext (.aggEq true [.int .i64,.str,.str,.bool,.int .i64,.int .i64]) [t20,t24])]) (.cond t25 (.seq (rg 4 [oP 4 (.mv vF)]) (.cn [4] .ret)) .skip))) (rg 5 [oM 15 t5,oP 16 (.bi .add t15 (vI 1)),oM 5 t16]))))
def zbh_q:IQ:=(.seq (rg 4 [oP 4 (.mv vF)]) (.seq (.seq (rg 10 [oM 6 t0,oP 7 (.len t6),oM 8 t1,oP 9 (.len t8),oP 10 (.bi .neq t7 t9)]) (.cond t10 (.seq (rg 4 [oP 4 (.mv vF)]) (.cn [4] .ret)) .skip)) (.seq (.seq (rg 5 [oP 5 (.mv (vI 0))]) (.block 0 (.cn [0,1,5] (.sub 0 zbh_b0)))) (.seq (rg 4 [oP 4 (.mv vT)]) (.cn [4] .ret)))))
theorem zbh_chk:chk Tryd.prog 44 []=some (zbh_q.erase,[.tmp 4],26):=by kernel_rfl
def qD2 (i:Int) (a b:List Eng.Node):Option (Int ⊕ (Bool ⊕ Unit)) :=
 bif decide (i<(a.length:Int)) then (
  gd (0≤i∧i<a.length) <|
  gd ((Int.toNat i)<a.length) <|
  gd (0≤i∧i<b.length) <|
  gd ((Int.toNat i)<b.length) <|
  bif (!(decide (((a.getD (Int.toNat i) (ET.dft .node)).kind)=((b.getD (Int.toNat i) (ET.dft .node)).kind)) && (decide (((a.getD (Int.toNat i) (ET.dft .node)).key)=((b.getD (Int.toNat i) (ET.dft .node)).key)) && (decide (((a.getD (Int.toNat i) (ET.dft .node)).text)=((b.getD (Int.toNat i) (ET.dft .node)).text)) && ((((a.getD (Int.toNat i) (ET.dft .node)).whole) == ((b.getD (Int.toNat i) (ET.dft .node)).whole)) && (decide (((a.getD (Int.toNat i) (ET.dft .node)).int)=((b.getD (Int.toNat i) (ET.dft .node)).int)) && (decide (((a.getD (Int.toNat i) (ET.dft .node)).kids)=((b.getD (Int.toNat i) (ET.dft .node)).kids)) && true))))))) then (
   some (.inr (.inl false)))
  else (
   gd (InI64 (i+(1:Int))) <|
   some (.inl (i+(1:Int)))))
 else (
  some (.inr (.inr ())))
def zbh_p0 (i:Int) (a b:List Eng.Node):Option (Bool ⊕ Unit) :=
 qBd (fun x:Int=>qD2 x a b) i
def zbh_s (a b:(List Eng.Node)):Option Bool :=
 bif (!decide ((a.length:Int)=(b.length:Int))) then (
  some false)
 else (
  (zbh_p0 (0:Int) a b).bind fun o1=>(Sum.elim (fun (o1_0:Bool) =>
   some o1_0) (fun (o1_1:Unit) =>
   some true)) o1)
def zbh_G:Nat→Option CQ:=tblQ []
theorem zbh_Gok:∀f C,zbh_G f=some C→qAe Tryd.prog f C:=fun f C h=>by cases h
def zbh_d0:=(dQS (dCons (dSO 0 (dO 0)) (dCons (dSO 1 (dO 1)) (dCons (dSO 5 dZ) dNil))) (dCons (dView .node) (dCons (dView .node) dNil)))
def zbh_l0:SubQ:=mkL zbh_d0 (fun x=>zbh_p0 x.1.2.2.1 x.2.1 x.2.2.1) fun x r R kn kx kr=>(Sum.elim (fun (r_0:Bool)=>kr ⟨[sL 4 (.vB r_0)],[],[.view .node x.2.1,.view .node x.2.2.1]⟩) (fun (r_1:Unit)=>kx 0 ⟨[],[],[.view .node x.2.1,.view .node x.2.2.1]⟩)) r
def zbh_L:Nat→SubQ:=tblL [(0,zbh_l0)]
theorem zbh_sub0:SubOK zbh_L zbh_G 2 6 26 0 zbh_b0:=qAo (show zbh_L 0=zbh_l0 from by kernel_rfl) fun x R kn kx kr=>qAq (step:=fun y=>qD2 y x.2.1 x.2.2.1) (enc:=fun (y:Int)=>zbh_d0.e ((x.1.1,x.1.2.1,y,x.1.2.2.2),x.2)) (fun y=>by kernel_rfl) (fun y ki=>by simp only [qD2,-eq_self,qAb,qAd,obA,obS,slL,slR,qAc]; kernel_rfl) x.1.2.2.1
theorem zbh_subs:qAn zbh_L zbh_G 2 6 26 zbh_q:=qAi (show qAp zbh_L zbh_G 2 6 26 [(0,zbh_b0)] from ⟨zbh_sub0,trivial⟩)
def zbh_da:=(dCons (dVC (dCO (dO 0))) (dCons (dVC (dCO (dO 1))) dNil))
def zbh_db:=(dCons (dView .node) (dCons (dView .node) dNil))
def zbh_c:CS:=mkC zbh_da zbh_db (fun x y=>zbh_s y.1 y.2.1) (fun x y r=>.c (.o (.vB r))) fun x y r=>[.view .node y.1,.view .node y.2.1]
theorem zbh_val:qAj Tryd.prog 44 zbh_c:=qAl zbh_chk 6 zbh_Gok 2 (fun x=>Nat.le_of_ble_eq_true rfl) (fun y=>rfl) zbh_subs fun x y=>by
 simp only [zbh_s,-eq_self,qAb,qAd,obA,obS,slL,slR,qAc]
 kernel_rfl
def zbh_w:CQ:=prepQ [(0,none,some (.node,36)),(1,none,some (.node,36))] (liftV [false,false] zbh_c)
theorem zbh_ok:qAe Tryd.prog 44 zbh_w:=prep_quiet zbh_val
end
end Go.Proofs.YtdcoiccdbgcpaaaDoor
namespace Go.Proofs.YtdcoiccdbgcpaaaDoor
open Go.Eng
set_option linter.unusedVariables false
set_option linter.unusedSimpArgs false
structure OkN (n:Eng.Node):Prop where
 key:n.key.size≤3000000
 text:n.text.size≤3000000
 kids:InI64 n.kids
theorem bAt_byte (t:ByteArray) (i:Int) : -1≤bAt t i∧bAt t i≤255:=by
 unfold bAt
 split
 ·split
  ·rename_i b _
   have:=b.toNat_lt
   omega
  ·omega
 ·omega
theorem byteAt_some (t:ByteArray) (at_:Int) (h0:0≤at_):zbl_s t at_=some (if (t.size:Int)≤at_ then -1 else bAt t at_)∧(0≤(if (t.size:Int)≤at_ then -1 else bAt t at_)→at_<t.size):=by
 have:=bAt_byte t at_
 unfold zbl_s
 by_cases h:(t.size:Int)≤at_
 ·rw [deT h,cnT,if_pos h]
  exact ⟨rfl,fun h=>by omega⟩
 ·rw [deF h,cnF,if_neg h]
  refine ⟨(qAa (by omega) _).trans (qAa (by unfold InI64; omega) _),fun _=>by omega⟩
end Go.Proofs.YtdcoiccdbgcpaaaDoor
