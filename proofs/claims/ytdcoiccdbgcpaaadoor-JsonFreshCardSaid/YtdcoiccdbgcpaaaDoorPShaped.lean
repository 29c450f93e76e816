/-
  The document's shape of a list of nodes: it is always told, and where it is good the list is a tree. No program.
-/
import Derived.Test.YtdcoiccdbgcpaaaDoorEngO
import Derived.Test.YtdcoiccdbgcpaaaDoorGC
import Derived.Test.YtdcoiccdbgcpaaaDoorProg
import Derived.Test.YtdcoiccdbgcpaaaDoorEngH
namespace Go.Proofs.YtdcoiccdbgcpaaaDoor
open Go.Eng
set_option linter.unusedVariables false
set_option linter.unusedSimpArgs false
theorem dV_range (s:BA) (i:Nat):0≤dV s i∧dV s i<256:=by unfold dV; omega
structure DKey where
 ds:List Int
 pow:Int
def Dig (l:List Int):Prop:=∀d∈l,0≤d∧d≤9
def LastNZ:List Int→Prop
 | []=>True
 | [d]=>d≠0
 | _::l=>LastNZ l
structure Norm (a:DKey):Prop where
 dig:Dig a.ds
 last:LastNZ a.ds
 first:∀d,a.ds.head?=some d→d≠0
end Go.Proofs.YtdcoiccdbgcpaaaDoor
namespace Go.Proofs.YtdcoiccdbgcpaaaDoor
open Go.Eng
set_option linter.unusedVariables false
set_option linter.unusedSimpArgs false
end Go.Proofs.YtdcoiccdbgcpaaaDoor
namespace Go.Proofs.YtdcoiccdbgcpaaaDoor
open Go.Eng
set_option linter.unusedVariables false
set_option linter.unusedSimpArgs false
end Go.Proofs.YtdcoiccdbgcpaaaDoor
namespace Go.Proofs.YtdcoiccdbgcpaaaDoor
open Go.Eng
set_option linter.unusedVariables false
set_option linter.unusedSimpArgs false
def chr (d:Int):UInt8:=UInt8.ofNat ((48+d) % 256).toNat
def byteD (l:List Int):List UInt8:=l.map chr
def dotF (F:List Int):List UInt8:=if F=[] then [] else 46::byteD F
structure NumTxt (t:BA) (W F:List Int):Prop where
 txt:t.data.toList=byteD W++dotF F
 dw:Dig W
 df:Dig F
 ne:W≠[]
 head:W.head?≠some 0∨W.length=1
section
variable {t:BA} {W F:List Int} (h:NumTxt t W F)
include h
end
end Go.Proofs.YtdcoiccdbgcpaaaDoor
namespace Go.Proofs.YtdcoiccdbgcpaaaDoor
open Go.Eng
set_option linter.unusedVariables false
set_option linter.unusedSimpArgs false
theorem p_digit (s:BA) (k:Nat):qD2 s k=some (digS s k):=by
 unfold qD2;refine (qAa (fun h=>by have:=of_decide_eq_true h; omega) _).trans ?_;refine (qAa (fun h=>by have:=of_decide_eq_true (Bool.and_eq_true _ _ ▸ h).1; omega) _).trans ?_;congr 1
 unfold digS;by_cases hlt:(k:Int)<s.size
 ·simp [hlt]
 ·have:=qBy hlt;simp [hlt,this]
theorem p_many (s:BA) (hsz:s.size<4000000000000000000) (k:Nat) (hk:k≤s.size):qB3 s k=some (qC4 s k:Int):=by
 unfold qB3 qF8;rw [qDe (fun x:Int=>∃j:Nat,x=j∧j≤s.size∧qC4 s j=qC4 s k) (fun x=>s.size - x.toNat) (fun _=>(qC4 s k:Int)) ?_ (x:=(k:Int)) ⟨k,rfl,hk,rfl⟩]
 ·rfl
 rintro _ ⟨j,rfl,hj,hm⟩
 unfold qDl;rw [p_digit,obS];cases hd:digS s j with
 | true =>
  left;have hlt:=digS_lt hd;refine ⟨((j+1:Nat):Int),?_,⟨j+1,rfl,by omega,by rw [←hm,qEq hd]⟩,by omega,rfl⟩;refine (qAa (by unfold qAe; omega) _).trans ?_;rfl
 | false =>
  right;show some (Sum.inr (j:Int))=_;rw [←hm,qGh hd]
theorem dV_ne (s:BA) (i:Nat) (h:i<s.size):((!decide (bAt s i=48)):Bool)=decide (dV s i≠0):=by
 have h1:=qFk s i;have h2:=bAt_nn (s:=s) (i:=i) (by omega) (by omega);rw [←decide_not,decide_eq_decide];unfold dV;omega
theorem bias_or (a:Prop) [Decidable a] (n:Nat):(decide a || decide ((0:Int)<(n:Int)))=decide (a∨0<n):=by
 rw [Bool.eq_iff_iff];simp
section
variable (s:BA) (hsz:s.size<1000000000)
include hsz
theorem p_ref3 (a k:Nat) (hak:a≤k) (hk:k≤s.size):qDq s k a []=some (lead (qB2 s a (k - a))):=by
 unfold qDq;rw [qDe (fun x:Int × List Int=>∃j:Nat,x=(((a+j:Nat):Int),lead (qB2 s a j))∧a+j≤k) (fun x=>k - x.1.toNat) (fun _=>lead (qB2 s a (k - a))) ?_ (x:=((a:Int),[])) ⟨0,rfl,by omega⟩];rintro _ ⟨j,rfl,hj⟩
 unfold qDr;have hl:=lead_le (qB2 s a j);rw [dsFrom_length] at hl;by_cases hlt:a+j<k
 ·left;have hs:=lead_snoc (qB2 s a j) (dV s (a+j));rw [←dsFrom_succ] at hs;have hr:=dV_range s (a+j);refine ⟨(((a+(j+1):Nat):Int),lead (qB2 s a (j+1))),?_,⟨j+1,rfl,by omega⟩,by simp only; omega,rfl⟩;simp only;rw [deT (by omega),cnT];refine (qAa (by omega) _).trans ?_;rw [dV_ne s (a+j) (by omega),bias_or,hs];by_cases hc:dV s (a+j)≠0∨0<(lead (qB2 s a j)).length
  ·rw [deT hc,cnT,if_pos hc];refine (qAa (by omega) _).trans ?_;refine (qAa (by unfold qAe; have:=hr; unfold dV at this; omega) _).trans ?_;refine (qAa (by simp only [List.length_singleton]; omega) _).trans ?_;refine (qAa (by unfold qAe; omega) _).trans ?_;rfl
  ·rw [deF hc,cnF,if_neg hc];refine (qAa (by unfold qAe; omega) _).trans ?_;have:lead (qB2 s a j)=[]:=by
    apply List.eq_nil_of_length_eq_zero;omega
   rw [this];rfl
 ·right;simp only;rw [deF (by omega),cnF,show k - a=j by omega]
theorem p_ref2 (a:Nat) (ha:a≤s.size):qCc s a=some (if decide (qC4 s a=a)=true then .inl (false,[],[]) else .inr ((qC4 s a:Int),lead (qB2 s a (qC4 s a - a)))):=by
 unfold qCc;rw [p_many s (by omega) a ha,obS];have:decide ((qC4 s a:Int)=(a:Int))=decide (qC4 s a=a):=by rw [decide_eq_decide]; omega
 rw [this];cases hd:decide (qC4 s a=a) with
 | true=>rfl
 | false =>
  simp only [cnF];rw [p_ref3 s hsz a (qC4 s a) (manyS_ge s a) (manyS_le s a ha)];rfl
end
theorem p_ref5 (t:BA) (ht:t.size<4000000000) (o:Int) (ho : -4000000000≤o∧o≤4000000000):qD1 t 0 o []=some (o - ((t.size:Int) - (lead (qB2 t 0 t.size)).length),lead (qB2 t 0 t.size)):=by
 unfold qD1;rw [qDe (fun x:Int × Int × List Int=>∃j:Nat,x=((j:Int),o - ((j:Int) - (lead (qB2 t 0 j)).length),lead (qB2 t 0 j))∧j≤t.size) (fun x=>t.size - x.1.toNat) (fun _=>(o - ((t.size:Int) - (lead (qB2 t 0 t.size)).length),lead (qB2 t 0 t.size))) ?_ (x:=((0:Int),o,[])) ⟨0,by simp [qB2,lead],by omega⟩];rintro _ ⟨j,rfl,hj⟩
 unfold qDw;have hl:=lead_le (qB2 t 0 j);rw [dsFrom_length] at hl;by_cases hlt:j<t.size
 ·left;have hs:=lead_snoc (qB2 t 0 j) (dV t (0+j));rw [←dsFrom_succ] at hs;rw [Nat.zero_add] at hs;have hr:=dV_range t j;refine ⟨(((j+1:Nat):Int),o - (((j+1:Nat):Int) - (lead (qB2 t 0 (j+1))).length),lead (qB2 t 0 (j+1))),?_,⟨j+1,rfl,by omega⟩,by simp only; omega,rfl⟩;simp only;rw [deT (by omega),cnT];refine (qAa (by omega) _).trans ?_;refine (qAa (by unfold qAe; have:=hr; unfold dV at this; omega) _).trans ?_;have e:(!decide ((bAt t (j:Int) - 48) % 256=0))=decide (dV t j≠0):=by rw [←decide_not]; rfl
  rw [e,bias_or,hs];by_cases hc:dV t j≠0∨0<(lead (qB2 t 0 j)).length
  ·rw [deT hc,cnT,if_pos hc];refine (qAa (by simp only [List.length_singleton]; omega) _).trans ?_;refine (qAa (by unfold qAe; omega) _).trans ?_;congr 3
   rw [List.length_append,List.length_singleton];congr 1
   omega
  ·rw [deF hc,cnF,if_neg hc];have:lead (qB2 t 0 j)=[]:=by
    apply List.eq_nil_of_length_eq_zero;omega
   rw [this];refine (qAa (by unfold qAe; simp only [List.length_nil]; omega) _).trans ?_;refine (qAa (by unfold qAe; omega) _).trans ?_;congr 3
   simp only [List.length_nil];congr 1
   omega
 ·right;simp only;rw [deF (by omega),cnF,show t.size=j by omega]
theorem p_ref6 (l0:List Int) (hl:l0.length<4000000000):qDz l0=some (trail l0):=by
 unfold qDz;rw [qDe (fun l:List Int=>l.length≤l0.length∧trail l=trail l0) (fun l=>l.length) (fun _=>trail l0) ?_ (x:=l0) ⟨by omega,rfl⟩];rintro l ⟨hle,ht⟩
 unfold qDx;rcases List.eq_nil_or_concat l with rfl | ⟨m,d,rfl⟩
 ·right;refine (qAa (fun h=>by simp at h) _).trans ?_;refine (qAa (fun h=>by simp at h) _).trans ?_;refine (qAa (fun h=>by simp at h) _).trans ?_;rw [←ht];rfl
 ·rw [List.concat_eq_append] at hle ht ⊢;have hz:(m++[d]).length=m.length+1:=by simp
  rw [hz] at hle;have hN:Int.toNat (((m++[d]).length:Int) - 1)=m.length:=by rw [hz]; omega
  have hg:(m++[d]).getD m.length (ET.dft .i64)=d:=by simp
  rw [hN,hg,hz];rw [deT (show (0:Int)<((m.length+1:Nat):Int) by omega)];by_cases hd:d=0
  ·left;subst hd;refine ⟨m,?_,⟨by omega,by rw [←ht,trail_snoc_zero]⟩,by omega,rfl⟩;refine (qAa (fun _=>by unfold qAe; omega) _).trans ?_;refine (qAa (fun _=>by omega) _).trans ?_;refine (qAa (fun _=>by omega) _).trans ?_;simp only [decide_true,Bool.and_true,cnT];refine (qAa (by unfold qAe; omega) _).trans ?_;refine (qAa (by omega) _).trans ?_;simp
  ·right;refine (qAa (fun _=>by unfold qAe; omega) _).trans ?_;refine (qAa (fun _=>by omega) _).trans ?_;refine (qAa (fun _=>by omega) _).trans ?_;rw [deF hd];simp only [Bool.and_false,cnF];rw [←ht,trail_snoc m d hd]
def rnum (r:RNum):qHp:=⟨r.minus,r.digits,r.off,r.down,r.exp,r.plain,r.text⟩
section
variable (s:BA) (hsz:s.size<1000000000)
include hsz
theorem allS_size:(allS s).size≤s.size+s.size:=by
 unfold allS;split <;> simp <;> omega
theorem p_ref4 (a:Nat) (o:Int) (ho : -4000000000≤o∧o≤4000000000):qBi s a (allS s) o=some (if decide (a=s.size)=true then (true,o - (((allS s).size:Int) - (lead (qB2 (allS s) 0 (allS s).size)).length),(qD3 s).digits) else (false,o,[])):=by
 have hz:=allS_size s hsz;have hl:=lead_le (qB2 (allS s) 0 (allS s).size);rw [dsFrom_length] at hl;unfold qBi;have:(!decide ((a:Int)=(s.size:Int)))=!decide (a=s.size):=by congr 1; rw [decide_eq_decide]; omega
 rw [this];cases hd:decide (a=s.size) with
 | false=>rfl
 | true =>
  simp only [Bool.not_true,cnF,if_true];rw [p_ref5 (allS s) (by omega) o ho,obS];simp only;rw [p_ref6 _ (by omega),obS];rfl
theorem p_ref1 (hbd:badA s=false) (hdk:(dotS s && decide (atK s=atB s+1))=false):qA9 s (atC s) (allS s) ((atB s:Int) - atA s) false (!dotS s)=some (qBr s,(qA8 s).off,(qA8 s).down,(qA8 s).plain,(qA8 s).digits,(qA8 s).exp):=by
 have hC:=atC_le s;have hA:=atA_le s;have hB:=atB_le s;have hAB:=atA_le_atB s;have hro:qBr s=(!(expS s && decide (atF s=atE s)) && decide (atG s=s.size)):=by
  unfold qBr;rw [hbd,hdk];rfl
 have hexp:(decide ((atC s:Int)<(s.size:Int)) && (decide (bAt s (atC s)=101) || decide (bAt s (atC s)=69)))=expS s:=by
  unfold expS;by_cases h:atC s<s.size
  ·simp [h]
  ·have:bAt s (atC s) = -1:=qBy (by omega);simp [this]
 unfold qA9;refine (qAa (fun h=>by have:=of_decide_eq_true h; omega) _).trans ?_;refine (qAa (fun _ h=>by have:=of_decide_eq_true h; omega) _).trans ?_;rw [hexp];cases he:expS s with
 | false =>
  have hG:atG s=atC s:=by simp [atG,he]
  have h3:(expS s && decide (atF s=atE s))=false:=by simp [he]
  simp only [cnF];rw [p_ref4 s hsz (atC s) _ (by omega),obS,hro,h3,hG];cases hd:decide (atC s=s.size) with
  | false =>
   rw [readAll_4 hbd hdk h3 (by rw [hG]; exact hd)];simp [qD3,he]
  | true =>
   have:qBr s=true:=by rw [hro,h3,hG,hd]; rfl
   rw [readAll_ok this];simp [qD3,he]
 | true =>
  have hCl:=atC_lt he;have hEl:=atE_le he;have hF:=atF_le he;have hsg:(decide ((atC s:Int)+1<(s.size:Int)) && (decide (bAt s ((atC s:Int)+1)=43) || decide (bAt s ((atC s:Int)+1)=45)))=sgnS s:=by
   unfold sgnS;by_cases h:(atC s:Int)+1<s.size
   ·simp [h]
   ·have:bAt s ((atC s:Int)+1) = -1:=qBy h;simp [this]
  have hG:atG s=atF s:=by simp [atG,he]
  have common:∀(dn:Bool),dn=decide (bAt s ((atC s:Int)+1)=45)→((qCc s (atE s)).bind fun o83=>(Sum.elim (fun (o83_0:Bool × (List Int) × (List Int)) =>
    some (o83_0.1,((atB s:Int) - atA s),dn,false,o83_0.2.1,o83_0.2.2)) (fun (o83_1:Int × (List Int)) =>
    (qBi s o83_1.1 (allS s) ((atB s:Int) - atA s)).bind fun o86 =>
    some (o86.1,o86.2.1,dn,false,o86.2.2,o83_1.2))) o83)=some (qBr s,(qA8 s).off,(qA8 s).down,(qA8 s).plain,(qA8 s).digits,(qA8 s).exp):=by
   intro dn hdn;subst hdn;rw [p_ref2 s hsz (atE s) hEl,obS];show (Sum.elim _ _ (if decide (atF s=atE s)=true then _ else _))=_;cases hd:decide (atF s=atE s) with
   | true =>
    have h3:(expS s && decide (atF s=atE s))=true:=by rw [he,hd]; rfl
    rw [readAll_3 hbd hdk h3,hro,h3];simp [qD3,he]
   | false =>
    have h3:(expS s && decide (atF s=atE s))=false:=by rw [he,hd]; rfl
    simp only [Bool.false_eq_true,if_false,Sum.elim_inr];show ((qBi s (atF s:Int) _ _).bind _)=_;rw [p_ref4 s hsz (atF s) _ (by omega),obS,hro,h3,hG];cases hq:decide (atF s=s.size) with
    | false =>
     rw [readAll_4 hbd hdk h3 (by rw [hG]; exact hq)];simp [qD3,he,atF]
    | true =>
     have:qBr s=true:=by rw [hro,h3,hG,hq]; rfl
     rw [readAll_ok this];simp [qD3,he,atF]
  simp only [cnT];refine (qAa (by unfold qAe; omega) _).trans ?_;refine (qAa (fun h=>by have:=of_decide_eq_true h; omega) _).trans ?_;refine (qAa (fun _ h=>by have:=of_decide_eq_true h; omega) _).trans ?_;rw [hsg];cases hs:sgnS s with
  | true =>
   have hsl:=sgn_lt hs;have hE:(atC s:Int)+1+1=(atE s:Int):=by simp [atE,hs]; omega
   simp only [cnT];refine (qAa (by omega) _).trans ?_;refine (qAa (by unfold qAe; omega) _).trans ?_;rw [hE];exact common _ rfl
  | false =>
   have hnd:¬bAt s ((atC s:Int)+1)=45:=fun e=>by simp [sgnS,e] at hs
   have hE:(atC s:Int)+1=(atE s:Int):=by simp [atE,hs]
   simp only [cnF];have:=common false (by simp [hnd]);rw [←hE] at this;exact this
theorem p_ref0:qBt s (atA s) 0 false true (⟨#[]⟩:BA)=some (qBr s,(qA8 s).off,(qA8 s).down,(qA8 s).plain,(qA8 s).text,(qA8 s).digits,(qA8 s).exp):=by
 have hC:=atC_le s;have hA:=atA_le s;have hB:=atB_le s;have hAB:=atA_le_atB s;unfold qBt;rw [p_many s (by omega) (atA s) hA,obS];show gd (decide ((atB s:Int)=(atA s:Int))=false→_) _=_;have e1:decide ((atB s:Int)=(atA s:Int))=decide (atB s=atA s):=by rw [decide_eq_decide]; omega
 have e2:decide ((atA s:Int)+1<(atB s:Int))=decide (atA s+1<atB s):=by rw [decide_eq_decide]; omega
 have hbad:(decide (atB s=atA s) || decide (bAt s (atA s)=48) && decide (atA s+1<atB s))=badA s:=rfl
 refine (qAa (fun h=>by have:=of_decide_eq_false h; omega) _).trans ?_;refine (qAa (fun _ _=>by unfold qAe; omega) _).trans ?_;show (bif (decide ((atB s:Int)=(atA s:Int)) || decide (bAt s (atA s)=48) && decide ((atA s:Int)+1<(atB s:Int))) then _ else _)=_
 rw [e1,e2,hbad];cases hbd:badA s with
 | true =>
  have hro:qBr s=false:=by simp [qBr,hbd]
  rw [readAll_1 hbd,hro];rfl
 | false =>
  simp only [cnF];show gd ((0:Int)≤(atA s:Int)∧(atA s:Int)≤(atB s:Int)∧(atB s:Int)≤(s.size:Int)) _=_;refine (qAa (by omega) _).trans ?_;refine (qAa (by show (0:Int)≤(atA s:Int)∧(atA s:Int)≤(atB s:Int)∧(atB s:Int)≤(s.size:Int); omega) _).trans ?_;refine (qAa (by show qAe ((atB s:Int) - atA s); unfold qAe; omega) _).trans ?_;refine (qAa (fun h=>by have:=of_decide_eq_true h; show (0:Int)≤(atB s:Int)∧(atB s:Int)<(s.size:Int); exact ⟨by omega,this⟩) _).trans ?_;show (bif decide ((atB s:Int)<(s.size:Int)) && decide (bAt s (atB s)=46) then _ else _)=_;have hdot:(decide ((atB s:Int)<(s.size:Int)) && decide (bAt s (atB s)=46))=dotS s:=by
   unfold dotS;by_cases h:atB s<s.size
   ·simp [h]
   ·have:bAt s (atB s) = -1:=qBy (by omega);simp [this]
  rw [hdot];cases hd:dotS s with
  | false =>
   have hc:atC s=atB s:=by simp [atC,hd]
   have ha:allS s=s.extract (atA s) (atB s):=by simp [allS,hd]
   have hdk:(dotS s && decide (atK s=atB s+1))=false:=by rw [hd]; rfl
   have h1:=p_ref1 s hsz hbd hdk;rw [hc,ha,hd] at h1;simp only [cnF];show ((qA9 s (atB s:Int) (s.extract (Int.toNat (atA s:Int)) (Int.toNat (atB s:Int))) ((atB s:Int) - atA s) false true).bind _)=_;rw [Int.toNat_natCast,Int.toNat_natCast];have h1':qA9 s (atB s:Int) (s.extract (atA s) (atB s)) ((atB s:Int) - atA s) false true=_:=h1;rw [h1',obS];have ht:(qA8 s).text=s.extract (atA s) (atB s):=by
    unfold qA8;rw [hbd,hdk];simp only [Bool.false_eq_true,if_false];split
    ·rfl
    ·split <;> rfl
   rw [ht];rfl
  | true =>
   have hBl:=atB_lt hd;have hKl:=atK_le hd;have hKg:=atK_ge s;have hc:atC s=atK s:=by simp [atC,hd]
   have ha:allS s=s.extract (atA s) (atB s)++s.extract (atB s+1) (atK s):=by simp [allS,hd]
   simp only [cnT];show gd (qAe ((atB s:Int)+1)) _=_;refine (qAa (by unfold qAe; omega) _).trans ?_;show ((qB3 s ((atB s+1:Nat):Int)).bind _)=_;rw [p_many s (by omega) (atB s+1) (by omega),obS];refine (qAa (by show qAe ((atB s:Int)+1); unfold qAe; omega) _).trans ?_;show (bif decide ((atK s:Int)=(atB s:Int)+1) then _ else _)=_;have e3:decide ((atK s:Int)=(atB s:Int)+1)=decide (atK s=atB s+1):=by rw [decide_eq_decide]; omega
   rw [e3];cases hk:decide (atK s=atB s+1) with
   | true =>
    have hdk:(dotS s && decide (atK s=atB s+1))=true:=by rw [hd,hk]; rfl
    have hro:qBr s=false:=by simp only [qBr,hbd,hdk,Bool.not_true,Bool.not_false,Bool.and_false,Bool.false_and]
    rw [readAll_2 hbd hdk,hro];rfl
   | false =>
    have hdk:(dotS s && decide (atK s=atB s+1))=false:=by rw [hd,hk]; rfl
    have h1:=p_ref1 s hsz hbd hdk;rw [hc,ha,hd] at h1;simp only [cnF];refine (qAa (by show qAe ((atB s:Int)+1); unfold qAe; omega) _).trans ?_;refine (qAa (by show (0:Int)≤(atB s:Int)+1∧(atB s:Int)+1≤(atK s:Int)∧(atK s:Int)≤(s.size:Int); omega) _).trans ?_;have hx:(s.extract (atA s) (atB s)).size≤s.size:=by rw [ByteArray.size_extract]; omega
    have hy:(s.extract (atB s+1) (atK s)).size≤s.size:=by rw [ByteArray.size_extract]; omega
    show gd ((s.extract (Int.toNat (atA s:Int)) (Int.toNat (atB s:Int))).size+(s.extract (Int.toNat ((atB s+1:Nat):Int)) (Int.toNat (atK s:Int))).size≤9223372036854775807) ((qA9 s (atK s:Int) (s.extract (Int.toNat (atA s:Int)) (Int.toNat (atB s:Int))++s.extract (Int.toNat ((atB s+1:Nat):Int)) (Int.toNat (atK s:Int))) ((atB s:Int) - atA s) false false).bind _)=_;rw [Int.toNat_natCast,Int.toNat_natCast,Int.toNat_natCast,Int.toNat_natCast];refine (qAa (by omega) _).trans ?_;have h1':qA9 s (atK s:Int) (s.extract (atA s) (atB s)++s.extract (atB s+1) (atK s)) ((atB s:Int) - atA s) false false=_:=h1;rw [h1',obS];have ht:(qA8 s).text=s.extract (atA s) (atB s):=by
     unfold qA8;rw [hbd,hdk];simp only [Bool.false_eq_true,if_false];split
     ·rfl
     ·split <;> rfl
    rw [ht];rfl
theorem p_Read:qC3 s=some (rnum (qA8 s),qBr s):=by
 have hm:(qA8 s).minus=decide (bAt s 0=45):=by
  unfold qA8;split
  ·rfl
  ·split
   ·rfl
   ·split
    ·rfl
    ·split <;> rfl
 have h0:=p_ref0 s hsz;unfold qC3;refine (qAa (fun h=>by have:=of_decide_eq_true h; omega) _).trans ?_;have e:(decide ((0:Int)<(s.size:Int)) && decide (bAt s 0=45))=decide (bAt s 0=45):=by
  by_cases h:0<s.size
  ·simp [h]
  ·have:bAt s 0 = -1:=qBy (by omega);simp [this]
 rw [e];by_cases h:bAt s 0=45
 ·have ha:atA s=1:=by simp [atA,h]
  rw [ha] at h0;rw [deT h,cnT];refine (qAa (by unfold qAe; omega) _).trans ?_;have h0':qBt s ((0:Int)+1) 0 false true (⟨#[]⟩:BA)=_:=h0;rw [h0',obS];unfold rnum;rw [hm,deT h]
 ·have ha:atA s=0:=by simp [atA,h]
  rw [ha] at h0;rw [deF h,cnF];have h0':qBt s (0:Int) 0 false true (⟨#[]⟩:BA)=_:=h0;rw [h0',obS];unfold rnum;rw [hm,deF h]
end
end Go.Proofs.YtdcoiccdbgcpaaaDoor
namespace Go.Proofs.YtdcoiccdbgcpaaaDoor
open Go.Eng
set_option linter.unusedVariables false
set_option linter.unusedSimpArgs false
set_option maxRecDepth 100000
noncomputable section
structure qHo where
 at_:Int
 l:(List Eng.Node)
 s:BA
 code:Int
 bad:Int
def qFs (c:Int):Option (Int × Int × Int) :=
 bif ((decide (c<(194:Int))) || (decide ((244:Int)<c))) then (
  some ((-1:Int),(0:Int),(0:Int)))
 else (
  bif decide (c<(224:Int)) then (
   some ((1:Int),(128:Int),(191:Int)))
  else (
   bif decide (c=(224:Int)) then (
    some ((2:Int),(160:Int),(191:Int)))
   else (
    bif decide (c=(237:Int)) then (
     some ((2:Int),(128:Int),(159:Int)))
    else (
     bif decide (c<(240:Int)) then (
      some ((2:Int),(128:Int),(191:Int)))
     else (
      bif decide (c=(240:Int)) then (
       some ((3:Int),(144:Int),(191:Int)))
      else (
       bif decide (c=(244:Int)) then (
        some ((3:Int),(128:Int),(143:Int)))
       else (
        some ((3:Int),(128:Int),(191:Int)))))))))
def qDu (e at_:Int):Option qHo :=
 some (⟨(0:Int),[],(⟨#[]⟩:BA),e,at_⟩:qHo)
def qDd (t:BA) (at_:Int):Option Int :=
 bif decide ((t.size:Int)≤at_) then (
  some (-1:Int))
 else (
  gd (0≤at_∧at_<t.size) <|
  gd (qAe (bAt t at_)) <|
  some (bAt t at_))
def qA5 (t:BA) (at_ n low high i:Int):Option ((Int × Int × Int) ⊕ ((Int × BA × Int × Int × (List Eng.Node)) ⊕ Unit)) :=
 bif decide (i≤n) then (
  gd (qAe (at_+i)) <|
  (qDd t (at_+i)).bind fun r18 =>
  bif decide (r18<(0:Int)) then (
   (qDu (31:Int) (t.size:Int)).bind fun r19 =>
   some (.inr (.inl (r19.at_,r19.s,r19.code,r19.bad,r19.l))))
  else (
   bif ((decide (r18<low)) || (decide (high<r18))) then (
    (qDu (32:Int) at_).bind fun r20 =>
    some (.inr (.inl (r20.at_,r20.s,r20.code,r20.bad,r20.l))))
   else (
    gd (qAe (i+(1:Int))) <|
    some (.inl ((128:Int),(191:Int),(i+(1:Int)))))))
 else (
  some (.inr (.inr ())))
def qBb (t:BA) (at_ n low high i:Int):Option ((Int × BA × Int × Int × (List Eng.Node)) ⊕ Unit) :=
 qA2 (fun x:(Int × Int × Int)=>qA5 t at_ n x.1 x.2.1 x.2.2) (low,high,i)
def qCy (t:BA) (at_:Int):Option qHo :=
 gd (0≤at_∧at_<t.size) <|
 gd (qAe (bAt t at_)) <|
 (qFs (bAt t at_)).bind fun r16 =>
 bif decide (r16.1<(0:Int)) then (
  (qDu (32:Int) at_).bind fun r17 =>
  some r17)
 else (
  (qBb t at_ r16.1 r16.2.1 r16.2.2 (1:Int)).bind fun o21=>(Sum.elim (fun (o21_0:Int × BA × Int × Int × (List Eng.Node)) =>
   some (⟨o21_0.1,o21_0.2.2.2.2,o21_0.2.1,o21_0.2.2.1,o21_0.2.2.2.1⟩:qHo)) (fun (o21_1:Unit) =>
   gd (qAe (at_+r16.1)) <|
   gd (qAe ((at_+r16.1)+(1:Int))) <|
   gd (qAe (at_+r16.1)) <|
   gd (qAe ((at_+r16.1)+(1:Int))) <|
   gd (0≤at_∧at_≤((at_+r16.1)+(1:Int))∧((at_+r16.1)+(1:Int))≤t.size) <|
   some (⟨((at_+r16.1)+(1:Int)),[],(t.extract (Int.toNat at_) (Int.toNat ((at_+r16.1)+(1:Int)))),(0:Int),(0:Int)⟩:qHo))) o21)
def qBc (s:BA) (at_:Int):Option (Int ⊕ (Bool ⊕ Unit)) :=
 bif decide (at_<(s.size:Int)) then (
  gd (0≤at_∧at_<s.size) <|
  bif decide ((bAt s at_)<(128:Int)) then (
   gd (qAe (at_+(1:Int))) <|
   some (.inl (at_+(1:Int))))
  else (
   (qCy s at_).bind fun r1 =>
   bif (!decide (r1.code=(0:Int))) then (
    some (.inr (.inl false)))
   else (
    some (.inl r1.at_))))
 else (
  some (.inr (.inr ())))
def qBn (s:BA) (at_:Int):Option (Bool ⊕ Unit) :=
 qA2 (fun x:Int=>qBc s x) at_
def qE3 (s:BA):Option Bool :=
 (qBn s (0:Int)).bind fun o2=>(Sum.elim (fun (o2_0:Bool) =>
  some o2_0) (fun (o2_1:Unit) =>
  some true)) o2
def qD0 (n:Eng.Node):Option Bool :=
 bif ((((decide (n.kind<(1:Int))) || (decide ((7:Int)<n.kind))) || (decide (n.kids<(0:Int)))) || ((decide ((0:Int)<n.kids)) && (decide (n.kind<(6:Int))))) then (
  some false)
 else (
  (qCd n.text).bind fun r1 =>
  (qDt n.text).bind fun r2 =>
  (qE3 n.text).bind fun r3 =>
  bif decide (n.kind=(4:Int)) then (
   some ((r2 && (r1.2 == n.whole)) && (decide (r1.1=n.int))))
  else (
   bif (n.whole || (!decide (n.int=(0:Int)))) then (
    some false)
   else (
    bif decide (n.kind=(5:Int)) then (
     some r3)
    else (
     some (decide (n.text=(⟨#[]⟩:BA)))))))
def qCf (self:(List Eng.Node)→Int→Option Int) (at_ next i:Int) (v:List Eng.Node):Option ((Int × Int) ⊕ Int) :=
 gd (0≤at_∧at_<v.length) <|
 gd ((Int.toNat at_)<v.length) <|
 gd ((Int.toNat at_)<v.length) <|
 bif ((decide (i<((v.getD (Int.toNat at_) (ET.dft .node)).kids))) && (decide ((0:Int)≤next))) then (
  (self v next).bind fun r3 =>
  gd (qAe (i+(1:Int))) <|
  some (.inl (r3,(i+(1:Int)))))
 else (
  some (.inr next))
def qCj (self:(List Eng.Node)→Int→Option Int) (at_ next i:Int) (v:List Eng.Node):Option Int :=
 qA2 (fun x:(Int × Int)=>qCf self at_ x.1 x.2 v) (next,i)
def qDg (self:(List Eng.Node)→Int→Option Int) (v:(List Eng.Node)) (at_:Int):Option Int :=
 bif ((decide (at_<(0:Int))) || (decide ((v.length:Int)≤at_))) then (
  some (-1:Int))
 else (
  gd (qAe (at_+(1:Int))) <|
  (qCj self at_ (at_+(1:Int)) (0:Int) v).bind fun o4 =>
  some o4)
def qB4:Nat→(List Eng.Node)→Int→Option Int
 | 0=>fun _ _=>none
 | n+1=>qDg (qB4 n)
def qFy (v:(List Eng.Node)) (at_:Int):Option Int:=evt fun n=>qB4 n v at_
def qCp (at_ next i:Int) (v:List Eng.Node) (out:List Int):Option ((Int × Int × (List Int)) ⊕ ((List Int))) :=
 gd (0≤at_∧at_<v.length) <|
 gd ((Int.toNat at_)<v.length) <|
 gd ((Int.toNat at_)<v.length) <|
 bif (((decide (i<((v.getD (Int.toNat at_) (ET.dft .node)).kids))) && (decide ((0:Int)≤next))) && (decide (next<(v.length:Int)))) then (
  gd (out.length+([next]:List Int).length≤9223372036854775807∧(out.length+([next]:List Int).length)*8≤140737488355328) <|
  (qFy v next).bind fun r5 =>
  gd (qAe (i+(1:Int))) <|
  some (.inl (r5,(i+(1:Int)),(out++[next]))))
 else (
  some (.inr out))
def qCt (at_ next i:Int) (v:List Eng.Node) (out:List Int):Option ((List Int)) :=
 qA2 (fun x:(Int × Int × (List Int))=>qCp at_ x.1 x.2.1 v x.2.2) (next,i,out)
def qD8 (v:(List Eng.Node)) (at_:Int):Option ((List Int)) :=
 bif ((decide (at_<(0:Int))) || (decide ((v.length:Int)≤at_))) then (
  some [])
 else (
  gd (qAe (at_+(1:Int))) <|
  (qCt at_ (at_+(1:Int)) (0:Int) v []).bind fun o6 =>
  some o6)
def qBp (key:BA) (i:Int) (v:List Eng.Node) (l:List Int):Option (Int ⊕ (Int ⊕ Unit)) :=
 bif decide (i<(l.length:Int)) then (
  gd (0≤i∧i<l.length) <|
  gd ((Int.toNat i)<l.length) <|
  gd (0≤(l.getD (Int.toNat i) (ET.dft .i64))∧(l.getD (Int.toNat i) (ET.dft .i64))<v.length) <|
  gd ((Int.toNat (l.getD (Int.toNat i) (ET.dft .i64)))<v.length) <|
  gd ((Int.toNat (l.getD (Int.toNat i) (ET.dft .i64)))<v.length) <|
  bif decide (((v.getD (Int.toNat (l.getD (Int.toNat i) (ET.dft .i64))) (ET.dft .node)).key)=key) then (
   gd (0≤i∧i<l.length) <|
   gd ((Int.toNat i)<l.length) <|
   some (.inr (.inl (l.getD (Int.toNat i) (ET.dft .i64)))))
  else (
   gd (qAe (i+(1:Int))) <|
   some (.inl (i+(1:Int)))))
 else (
  some (.inr (.inr ())))
def qBw (key:BA) (i:Int) (v:List Eng.Node) (l:List Int):Option (Int ⊕ Unit) :=
 qA2 (fun x:Int=>qBp key x v l) i
def qFg (v:(List Eng.Node)) (at_:Int) (key:BA):Option Int :=
 gd (((decide (at_<(0:Int))) || (decide ((v.length:Int)≤at_)))=false→0≤at_∧at_<v.length) <|
 gd (((decide (at_<(0:Int))) || (decide ((v.length:Int)≤at_)))=false→(Int.toNat at_)<v.length) <|
 gd (((decide (at_<(0:Int))) || (decide ((v.length:Int)≤at_)))=false→(Int.toNat at_)<v.length) <|
 bif (((decide (at_<(0:Int))) || (decide ((v.length:Int)≤at_))) || (!decide (((v.getD (Int.toNat at_) (ET.dft .node)).kind)=(7:Int)))) then (
  some (-1:Int))
 else (
  (qD8 v at_).bind fun r2 =>
  (qBw key (0:Int) v r2).bind fun o3=>(Sum.elim (fun (o3_0:Int) =>
   some o3_0) (fun (o3_1:Unit) =>
   some (-1:Int))) o3)
def zah_b0:IQ:=(.loop [0,1,5] (.seq (.seq (rg 21 [oM 14 t5,oP 15 (.bi .gtr t14 (vI 0)),oM 16 t15,oF 17 (.mv t1) 16,oF 18 (.mv t0) 16,oF 19 (.len t18) 16,oF 20 (.bi .lss t17 t19) 16,oP 21 (.pick t16 t20 vF)]) (.cond t21 .skip (.cn [1] (.exit 0)))) (.seq (.block 1 (rg 5 [oM 24 t5,oM 25 t0,oM 26 t1,oP 27 (.iaddr 6 t25 t26),oP 28 (.faddr 5 t27),oP 29 (.load none t28),oP 30 (.bin true .sub t29 (vI 1)),oP 31 (.bin true .add t24 t30),oM 5 t31])) (rg 1 [oM 22 t1,oP 23 (.bi .add t22 (vI 1)),oM 1 t23]))))
def zah_q:IQ:=(.seq (rg 4 [oP 4 (.mv (vI 0))]) (.seq (.seq (rg 13 [oM 6 t1,oP 7 (.bi .lss t6 (vI 0)),oM 8 t7,oE 9 (.mv t1) 8,oE 10 (.mv t0) 8,oE 11 (.len t10) 8,oE 12 (.bi .geq t9 t11) 8,oP 13 (.pick t8 vT t12)]) (.cond t13 (.seq (rg 4 [oP 4 (.mv (.v (.int .i64 (-1))))]) (.cn [4] .ret)) .skip)) (.seq (.seq (rg 5 [oP 5 (.mv (vI 1))]) (.block 0 (.cn [0,1,5] (.sub 0 zah_b0)))) (.seq (rg 4 [oM 32 t1,oM 4 t32]) (.cn [4] .ret)))))
theorem zah_chk:chk Tryd.prog 26 [30,31]=some (zah_q.erase,[.tmp 4],33):=by kernel_rfl
def qEk (at_ left:Int) (v:List Eng.Node):Option ((Int × Int) ⊕ Int) :=
 bif ((decide ((0:Int)<left)) && (decide (at_<(v.length:Int)))) then (
  gd (0≤at_∧at_<v.length) <|
  gd ((Int.toNat at_)<v.length) <|
  gd ((Int.toNat at_)<v.length) <|
  gd (qAe (at_+(1:Int))) <|
  some (.inl ((at_+(1:Int)),w64 (left+(w64 (((v.getD (Int.toNat at_) (ET.dft .node)).kids) - (1:Int)))))))
 else (
  some (.inr at_))
def zah_p0 (at_ left:Int) (v:List Eng.Node):Option Int :=
 qA2 (fun x:(Int × Int)=>qEk x.1 x.2 v) (at_,left)
def zah_s (v:(List Eng.Node)) (at_:Int):Option Int :=
 bif ((decide (at_<(0:Int))) || (decide ((v.length:Int)≤at_))) then (
  some (-1:Int))
 else (
  (zah_p0 at_ (1:Int) v).bind fun o1 =>
  some o1)
def zah_G:Nat→Option CQ:=tblQ []
theorem zah_Gok:∀f C,zah_G f=some C→qAf Tryd.prog f C:=fun f C h=>by cases h
def zah_d0:=(dQS (qAb (dSO 0 (dO 0)) (qAb (dSO 1 dZ) (qAb (dSO 5 dZ) dNil))) (qAb (qBs .node) dNil))
def zah_l0:SubQ:=mkL zah_d0 (fun x=>zah_p0 x.1.2.1 x.1.2.2.1 x.2.1) fun x r R kn kx kr=>kx 0 ⟨[sL 1 (.vI r)],[],[.view .node x.2.1]⟩
def zah_L:Nat→SubQ:=tblL [(0,zah_l0)]
theorem zah_sub0:qBz zah_L zah_G 1 6 33 0 zah_b0:=qAu (show zah_L 0=zah_l0 from by kernel_rfl) fun x R kn kx kr=>qAs (step:=fun y=>qEk y.1 y.2 x.2.1) (enc:=fun (y:Int × Int)=>zah_d0.e ((x.1.1,y.1,y.2,x.1.2.2.2),x.2)) (fun y=>by kernel_rfl) (fun y ki=>by simp only [qEk,-eq_self,qAd,qAg,obA,obS,slL,slR,qAc]; kernel_rfl) (x.1.2.1,x.1.2.2.1)
theorem zah_subs:qAp zah_L zah_G 1 6 33 zah_q:=qAk (show qAr zah_L zah_G 1 6 33 [(0,zah_b0)] from ⟨zah_sub0,tV⟩)
def zah_da:=(qAb (dVC (dCO (dO 0))) (qAb (dVC (dCO dZ)) dNil))
def zah_db:=(qAb (qBs .node) dNil)
def zah_c:CS:=mkC zah_da zah_db (fun x y=>zah_s y.1 x.2.1) (fun x y r=>.c (.o (.vI r))) fun x y r=>[.view .node y.1]
theorem zah_val:qAm Tryd.prog 26 zah_c:=qAo zah_chk 6 zah_Gok 1 (fun x=>Nat.le_of_ble_eq_true rfl) (fun y=>rfl) zah_subs fun x y=>by
 simp only [zah_s,-eq_self,qAd,qAg,obA,obS,slL,slR,qAc];kernel_rfl
def zah_w:CQ:=qB8 [(0,none,some (.node,36))] (qD4 [false] zah_c)
theorem zah_ok:qAf Tryd.prog 26 zah_w:=qEh zah_val
def zai_b0:IQ:=(.loop [0,1,5,6,7] (.seq (.seq (rg 34 [oM 18 t7,oM 19 t0,oM 20 t1,oP 21 (.iaddr 6 t19 t20),oP 22 (.faddr 5 t21),oP 23 (.load none t22),oP 24 (.bi .lss t18 t23),oM 25 t24,oF 26 (.mv t6) 25,oF 27 (.bi .geq t26 (vI 0)) 25,oP 28 (.pick t25 t27 vF),oM 29 t28,oF 30 (.mv t6) 29,oF 31 (.mv t0) 29,oF 32 (.len t31) 29,oF 33 (.bi .lss t30 t32) 29,oP 34 (.pick t29 t33 vF)]) (.cond t34 .skip (.cn [5] (.exit 0)))) (.seq (.block 1 (.seq (rg 5 [oM 37 t5,oM 38 t6,oP 39 (.bslice 3 1 1 [.int .i64 0] [(0,t38)]),oP 40 (.append 3 1 8 [.int .i64 0] t37 t39),oM 5 t40]) (rg 6 [oM 41 t0,oM 42 t6,oP 43 (.call 26 [t41,t42]),oM 6 t43]))) (rg 7 [oM 35 t7,oP 36 (.bi .add t35 (vI 1)),oM 7 t36]))))
def zai_q:IQ:=(.seq (rg 4 [oP 4 (.mv (.v (.slice none 0 0)))]) (.seq (.seq (rg 15 [oM 8 t1,oP 9 (.bi .lss t8 (vI 0)),oM 10 t9,oE 11 (.mv t1) 10,oE 12 (.mv t0) 10,oE 13 (.len t12) 10,oE 14 (.bi .geq t11 t13) 10,oP 15 (.pick t10 vT t14)]) (.cond t15 (.seq (rg 4 [oP 4 (.mv (.v (.slice none 0 0)))]) (.canon [(4,none,.i64,3)] [4] .ret)) .skip)) (.seq (rg 5 [oP 5 (.mv (.v (.slice none 0 0)))]) (.seq (rg 6 [oM 16 t1,oP 17 (.bi .add t16 (vI 1)),oM 6 t17]) (.seq (.seq (rg 7 [oP 7 (.mv (vI 0))]) (.block 0 (.canon [(5,none,.i64,3)] [0,1,5,6,7] (.sub 0 zai_b0)))) (.seq (rg 4 [oM 44 t5,oM 4 t44]) (.canon [(4,none,.i64,3)] [4] .ret)))))))
theorem zai_chk:chk Tryd.prog 25 []=some (zai_q.erase,[.tmp 4],45):=by kernel_rfl
def qFt (at_ next i:Int) (v:List Eng.Node) (out:List Int):Option ((Int × Int × (List Int)) ⊕ ((List Int))) :=
 gd (0≤at_∧at_<v.length) <|
 gd ((Int.toNat at_)<v.length) <|
 gd ((Int.toNat at_)<v.length) <|
 bif (((decide (i<((v.getD (Int.toNat at_) (ET.dft .node)).kids))) && (decide ((0:Int)≤next))) && (decide (next<(v.length:Int)))) then (
  gd (out.length+([next]:List Int).length≤9223372036854775807∧(out.length+([next]:List Int).length)*8≤140737488355328) <|
  (zah_s v next).bind fun r5 =>
  gd (qAe (i+(1:Int))) <|
  some (.inl (r5,(i+(1:Int)),(out++[next]))))
 else (
  some (.inr out))
def zai_p0 (at_ next i:Int) (v:List Eng.Node) (out:List Int):Option ((List Int)) :=
 qA2 (fun x:(Int × Int × (List Int))=>qFt at_ x.1 x.2.1 v x.2.2) (next,i,out)
def zai_s (v:(List Eng.Node)) (at_:Int):Option ((List Int)) :=
 bif ((decide (at_<(0:Int))) || (decide ((v.length:Int)≤at_))) then (
  some [])
 else (
  gd (qAe (at_+(1:Int))) <|
  (zai_p0 at_ (at_+(1:Int)) (0:Int) v []).bind fun o6 =>
  some o6)
def zai_G:Nat→Option CQ:=tblQ [(26,zah_w)]
theorem zai_Gok:∀f C,zai_G f=some C→qAf Tryd.prog f C:=qAl ⟨zah_ok,tV⟩
def zai_d0:=(dQS (qAb (dSO 0 (dO 0)) (qAb (dSO 1 dZ) (qAb (dSO 5 (dO 1)) (qAb (dSO 6 dZ) (qAb (dSO 7 dZ) dNil))))) (qAb (qBs .node) (qAb (dRow .i64 3) dNil)))
def zai_l0:SubQ:=mkL zai_d0 (fun x=>zai_p0 x.1.2.1 x.1.2.2.2.1 x.1.2.2.2.2.1 x.2.1 x.2.2.1) fun x r R kn kx kr=>kx 0 ⟨[sL 5 (.own 1)],[],[.view .node x.2.1,.row .i64 3 r]⟩
def zai_L:Nat→SubQ:=tblL [(0,zai_l0)]
theorem zai_sub0:qBz zai_L zai_G 1 8 45 0 zai_b0:=qAu (show zai_L 0=zai_l0 from by kernel_rfl) fun x R kn kx kr=>qAs (step:=fun y=>qFt x.1.2.1 y.1 y.2.1 x.2.1 y.2.2) (enc:=fun (y:Int × Int × (List Int))=>zai_d0.e ((x.1.1,x.1.2.1,x.1.2.2.1,y.1,y.2.1,x.1.2.2.2.2.2),(x.2.1,y.2.2,x.2.2.2))) (fun y=>by kernel_rfl) (fun y ki=>by simp only [qFt,-eq_self,qAd,qAg,obA,obS,slL,slR,qAc]; kernel_rfl) (x.1.2.2.2.1,x.1.2.2.2.2.1,x.2.2.1)
theorem zai_subs:qAp zai_L zai_G 1 8 45 zai_q:=qAk (show qAr zai_L zai_G 1 8 45 [(0,zai_b0)] from ⟨zai_sub0,tV⟩)
def zai_da:=(qAb (dVC (dCO (dO 0))) (qAb (dVC (dCO dZ)) dNil))
def zai_db:=(qAb (qBs .node) dNil)
def zai_c:CS:=mkC zai_da zai_db (fun x y=>zai_s y.1 x.2.1) (fun x y r=>.c (.o (.own 1))) fun x y r=>[.view .node y.1,.row .i64 3 r]
theorem zai_val:qAm Tryd.prog 25 zai_c:=qAo zai_chk 8 zai_Gok 1 (fun x=>Nat.le_of_ble_eq_true rfl) (fun y=>rfl) zai_subs fun x y=>by
 simp only [zai_s,-eq_self,qAd,qAg,obA,obS,slL,slR,qAc];kernel_rfl
def zai_w:CQ:=qB8 [(0,none,some (.node,36))] (qC2 [false] zai_c)
theorem zai_ok:qAf Tryd.prog 25 zai_w:=qAt zai_val
def zaj_b0:IQ:=(.loop [0,1,2,7,8] (.seq (.seq (rg 43 [oM 27 t8,oM 28 t0,oM 29 t1,oP 30 (.iaddr 6 t28 t29),oP 31 (.faddr 5 t30),oP 32 (.load none t31),oP 33 (.bi .lss t27 t32),oM 34 t33,oF 35 (.mv t7) 34,oF 36 (.bi .geq t35 (vI 0)) 34,oP 37 (.pick t34 t36 vF),oM 38 t37,oF 39 (.mv t7) 38,oF 40 (.mv t0) 38,oF 41 (.len t40) 38,oF 42 (.bi .lss t39 t41) 38,oP 43 (.pick t38 t42 vF)]) (.cond t43 .skip (.cn [] (.exit 0)))) (.seq (.block 1 (.seq (.seq (rg 52 [oM 46 t0,oM 47 t7,oP 48 (.iaddr 6 t46 t47),oP 49 (.faddr 1 t48),oP 50 (.load none t49),oM 51 t2,oP 52 (.bi .eql t50 t51)]) (.cond t52 (.seq (rg 6 [oM 53 t7,oM 6 t53]) (.cn [6] .ret)) .skip)) (rg 7 [oM 54 t0,oM 55 t7,oP 56 (.call 26 [t54,t55]),oM 7 t56]))) (rg 8 [oM 44 t8,oP 45 (.bi .add t44 (vI 1)),oM 8 t45]))))
def zaj_q:IQ:=(.seq (rg 6 [oP 6 (.mv (vI 0))]) (.seq (.seq (rg 24 [oM 9 t1,oP 10 (.bi .lss t9 (vI 0)),oM 11 t10,oE 12 (.mv t1) 11,oE 13 (.mv t0) 11,oE 14 (.len t13) 11,oE 15 (.bi .geq t12 t14) 11,oP 16 (.pick t11 vT t15),oM 17 t16,oE 18 (.mv t0) 17,oE 19 (.mv t1) 17,oE 20 (.iaddr 6 t18 t19) 17,oE 21 (.faddr 0 t20) 17,oE 22 (.load none t21) 17,oE 23 (.bi .neq t22 (vI 7)) 17,oP 24 (.pick t17 vT t23)]) (.cond t24 (.seq (rg 6 [oP 6 (.mv (.v (.int .i64 (-1))))]) (.cn [6] .ret)) .skip)) (.seq (rg 7 [oM 25 t1,oP 26 (.bi .add t25 (vI 1)),oM 7 t26]) (.seq (.seq (rg 8 [oP 8 (.mv (vI 0))]) (.block 0 (.cn [0,1,2,7,8] (.sub 0 zaj_b0)))) (.seq (rg 6 [oP 6 (.mv (.v (.int .i64 (-1))))]) (.cn [6] .ret))))))
theorem zaj_chk:chk Tryd.prog 24 []=some (zaj_q.erase,[.tmp 6],57):=by kernel_rfl
def qEe (at_:Int) (key:BA) (next i:Int) (v:List Eng.Node):Option ((Int × Int) ⊕ (Int ⊕ Unit)) :=
 gd (0≤at_∧at_<v.length) <|
 gd ((Int.toNat at_)<v.length) <|
 gd ((Int.toNat at_)<v.length) <|
 bif (((decide (i<((v.getD (Int.toNat at_) (ET.dft .node)).kids))) && (decide ((0:Int)≤next))) && (decide (next<(v.length:Int)))) then (
  gd (0≤next∧next<v.length) <|
  gd ((Int.toNat next)<v.length) <|
  gd ((Int.toNat next)<v.length) <|
  bif decide (((v.getD (Int.toNat next) (ET.dft .node)).key)=key) then (
   some (.inr (.inl next)))
  else (
   (zah_s v next).bind fun r3 =>
   gd (qAe (i+(1:Int))) <|
   some (.inl (r3,(i+(1:Int))))))
 else (
  some (.inr (.inr ())))
def zaj_p0 (at_:Int) (key:BA) (next i:Int) (v:List Eng.Node):Option (Int ⊕ Unit) :=
 qA2 (fun x:(Int × Int)=>qEe at_ key x.1 x.2 v) (next,i)
def zaj_s (v:(List Eng.Node)) (at_:Int) (key:BA):Option Int :=
 gd (((decide (at_<(0:Int))) || (decide ((v.length:Int)≤at_)))=false→0≤at_∧at_<v.length) <|
 gd (((decide (at_<(0:Int))) || (decide ((v.length:Int)≤at_)))=false→(Int.toNat at_)<v.length) <|
 gd (((decide (at_<(0:Int))) || (decide ((v.length:Int)≤at_)))=false→(Int.toNat at_)<v.length) <|
 bif (((decide (at_<(0:Int))) || (decide ((v.length:Int)≤at_))) || (!decide (((v.getD (Int.toNat at_) (ET.dft .node)).kind)=(7:Int)))) then (
  some (-1:Int))
 else (
  gd (qAe (at_+(1:Int))) <|
  (zaj_p0 at_ key (at_+(1:Int)) (0:Int) v).bind fun o4=>(Sum.elim (fun (o4_0:Int) =>
   some o4_0) (fun (o4_1:Unit) =>
   some (-1:Int))) o4)
def zaj_G:Nat→Option CQ:=tblQ [(26,zah_w)]
theorem zaj_Gok:∀f C,zaj_G f=some C→qAf Tryd.prog f C:=qAl ⟨zah_ok,tV⟩
def zaj_d0:=(dQS (qAb (dSO 0 (dO 0)) (qAb (dSO 1 dZ) (qAb (dSO 2 dS) (qAb (dSO 7 dZ) (qAb (dSO 8 dZ) dNil))))) (qAb (qBs .node) dNil))
def zaj_l0:SubQ:=mkL zaj_d0 (fun x=>zaj_p0 x.1.2.1 x.1.2.2.1 x.1.2.2.2.1 x.1.2.2.2.2.1 x.2.1) fun x r R kn kx kr=>(Sum.elim (fun (r_0:Int)=>kr ⟨[sL 6 (.vI r_0)],[],[.view .node x.2.1]⟩) (fun (r_1:Unit)=>kx 0 ⟨[],[],[.view .node x.2.1]⟩)) r
def zaj_L:Nat→SubQ:=tblL [(0,zaj_l0)]
theorem zaj_sub0:qBz zaj_L zaj_G 1 9 57 0 zaj_b0:=qAu (show zaj_L 0=zaj_l0 from by kernel_rfl) fun x R kn kx kr=>qAs (step:=fun y=>qEe x.1.2.1 x.1.2.2.1 y.1 y.2 x.2.1) (enc:=fun (y:Int × Int)=>zaj_d0.e ((x.1.1,x.1.2.1,x.1.2.2.1,y.1,y.2,x.1.2.2.2.2.2),x.2)) (fun y=>by kernel_rfl) (fun y ki=>by simp only [qEe,-eq_self,qAd,qAg,obA,obS,slL,slR,qAc]; kernel_rfl) (x.1.2.2.2.1,x.1.2.2.2.2.1)
theorem zaj_subs:qAp zaj_L zaj_G 1 9 57 zaj_q:=qAk (show qAr zaj_L zaj_G 1 9 57 [(0,zaj_b0)] from ⟨zaj_sub0,tV⟩)
def zaj_da:=(qAb (dVC (dCO (dO 0))) (qAb (dVC (dCO dZ)) (qAb (dVC (dCO dS)) dNil)))
def zaj_db:=(qAb (qBs .node) dNil)
def zaj_c:CS:=mkC zaj_da zaj_db (fun x y=>zaj_s y.1 x.2.1 x.2.2.1) (fun x y r=>.c (.o (.vI r))) fun x y r=>[.view .node y.1]
theorem zaj_val:qAm Tryd.prog 24 zaj_c:=qAo zaj_chk 9 zaj_Gok 1 (fun x=>Nat.le_of_ble_eq_true rfl) (fun y=>rfl) zaj_subs fun x y=>by
 simp only [zaj_s,-eq_self,qAd,qAg,obA,obS,slL,slR,qAc];kernel_rfl
def zaj_w:CQ:=qB8 [(0,none,some (.node,36))] (qD4 [false] zaj_c)
theorem zaj_ok:qAf Tryd.prog 24 zaj_w:=qEh zaj_val
def zbq_q:IQ:=(.seq (rg 2 [oP 2 (.mv (.v (.slice none 0 0)))]) (.seq (rg 3 [oP 3 (.mv (.v (.slice none 0 0)))]) (.seq (rg 2 [oM 4 t3,oM 5 t0,oP 6 (.append 36 6 64 [.int .i64 0,.string ⟨#[]⟩,.string ⟨#[]⟩,.bool false,.int .i64 0,.int .i64 0] t4 t5),oM 2 t6]) (.canon [(2,none,.node,36)] [2] .ret))))
theorem zbq_chk:chk Tryd.prog 32 []=some (zbq_q.erase,[.tmp 2],7):=by kernel_rfl
def zbq_s (v:(List Eng.Node)):Option ((List Eng.Node)) :=
 gd (v.length≤9223372036854775807∧v.length*64≤140737488355328) <|
 some v
def zbq_G:Nat→Option CQ:=tblQ []
theorem zbq_Gok:∀f C,zbq_G f=some C→qAf Tryd.prog f C:=fun f C h=>by cases h
def zbq_L:Nat→SubQ:=tblL []
theorem zbq_subs:qAp zbq_L zbq_G 1 4 7 zbq_q:=qAk (show qAr zbq_L zbq_G 1 4 7 [] from tV)
def zbq_da:=(qAb (dVC (dCO (dO 0))) dNil)
def zbq_db:=(qAb (qBs .node) dNil)
def zbq_c:CS:=mkC zbq_da zbq_db (fun x y=>zbq_s y.1) (fun x y r=>.c (.o (.own 1))) fun x y r=>[.view .node y.1,.row .node 36 r]
theorem zbq_val:qAm Tryd.prog 32 zbq_c:=qAo zbq_chk 4 zbq_Gok 1 (fun x=>Nat.le_of_ble_eq_true rfl) (fun y=>rfl) zbq_subs fun x y=>by
 simp only [zbq_s,-eq_self,qAd,qAg,obA,obS,slL,slR,qAc];kernel_rfl
def zbq_w:CQ:=qB8 [(0,none,some (.node,36))] (qC2 [false] zbq_c)
theorem zbq_ok:qAf Tryd.prog 32 zbq_w:=qAt zbq_val
end
theorem nd_get {v:List Eng.Node} {a:Nat} {n:Eng.Node} (h:v[a]?=some n):v.getD a (ET.dft .node)=n:=by
 rw [List.getD_eq_getElem?_getD,h]; rfl
theorem nd_some {v:List Eng.Node} {a:Nat} (h:a<v.length):∃n,v[a]?=some n∧n∈v∧v.getD a (ET.dft .node)=n :=
 ⟨v[a],List.getElem?_eq_getElem h,List.getElem_mem h,nd_get (List.getElem?_eq_getElem h)⟩
structure OkN (n:Eng.Node):Prop where
 key:n.key.size≤3000000
 text:n.text.size≤3000000
 kids:qAe n.kids
def OkL (v:List Eng.Node):Prop:=v.length≤2000000∧∀n∈v,OkN n
theorem bAt_byte (t:BA) (i:Int) : -1≤bAt t i∧bAt t i≤255:=by
 unfold bAt;split
 ·split
  ·rename_i b _;have:=b.toNat_lt;omega
  ·omega
 ·omega
theorem byteAt_some (t:BA) (at_:Int) (h0:0≤at_):qDd t at_=some (if (t.size:Int)≤at_ then -1 else bAt t at_)∧(0≤(if (t.size:Int)≤at_ then -1 else bAt t at_)→at_<t.size):=by
 have:=bAt_byte t at_;unfold qDd;by_cases h:(t.size:Int)≤at_
 ·rw [deT h,cnT,if_pos h];exact ⟨rfl,fun h=>by omega⟩
 ·rw [deF h,cnF,if_neg h];refine ⟨(qAa (by omega) _).trans (qAa (by unfold qAe; omega) _),fun _=>by omega⟩
end Go.Proofs.YtdcoiccdbgcpaaaDoor
