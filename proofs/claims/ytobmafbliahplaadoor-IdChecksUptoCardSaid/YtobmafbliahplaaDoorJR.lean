/-
  Functions as the engine reads them (printed by gen.py).
-/
import Derived.Test.YtobmafbliahplaaDoorDecKey
import Derived.Test.YtobmafbliahplaaDoorHB
import Derived.Test.YtobmafbliahplaaDoorEngO
import Derived.Test.YtobmafbliahplaaDoorProg
set_option linter.unusedSimpArgs false
set_option linter.unusedVariables false
namespace Go.Proofs.YtobmafbliahplaaDoor
open Go.Eng
theorem p_digit (s:BA) (k:Nat):zbt_s s k=some (digS s k):=by
 unfold zbt_s;refine (qAb (fun h=>by have:=of_decide_eq_true h; omega) _).trans ?_;refine (qAb (fun h=>by have:=of_decide_eq_true (Bool.and_eq_true _ _ ▸ h).1; omega) _).trans ?_;congr 1
 unfold digS;by_cases hlt:(k:Int)<s.size
 ·simp [hlt]
 ·have:=bAt_out hlt;simp [hlt,this]
theorem p_many (s:BA) (hsz:s.size<4000000000000000000) (k:Nat) (hk:k≤s.size):zbu_s s k=some (qGa s k:Int):=by
 unfold zbu_s zbu_p0;rw [whileO_rule (fun x:Int=>∃j:Nat,x=j∧j≤s.size∧qGa s j=qGa s k) (fun x=>s.size - x.toNat) (fun _=>(qGa s k:Int)) ?_ (x:=(k:Int)) ⟨k,rfl,hk,rfl⟩]
 ·rfl
 rintro _ ⟨j,rfl,hj,hm⟩
 unfold zbu_p0_step;rw [p_digit,obS];cases hd:digS s j with
 | true =>
  left;have hlt:=digS_lt hd;refine ⟨((j+1:Nat):Int),?_,⟨j+1,rfl,by omega,by rw [←hm,manyS_yes hd]⟩,by omega,rfl⟩;refine (qAb (by unfold qAc; omega) _).trans ?_;rfl
 | false =>
  right;show some (Sum.inr (j:Int))=_;rw [←hm,manyS_no hd]
theorem dV_ne (s:BA) (i:Nat) (h:i<s.size):((!decide (bAt s i=48)):Bool)=decide (dV s i≠0):=by
 have h1:=bAt_range s i;have h2:=bAt_nn (s:=s) (i:=i) (by omega) (by omega);rw [←decide_not,decide_eq_decide];unfold dV;omega
theorem bias_or (a:Prop) [Decidable a] (n:Nat):(decide a || decide ((0:Int)<(n:Int)))=decide (a∨0<n):=by
 rw [Bool.eq_iff_iff];simp
section
variable (s:BA) (hsz:s.size<1000000000)
include hsz
theorem p_ref3 (a k:Nat) (hak:a≤k) (hk:k≤s.size):zbq_p3 s k a []=some (lead (qBo s a (k - a))):=by
 unfold zbq_p3;rw [whileO_rule (fun x:Int × List Int=>∃j:Nat,x=(((a+j:Nat):Int),lead (qBo s a j))∧a+j≤k) (fun x=>k - x.1.toNat) (fun _=>lead (qBo s a (k - a))) ?_ (x:=((a:Int),[])) ⟨0,rfl,by omega⟩];rintro _ ⟨j,rfl,hj⟩
 unfold zbq_p3_step;have hl:=lead_le (qBo s a j);rw [dsFrom_length] at hl;by_cases hlt:a+j<k
 ·left;have hs:=lead_snoc (qBo s a j) (dV s (a+j));rw [←dsFrom_succ] at hs;have hr:=dV_range s (a+j);refine ⟨(((a+(j+1):Nat):Int),lead (qBo s a (j+1))),?_,⟨j+1,rfl,by omega⟩,by simp only; omega,rfl⟩;simp only;rw [deT (by omega),cnT];refine (qAb (by omega) _).trans ?_;rw [dV_ne s (a+j) (by omega),bias_or,hs];by_cases hc:dV s (a+j)≠0∨0<(lead (qBo s a j)).length
  ·rw [deT hc,cnT,if_pos hc];refine (qAb (by omega) _).trans ?_;refine (qAb (by unfold qAc; have:=hr; unfold dV at this; omega) _).trans ?_;refine (qAb (by simp only [List.length_singleton]; omega) _).trans ?_;refine (qAb (by unfold qAc; omega) _).trans ?_;rfl
  ·rw [deF hc,cnF,if_neg hc];refine (qAb (by unfold qAc; omega) _).trans ?_;have:lead (qBo s a j)=[]:=by
    apply List.eq_nil_of_length_eq_zero;omega
   rw [this];rfl
 ·right;simp only;rw [deF (by omega),cnF,show k - a=j by omega]
theorem p_ref2 (a:Nat) (ha:a≤s.size):zbq_p2 s a=some (if decide (qGa s a=a)=true then .inl (false,[],[]) else .inr ((qGa s a:Int),lead (qBo s a (qGa s a - a)))):=by
 unfold zbq_p2;rw [p_many s (by omega) a ha,obS];have:decide ((qGa s a:Int)=(a:Int))=decide (qGa s a=a):=by rw [decide_eq_decide]; omega
 rw [this];cases hd:decide (qGa s a=a) with
 | true=>rfl
 | false =>
  simp only [cnF];rw [p_ref3 s hsz a (qGa s a) (manyS_ge s a) (manyS_le s a ha)];rfl
end
theorem p_ref5 (t:BA) (ht:t.size<4000000000) (o:Int) (ho : -4000000000≤o∧o≤4000000000):zbq_p5 t 0 o []=some (o - ((t.size:Int) - (lead (qBo t 0 t.size)).length),lead (qBo t 0 t.size)):=by
 unfold zbq_p5;rw [whileO_rule (fun x:Int × Int × List Int=>∃j:Nat,x=((j:Int),o - ((j:Int) - (lead (qBo t 0 j)).length),lead (qBo t 0 j))∧j≤t.size) (fun x=>t.size - x.1.toNat) (fun _=>(o - ((t.size:Int) - (lead (qBo t 0 t.size)).length),lead (qBo t 0 t.size))) ?_ (x:=((0:Int),o,[])) ⟨0,by simp [qBo,lead],by omega⟩];rintro _ ⟨j,rfl,hj⟩
 unfold zbq_p5_step;have hl:=lead_le (qBo t 0 j);rw [dsFrom_length] at hl;by_cases hlt:j<t.size
 ·left;have hs:=lead_snoc (qBo t 0 j) (dV t (0+j));rw [←dsFrom_succ] at hs;rw [Nat.zero_add] at hs;have hr:=dV_range t j;refine ⟨(((j+1:Nat):Int),o - (((j+1:Nat):Int) - (lead (qBo t 0 (j+1))).length),lead (qBo t 0 (j+1))),?_,⟨j+1,rfl,by omega⟩,by simp only; omega,rfl⟩;simp only;rw [deT (by omega),cnT];refine (qAb (by omega) _).trans ?_;refine (qAb (by unfold qAc; have:=hr; unfold dV at this; omega) _).trans ?_;have e:(!decide ((bAt t (j:Int) - 48) % 256=0))=decide (dV t j≠0):=by rw [←decide_not]; rfl
  rw [e,bias_or,hs];by_cases hc:dV t j≠0∨0<(lead (qBo t 0 j)).length
  ·rw [deT hc,cnT,if_pos hc];refine (qAb (by simp only [List.length_singleton]; omega) _).trans ?_;refine (qAb (by unfold qAc; omega) _).trans ?_;congr 3
   rw [List.length_append,List.length_singleton];congr 1
   omega
  ·rw [deF hc,cnF,if_neg hc];have:lead (qBo t 0 j)=[]:=by
    apply List.eq_nil_of_length_eq_zero;omega
   rw [this];refine (qAb (by unfold qAc; simp only [List.length_nil]; omega) _).trans ?_;refine (qAb (by unfold qAc; omega) _).trans ?_;congr 3
   simp only [List.length_nil];congr 1
   omega
 ·right;simp only;rw [deF (by omega),cnF,show t.size=j by omega]
theorem p_ref6 (l0:List Int) (hl:l0.length<4000000000):zbq_p6 l0=some (trail l0):=by
 unfold zbq_p6;rw [whileO_rule (fun l:List Int=>l.length≤l0.length∧trail l=trail l0) (fun l=>l.length) (fun _=>trail l0) ?_ (x:=l0) ⟨by omega,rfl⟩];rintro l ⟨hle,ht⟩
 unfold zbq_p6_step;rcases List.eq_nil_or_concat l with rfl | ⟨m,d,rfl⟩
 ·right;refine (qAb (fun h=>by simp at h) _).trans ?_;refine (qAb (fun h=>by simp at h) _).trans ?_;refine (qAb (fun h=>by simp at h) _).trans ?_;rw [←ht];rfl
 ·rw [List.concat_eq_append] at hle ht ⊢;have hz:(m++[d]).length=m.length+1:=by simp
  rw [hz] at hle;have hN:Int.toNat (((m++[d]).length:Int) - 1)=m.length:=by rw [hz]; omega
  have hg:(m++[d]).getD m.length (ET.dft .i64)=d:=by simp
  rw [hN,hg,hz];rw [deT (show (0:Int)<((m.length+1:Nat):Int) by omega)];by_cases hd:d=0
  ·left;subst hd;refine ⟨m,?_,⟨by omega,by rw [←ht,trail_snoc_zero]⟩,by omega,rfl⟩;refine (qAb (fun _=>by unfold qAc; omega) _).trans ?_;refine (qAb (fun _=>by omega) _).trans ?_;refine (qAb (fun _=>by omega) _).trans ?_;simp only [decide_true,Bool.and_true,cnT];refine (qAb (by unfold qAc; omega) _).trans ?_;refine (qAb (by omega) _).trans ?_;simp
  ·right;refine (qAb (fun _=>by unfold qAc; omega) _).trans ?_;refine (qAb (fun _=>by omega) _).trans ?_;refine (qAb (fun _=>by omega) _).trans ?_;rw [deF hd];simp only [Bool.and_false,cnF];rw [←ht,trail_snoc m d hd]
def rnum (r:RNum):qG5:=⟨r.minus,r.digits,r.off,r.down,r.exp,r.plain,r.text⟩
section
variable (s:BA) (hsz:s.size<1000000000)
include hsz
theorem allS_size:(allS s).size≤s.size+s.size:=by
 unfold allS;split <;> simp <;> omega
theorem p_ref4 (a:Nat) (o:Int) (ho : -4000000000≤o∧o≤4000000000):zbq_p4 s a (allS s) o=some (if decide (a=s.size)=true then (true,o - (((allS s).size:Int) - (lead (qBo (allS s) 0 (allS s).size)).length),(readS s).digits) else (false,o,[])):=by
 have hz:=allS_size s hsz;have hl:=lead_le (qBo (allS s) 0 (allS s).size);rw [dsFrom_length] at hl;unfold zbq_p4;have:(!decide ((a:Int)=(s.size:Int)))=!decide (a=s.size):=by congr 1; rw [decide_eq_decide]; omega
 rw [this];cases hd:decide (a=s.size) with
 | false=>rfl
 | true =>
  simp only [Bool.not_true,cnF,if_true];rw [p_ref5 (allS s) (by omega) o ho,obS];simp only;rw [p_ref6 _ (by omega),obS];rfl
theorem p_ref1 (hbd:badA s=false) (hdk:(dotS s && decide (atK s=atB s+1))=false):zbq_p1 s (atC s) (allS s) ((atB s:Int) - atA s) false (!dotS s)=some (qE3 s,(qAv s).off,(qAv s).down,(qAv s).plain,(qAv s).digits,(qAv s).exp):=by
 have hC:=atC_le s;have hA:=atA_le s;have hB:=atB_le s;have hAB:=atA_le_atB s;have hro:qE3 s=(!(expS s && decide (atF s=atE s)) && decide (atG s=s.size)):=by
  unfold qE3;rw [hbd,hdk];rfl
 have hexp:(decide ((atC s:Int)<(s.size:Int)) && (decide (bAt s (atC s)=101) || decide (bAt s (atC s)=69)))=expS s:=by
  unfold expS;by_cases h:atC s<s.size
  ·simp [h]
  ·have:bAt s (atC s) = -1:=bAt_out (by omega);simp [this]
 unfold zbq_p1;refine (qAb (fun h=>by have:=of_decide_eq_true h; omega) _).trans ?_;refine (qAb (fun _ h=>by have:=of_decide_eq_true h; omega) _).trans ?_;rw [hexp];cases he:expS s with
 | false =>
  have hG:atG s=atC s:=by simp [atG,he]
  have h3:(expS s && decide (atF s=atE s))=false:=by simp [he]
  simp only [cnF];rw [p_ref4 s hsz (atC s) _ (by omega),obS,hro,h3,hG];cases hd:decide (atC s=s.size) with
  | false =>
   rw [readAll_4 hbd hdk h3 (by rw [hG]; exact hd)];simp [readS,he]
  | true =>
   have:qE3 s=true:=by rw [hro,h3,hG,hd]; rfl
   rw [readAll_ok this];simp [readS,he]
 | true =>
  have hCl:=atC_lt he;have hEl:=atE_le he;have hF:=atF_le he;have hsg:(decide ((atC s:Int)+1<(s.size:Int)) && (decide (bAt s ((atC s:Int)+1)=43) || decide (bAt s ((atC s:Int)+1)=45)))=sgnS s:=by
   unfold sgnS;by_cases h:(atC s:Int)+1<s.size
   ·simp [h]
   ·have:bAt s ((atC s:Int)+1) = -1:=bAt_out h;simp [this]
  have hG:atG s=atF s:=by simp [atG,he]
  have common:∀(dn:Bool),dn=decide (bAt s ((atC s:Int)+1)=45)→((zbq_p2 s (atE s)).bind fun o83=>(Sum.elim (fun (o83_0:Bool × (List Int) × (List Int)) =>
    some (o83_0.1,((atB s:Int) - atA s),dn,false,o83_0.2.1,o83_0.2.2)) (fun (o83_1:Int × (List Int)) =>
    (zbq_p4 s o83_1.1 (allS s) ((atB s:Int) - atA s)).bind fun o86 =>
    some (o86.1,o86.2.1,dn,false,o86.2.2,o83_1.2))) o83)=some (qE3 s,(qAv s).off,(qAv s).down,(qAv s).plain,(qAv s).digits,(qAv s).exp):=by
   intro dn hdn;subst hdn;rw [p_ref2 s hsz (atE s) hEl,obS];show (Sum.elim _ _ (if decide (atF s=atE s)=true then _ else _))=_;cases hd:decide (atF s=atE s) with
   | true =>
    have h3:(expS s && decide (atF s=atE s))=true:=by rw [he,hd]; rfl
    rw [readAll_3 hbd hdk h3,hro,h3];simp [readS,he]
   | false =>
    have h3:(expS s && decide (atF s=atE s))=false:=by rw [he,hd]; rfl
    simp only [Bool.false_eq_true,if_false,Sum.elim_inr];show ((zbq_p4 s (atF s:Int) _ _).bind _)=_;rw [p_ref4 s hsz (atF s) _ (by omega),obS,hro,h3,hG];cases hq:decide (atF s=s.size) with
    | false =>
     rw [readAll_4 hbd hdk h3 (by rw [hG]; exact hq)];simp [readS,he,atF]
    | true =>
     have:qE3 s=true:=by rw [hro,h3,hG,hq]; rfl
     rw [readAll_ok this];simp [readS,he,atF]
  simp only [cnT];refine (qAb (by unfold qAc; omega) _).trans ?_;refine (qAb (fun h=>by have:=of_decide_eq_true h; omega) _).trans ?_;refine (qAb (fun _ h=>by have:=of_decide_eq_true h; omega) _).trans ?_;rw [hsg];cases hs:sgnS s with
  | true =>
   have hsl:=sgn_lt hs;have hE:(atC s:Int)+1+1=(atE s:Int):=by simp [atE,hs]; omega
   simp only [cnT];refine (qAb (by omega) _).trans ?_;refine (qAb (by unfold qAc; omega) _).trans ?_;rw [hE];exact common _ rfl
  | false =>
   have hnd:¬bAt s ((atC s:Int)+1)=45:=fun e=>by simp [sgnS,e] at hs
   have hE:(atC s:Int)+1=(atE s:Int):=by simp [atE,hs]
   simp only [cnF];have:=common false (by simp [hnd]);rw [←hE] at this;exact this
theorem p_ref0:zbq_p0 s (atA s) 0 false true (⟨#[]⟩:BA)=some (qE3 s,(qAv s).off,(qAv s).down,(qAv s).plain,(qAv s).text,(qAv s).digits,(qAv s).exp):=by
 have hC:=atC_le s;have hA:=atA_le s;have hB:=atB_le s;have hAB:=atA_le_atB s;unfold zbq_p0;rw [p_many s (by omega) (atA s) hA,obS];show gd (decide ((atB s:Int)=(atA s:Int))=false→_) _=_;have e1:decide ((atB s:Int)=(atA s:Int))=decide (atB s=atA s):=by rw [decide_eq_decide]; omega
 have e2:decide ((atA s:Int)+1<(atB s:Int))=decide (atA s+1<atB s):=by rw [decide_eq_decide]; omega
 have hbad:(decide (atB s=atA s) || decide (bAt s (atA s)=48) && decide (atA s+1<atB s))=badA s:=rfl
 refine (qAb (fun h=>by have:=of_decide_eq_false h; omega) _).trans ?_;refine (qAb (fun _ _=>by unfold qAc; omega) _).trans ?_;show (bif (decide ((atB s:Int)=(atA s:Int)) || decide (bAt s (atA s)=48) && decide ((atA s:Int)+1<(atB s:Int))) then _ else _)=_
 rw [e1,e2,hbad];cases hbd:badA s with
 | true =>
  have hro:qE3 s=false:=by simp [qE3,hbd]
  rw [readAll_1 hbd,hro];rfl
 | false =>
  simp only [cnF];show gd ((0:Int)≤(atA s:Int)∧(atA s:Int)≤(atB s:Int)∧(atB s:Int)≤(s.size:Int)) _=_;refine (qAb (by omega) _).trans ?_;refine (qAb (by show (0:Int)≤(atA s:Int)∧(atA s:Int)≤(atB s:Int)∧(atB s:Int)≤(s.size:Int); omega) _).trans ?_;refine (qAb (by show qAc ((atB s:Int) - atA s); unfold qAc; omega) _).trans ?_;refine (qAb (fun h=>by have:=of_decide_eq_true h; show (0:Int)≤(atB s:Int)∧(atB s:Int)<(s.size:Int); exact ⟨by omega,this⟩) _).trans ?_;show (bif decide ((atB s:Int)<(s.size:Int)) && decide (bAt s (atB s)=46) then _ else _)=_;have hdot:(decide ((atB s:Int)<(s.size:Int)) && decide (bAt s (atB s)=46))=dotS s:=by
   unfold dotS;by_cases h:atB s<s.size
   ·simp [h]
   ·have:bAt s (atB s) = -1:=bAt_out (by omega);simp [this]
  rw [hdot];cases hd:dotS s with
  | false =>
   have hc:atC s=atB s:=by simp [atC,hd]
   have ha:allS s=s.extract (atA s) (atB s):=by simp [allS,hd]
   have hdk:(dotS s && decide (atK s=atB s+1))=false:=by rw [hd]; rfl
   have h1:=p_ref1 s hsz hbd hdk;rw [hc,ha,hd] at h1;simp only [cnF];show ((zbq_p1 s (atB s:Int) (s.extract (Int.toNat (atA s:Int)) (Int.toNat (atB s:Int))) ((atB s:Int) - atA s) false true).bind _)=_;rw [Int.toNat_natCast,Int.toNat_natCast];have h1':zbq_p1 s (atB s:Int) (s.extract (atA s) (atB s)) ((atB s:Int) - atA s) false true=_:=h1;rw [h1',obS];have ht:(qAv s).text=s.extract (atA s) (atB s):=by
    unfold qAv;rw [hbd,hdk];simp only [Bool.false_eq_true,if_false];split
    ·rfl
    ·split <;> rfl
   rw [ht];rfl
  | true =>
   have hBl:=atB_lt hd;have hKl:=atK_le hd;have hKg:=atK_ge s;have hc:atC s=atK s:=by simp [atC,hd]
   have ha:allS s=s.extract (atA s) (atB s)++s.extract (atB s+1) (atK s):=by simp [allS,hd]
   simp only [cnT];show gd (qAc ((atB s:Int)+1)) _=_;refine (qAb (by unfold qAc; omega) _).trans ?_;show ((zbu_s s ((atB s+1:Nat):Int)).bind _)=_;rw [p_many s (by omega) (atB s+1) (by omega),obS];refine (qAb (by show qAc ((atB s:Int)+1); unfold qAc; omega) _).trans ?_;show (bif decide ((atK s:Int)=(atB s:Int)+1) then _ else _)=_;have e3:decide ((atK s:Int)=(atB s:Int)+1)=decide (atK s=atB s+1):=by rw [decide_eq_decide]; omega
   rw [e3];cases hk:decide (atK s=atB s+1) with
   | true =>
    have hdk:(dotS s && decide (atK s=atB s+1))=true:=by rw [hd,hk]; rfl
    have hro:qE3 s=false:=by simp only [qE3,hbd,hdk,Bool.not_true,Bool.not_false,Bool.and_false,Bool.false_and]
    rw [readAll_2 hbd hdk,hro];rfl
   | false =>
    have hdk:(dotS s && decide (atK s=atB s+1))=false:=by rw [hd,hk]; rfl
    have h1:=p_ref1 s hsz hbd hdk;rw [hc,ha,hd] at h1;simp only [cnF];refine (qAb (by show qAc ((atB s:Int)+1); unfold qAc; omega) _).trans ?_;refine (qAb (by show (0:Int)≤(atB s:Int)+1∧(atB s:Int)+1≤(atK s:Int)∧(atK s:Int)≤(s.size:Int); omega) _).trans ?_;have hx:(s.extract (atA s) (atB s)).size≤s.size:=by rw [ByteArray.size_extract]; omega
    have hy:(s.extract (atB s+1) (atK s)).size≤s.size:=by rw [ByteArray.size_extract]; omega
    show gd ((s.extract (Int.toNat (atA s:Int)) (Int.toNat (atB s:Int))).size+(s.extract (Int.toNat ((atB s+1:Nat):Int)) (Int.toNat (atK s:Int))).size≤9223372036854775807) ((zbq_p1 s (atK s:Int) (s.extract (Int.toNat (atA s:Int)) (Int.toNat (atB s:Int))++s.extract (Int.toNat ((atB s+1:Nat):Int)) (Int.toNat (atK s:Int))) ((atB s:Int) - atA s) false false).bind _)=_;rw [Int.toNat_natCast,Int.toNat_natCast,Int.toNat_natCast,Int.toNat_natCast];refine (qAb (by omega) _).trans ?_;have h1':zbq_p1 s (atK s:Int) (s.extract (atA s) (atB s)++s.extract (atB s+1) (atK s)) ((atB s:Int) - atA s) false false=_:=h1;rw [h1',obS];have ht:(qAv s).text=s.extract (atA s) (atB s):=by
     unfold qAv;rw [hbd,hdk];simp only [Bool.false_eq_true,if_false];split
     ·rfl
     ·split <;> rfl
    rw [ht];rfl
theorem p_Read:zbq_s s=some (rnum (qAv s),qE3 s):=by
 have hm:(qAv s).minus=decide (bAt s 0=45):=by
  unfold qAv;split
  ·rfl
  ·split
   ·rfl
   ·split
    ·rfl
    ·split <;> rfl
 have h0:=p_ref0 s hsz;unfold zbq_s;refine (qAb (fun h=>by have:=of_decide_eq_true h; omega) _).trans ?_;have e:(decide ((0:Int)<(s.size:Int)) && decide (bAt s 0=45))=decide (bAt s 0=45):=by
  by_cases h:0<s.size
  ·simp [h]
  ·have:bAt s 0 = -1:=bAt_out (by omega);simp [this]
 rw [e];by_cases h:bAt s 0=45
 ·have ha:atA s=1:=by simp [atA,h]
  rw [ha] at h0;rw [deT h,cnT];refine (qAb (by unfold qAc; omega) _).trans ?_;have h0':zbq_p0 s ((0:Int)+1) 0 false true (⟨#[]⟩:BA)=_:=h0;rw [h0',obS];unfold rnum;rw [hm,deT h]
 ·have ha:atA s=0:=by simp [atA,h]
  rw [ha] at h0;rw [deF h,cnF];have h0':zbq_p0 s (0:Int) 0 false true (⟨#[]⟩:BA)=_:=h0;rw [h0',obS];unfold rnum;rw [hm,deF h]
end
end Go.Proofs.YtobmafbliahplaaDoor
namespace Go.Proofs.YtobmafbliahplaaDoor
open Go.Eng
set_option maxRecDepth 100000
noncomputable section
structure qG2 where
 at_:Int
 l:(List Eng.Node)
 s:BA
 code:Int
 bad:Int
def zbw_b1:IQ:=(.loop [0,3,4] (.seq (.seq (rg 22 [oM 11 t3,oP 12 (.len t11),oP 13 (.bi .gtr t12 (vI 0)),oM 14 t13,oF 15 (.mv t3) 14,oF 16 (.mv t3) 14,oF 17 (.len t16) 14,oF 18 (.bi .sub t17 (vI 1)) 14,oF 19 (.iaddr 1 t15 t18) 14,oF 20 (.load none t19) 14,oF 21 (.bi .leq t20 (vI 0)) 14,oP 22 (.pick t14 t21 vF)]) (.cond t22 .skip (.cn [0,3,4] (.exit 2)))) (.block 3 (rg 3 [oM 23 t3,oM 24 t3,oP 25 (.len t24),oP 26 (.bi .sub t25 (vI 1)),oP 27 (.sub (some 1) t23 none (some t26)),oM 3 t27]))))
def zbw_b2:IQ:=(.join [] [0,3,4] (.seq (rg 3 [oM 43 t3,oM 44 t0,oM 45 t4,oP 46 (.iaddr 6 t44 t45),oP 47 (.faddr 5 t46),oP 48 (.load none t47),oP 49 (.bslice 3 1 1 [.int .i64 0] [(0,t48)]),oP 50 (.append 3 1 8 [.int .i64 0] t43 t49),oM 3 t50]) (.seq (rg 53 [oM 51 t3,oP 52 (.len t51),oP 53 (.bi .gtr t52 (vI 65536))]) (.cond t53 (.seq (rg 2 [oP 2 (.mv vT)]) (.cn [2] .ret)) .skip))))
def zbw_b0:IQ:=(.loop [0,3,4] (.seq (.seq (rg 8 [oM 5 t4,oM 6 t0,oP 7 (.len t6),oP 8 (.bi .lss t5 t7)]) (.cond t8 .skip (.cn [] (.exit 0)))) (.seq (.block 1 (.seq (.block 2 (.canon [(3,none,.i64,3)] [0,3,4] (.sub 1 zbw_b1))) (.seq (.seq (rg 30 [oM 28 t3,oP 29 (.len t28),oP 30 (.bi .gtr t29 (vI 0))]) (.cond t30 (rg 0 [oM 31 t3,oM 32 t3,oP 33 (.len t32),oP 34 (.bi .sub t33 (vI 1)),oM 35 t3,oM 36 t3,oP 37 (.len t36),oP 38 (.bi .sub t37 (vI 1)),oP 39 (.iaddr 1 t35 t38),oP 40 (.load none t39),oP 41 (.bi .sub t40 (vI 1)),oP 42 (.iaddr 1 t31 t34),oN (.store 1 t42 t41)]) .skip)) (.canon [(3,none,.i64,3)] [0,3,4] (.sub 2 zbw_b2))))) (rg 4 [oM 9 t4,oP 10 (.bi .add t9 (vI 1)),oM 4 t10]))))
def zbw_q:IQ:=(.seq (rg 2 [oP 2 (.mv vF)]) (.seq (rg 3 [oP 3 (.mv (.v (.slice none 0 0)))]) (.seq (.seq (rg 4 [oP 4 (.mv (vI 0))]) (.block 0 (.canon [(3,none,.i64,3)] [0,3,4] (.sub 0 zbw_b0)))) (.seq (rg 2 [oP 2 (.mv vF)]) (.cn [2] .ret)))))
def qD1 (open_:List Int):Option (((List Int)) ⊕ ((List Int))) :=
 gd ((decide ((0:Int)<(open_.length:Int)))=true→qAc ((open_.length:Int) - (1:Int))) <|
 gd ((decide ((0:Int)<(open_.length:Int)))=true→0≤((open_.length:Int) - (1:Int))∧((open_.length:Int) - (1:Int))<open_.length) <|
 gd ((decide ((0:Int)<(open_.length:Int)))=true→(Int.toNat ((open_.length:Int) - (1:Int)))<open_.length) <|
 bif ((decide ((0:Int)<(open_.length:Int))) && (decide ((open_.getD (Int.toNat ((open_.length:Int) - (1:Int))) (ET.dft .i64))≤(0:Int)))) then (
  gd (qAc ((open_.length:Int) - (1:Int))) <|
  gd (0≤((open_.length:Int) - (1:Int))∧((open_.length:Int) - (1:Int))≤open_.length) <|
  some (.inl (open_.take (Int.toNat ((open_.length:Int) - (1:Int))))))
 else (
  some (.inr open_))
def zbw_p1 (open_:List Int):Option ((List Int)) :=
 qAn (fun x:((List Int))=>qD1 x) open_
def zbw_p2 (i:Int) (v:List Eng.Node) (open_:List Int):Option (Bool ⊕ ((List Int))) :=
 gd (0≤i∧i<v.length) <|
 gd ((Int.toNat i)<v.length) <|
 gd ((Int.toNat i)<v.length) <|
 gd (open_.length+([(v.getD (Int.toNat i) (ET.dft .node)).kids]:List Int).length≤9223372036854775807∧(open_.length+([(v.getD (Int.toNat i) (ET.dft .node)).kids]:List Int).length)*8≤140737488355328) <|
 bif decide ((65536:Int)<((open_++[(v.getD (Int.toNat i) (ET.dft .node)).kids]).length:Int)) then (
  some (.inl true))
 else (
  some (.inr (open_++[(v.getD (Int.toNat i) (ET.dft .node)).kids])))
def qD0 (i:Int) (v:List Eng.Node) (open_:List Int):Option ((Int × (List Int)) ⊕ (Bool ⊕ Unit)) :=
 bif decide (i<(v.length:Int)) then (
  (zbw_p1 open_).bind fun o8 =>
  bif decide ((0:Int)<(o8.length:Int)) then (
   gd (qAc ((o8.length:Int) - (1:Int))) <|
   gd (qAc ((o8.length:Int) - (1:Int))) <|
   gd (0≤((o8.length:Int) - (1:Int))∧((o8.length:Int) - (1:Int))<o8.length) <|
   gd ((Int.toNat ((o8.length:Int) - (1:Int)))<o8.length) <|
   gd (qAc ((o8.getD (Int.toNat ((o8.length:Int) - (1:Int))) (ET.dft .i64)) - (1:Int))) <|
   gd (0≤((o8.length:Int) - (1:Int))∧((o8.length:Int) - (1:Int))<o8.length) <|
   gd ((Int.toNat ((o8.length:Int) - (1:Int)))<o8.length) <|
   (zbw_p2 i v (o8.set (Int.toNat ((o8.length:Int) - (1:Int))) ((o8.getD (Int.toNat ((o8.length:Int) - (1:Int))) (ET.dft .i64)) - (1:Int)))).bind fun o9=>(Sum.elim (fun (o9_0:Bool) =>
    some (.inr (.inl o9_0))) (fun (o9_1:(List Int)) =>
    gd (qAc (i+(1:Int))) <|
    some (.inl ((i+(1:Int)),o9_1)))) o9)
  else (
   (zbw_p2 i v o8).bind fun o10=>(Sum.elim (fun (o10_0:Bool) =>
    some (.inr (.inl o10_0))) (fun (o10_1:(List Int)) =>
    gd (qAc (i+(1:Int))) <|
    some (.inl ((i+(1:Int)),o10_1)))) o10))
 else (
  some (.inr (.inr ())))
def zbw_p0 (i:Int) (v:List Eng.Node) (open_:List Int):Option (Bool ⊕ Unit) :=
 qAn (fun x:(Int × (List Int))=>qD0 x.1 v x.2) (i,open_)
def zbw_s (v:(List Eng.Node)):Option Bool :=
 (zbw_p0 (0:Int) v []).bind fun o11=>(Sum.elim (fun (o11_0:Bool) =>
  some o11_0) (fun (o11_1:Unit) =>
  some false)) o11
def zbw_G:Nat→Option CQ:=tblQ []
def zDJR1:=(qAa (qAt .node) (qAa (dRow .i64 3) dNil))
def zDJR2:=(qAa (dSO 0 (dO 0)) (qAa (dSO 3 (dO 1)) (qAa (dSO 4 dZ) dNil)))
def zbw_d1:=(dQS zDJR2 zDJR1)
def zbw_l1:SubQ:=mkL zbw_d1 (fun x=>zbw_p1 x.2.2.1) fun x r R kn kx kr=>kx 2 ⟨[sL 0 (.own 0),sL 3 (.own 1),sL 4 (.vI x.1.2.2.1)],[],[.view .node x.2.1,.row .i64 3 r]⟩
def zbw_d2:=(dQS zDJR2 zDJR1)
def zbw_l2:SubQ:=mkL zbw_d2 (fun x=>zbw_p2 x.1.2.2.1 x.2.1 x.2.2.1) fun x r R kn kx kr=>(Sum.elim (fun (r_0:Bool)=>kr ⟨[sL 2 (.vB r_0)],[],[.view .node x.2.1]⟩) (fun (r_1:(List Int))=>kn ⟨[sL 0 (.own 0),sL 3 (.own 1),sL 4 (.vI x.1.2.2.1)],[],[.view .node x.2.1,.row .i64 3 r_1]⟩)) r
def zbw_d0:=(dQS zDJR2 zDJR1)
def zbw_l0:SubQ:=mkL zbw_d0 (fun x=>zbw_p0 x.1.2.2.1 x.2.1 x.2.2.1) fun x r R kn kx kr=>(Sum.elim (fun (r_0:Bool)=>kr ⟨[sL 2 (.vB r_0)],[],[.view .node x.2.1]⟩) (fun (r_1:Unit)=>kx 0 ⟨[],[],[.view .node x.2.1]⟩)) r
def zbw_L:Nat→SubQ:=tblL [(1,zbw_l1),(2,zbw_l2),(0,zbw_l0)]
theorem zbw_sub1:qA2 zbw_L zbw_G 1 5 54 1 zbw_b1:=qAm (show zbw_L 1=zbw_l1 from by kernel_rfl) fun x R kn kx kr=>qAf (step:=fun y=>qD1 y) (enc:=fun (y:(List Int))=>zbw_d1.e (x.1,(x.2.1,y,x.2.2.2))) (fun y=>by kernel_rfl) (fun y ki=>by simp only [qD1,-eq_self,sZ]; kernel_rfl) x.2.2.1
theorem zbw_sub2:qA2 zbw_L zbw_G 1 5 54 2 zbw_b2:=qAm (show zbw_L 2=zbw_l2 from by kernel_rfl) fun x R kn kx kr=>by
 simp only [zbw_p2,-eq_self,sZ];kernel_rfl
theorem zbw_sub0:qA2 zbw_L zbw_G 1 5 54 0 zbw_b0:=qAm (show zbw_L 0=zbw_l0 from by kernel_rfl) fun x R kn kx kr=>qAf (step:=fun y=>qD0 y.1 x.2.1 y.2) (enc:=fun (y:Int × (List Int))=>zbw_d0.e ((x.1.1,x.1.2.1,y.1,x.1.2.2.2),(x.2.1,y.2,x.2.2.2))) (fun y=>by kernel_rfl) (fun y ki=>by simp only [qD0,-eq_self,sZ]; kernel_rfl) (x.1.2.2.1,x.2.2.1)
def zbw_c:CS:=mkC (qAa (dVC (dCO (dO 0))) dNil) (qAa (qAt .node) dNil) (fun x y=>zbw_s y.1) (fun x y r=>.c (.o (.vB r))) fun x y r=>[.view .node y.1]
theorem zbw_val:qAl Tryd.prog 7 zbw_c:=vl1 zbw_q [.tmp 2] 54 5 1 (show qA8 zbw_L zbw_G 1 5 54 [(0,zbw_b0),(1,zbw_b1),(2,zbw_b2)] from ⟨zbw_sub0,zbw_sub1,zbw_sub2,tV⟩) (fun f C h=>by cases h) fun x y=>by
 simp only [zbw_s,-eq_self,sZ];kernel_rfl
def zbw_w:CQ:=qBk [(0,none,some (.node,39))] (qBu [false] zbw_c)
theorem zbw_ok:qAi Tryd.prog 7 zbw_w:=qAr zbw_val
def zcb_q:IQ:=(.seq (rg 4 [oP 2 (.mv (vI 0)),oP 3 (.mv (vI 0)),oP 4 (.mv (vI 0))]) (.seq (.block 0 (.seq (rg 5 [oM 6 t0,oP 7 (.bi .lss t6 (vI 194)),oM 8 t7,oE 9 (.mv t0) 8,oE 10 (.bi .gtr t9 (vI 244)) 8,oP 11 (.pick t8 vT t10),oM 5 t11]) (.cond t5 (.seq (rg 4 [oP 2 (.mv (.v (.int .i64 (-1)))),oP 3 (.mv (vI 0)),oP 4 (.mv (vI 0))]) (.cn [2,3,4] .ret)) (.seq (rg 12 [oM 13 t0,oP 14 (.bi .lss t13 (vI 224)),oM 12 t14]) (.cond t12 (.seq (rg 4 [oP 2 (.mv (vI 1)),oP 3 (.mv (vI 128)),oP 4 (.mv (vI 191))]) (.cn [2,3,4] .ret)) (.seq (rg 15 [oM 16 t0,oP 17 (.bi .eql t16 (vI 224)),oM 15 t17]) (.cond t15 (.seq (rg 4 [oP 2 (.mv (vI 2)),oP 3 (.mv (vI 160)),oP 4 (.mv (vI 191))]) (.cn [2,3,4] .ret)) (.seq (rg 18 [oM 19 t0,oP 20 (.bi .eql t19 (vI 237)),oM 18 t20]) (.cond t18 (.seq (rg 4 [oP 2 (.mv (vI 2)),oP 3 (.mv (vI 128)),oP 4 (.mv (vI 159))]) (.cn [2,3,4] .ret)) (.seq (rg 21 [oM 22 t0,oP 23 (.bi .lss t22 (vI 240)),oM 21 t23]) (.cond t21 (.seq (rg 4 [oP 2 (.mv (vI 2)),oP 3 (.mv (vI 128)),oP 4 (.mv (vI 191))]) (.cn [2,3,4] .ret)) (.seq (rg 24 [oM 25 t0,oP 26 (.bi .eql t25 (vI 240)),oM 24 t26]) (.cond t24 (.seq (rg 4 [oP 2 (.mv (vI 3)),oP 3 (.mv (vI 144)),oP 4 (.mv (vI 191))]) (.cn [2,3,4] .ret)) (.seq (rg 27 [oM 28 t0,oP 29 (.bi .eql t28 (vI 244)),oM 27 t29]) (.cond t27 (.seq (rg 4 [oP 2 (.mv (vI 3)),oP 3 (.mv (vI 128)),oP 4 (.mv (vI 143))]) (.cn [2,3,4] .ret)) .skip))))))))))))))) (.seq (rg 4 [oP 2 (.mv (vI 3)),oP 3 (.mv (vI 128)),oP 4 (.mv (vI 191))]) (.cn [2,3,4] .ret))))
def zcb_s (c:Int):Option (Int × Int × Int) :=
 bif ((decide (c<(194:Int))) || (decide ((244:Int)<c))) then (
  some ((-1:Int),(0:Int),(0:Int)))
 else (
  bif decide (c<(224:Int)) then (
   some ((1:Int),(128:Int),(191:Int)))
  else (
   bif decide (c=(224:Int)) then (
    some ((2:Int),(160:Int),(191:Int)))
   else (
    bif decide (c=(237:Int)) then (
     some ((2:Int),(128:Int),(159:Int)))
    else (
     bif decide (c<(240:Int)) then (
      some ((2:Int),(128:Int),(191:Int)))
     else (
      bif decide (c=(240:Int)) then (
       some ((3:Int),(144:Int),(191:Int)))
      else (
       bif decide (c=(244:Int)) then (
        some ((3:Int),(128:Int),(143:Int)))
       else (
        some ((3:Int),(128:Int),(191:Int)))))))))
def zcb_c:CS:=mkC (qAa (dVC (dCO dZ)) dNil) dNil (fun x y=>zcb_s x.1) (fun x y r=>.tup [.o (.vI r.1),.o (.vI r.2.1),.o (.vI r.2.2)]) fun x y r=>[]
theorem zcb_val:qAl Tryd.prog 68 zcb_c:=vl0 zcb_q [.tmp 2,.tmp 3,.tmp 4] 30 5 0 [] trivial fun x y=>by
 simp only [zcb_s,-eq_self,sZ];kernel_rfl
def zcb_w:CQ:=qBu [] zcb_c
theorem zcb_ok:qAi Tryd.prog 68 zcb_w:=qAw zcb_val
def zcd_q:IQ:=(.seq (rg 4 [oP 4 (.alloc 100 [.int .i64 0,.slice none 0 0,.string ⟨#[]⟩,.int .i64 0,.int .i64 0])]) (.seq (rg 0 [oM 5 t0,oM 6 t1,oP 7 (.build [.int .i64 0,.slice none 0 0,.string ⟨#[]⟩,.int .i64 0,.int .i64 0] [(3,1,t5),(4,1,t6)]),oN (.store 5 t4 t7)]) (.canon [(4,some 1,.node,39)] [4] .ret)))
def zcd_s (e at_:Int):Option qG2 :=
 some (⟨(0:Int),[],(⟨#[]⟩:BA),e,at_⟩:qG2)
def zcd_c:CS:=mkC (qAa (dVC (dCO dZ)) (qAa (dVC (dCO dZ)) dNil)) dNil (fun x y=>zcd_s x.1 x.2.1) (fun x y r=>.c (.agg [.vI r.at_,.own 0,.vS r.s,.vI r.code,.vI r.bad])) fun x y r=>[.row .node 39 r.l]
theorem zcd_val:qAl Tryd.prog 69 zcd_c:=vl0 zcd_q [.cell 4 (some 5)] 8 5 0 [] trivial fun x y=>by
 simp only [zcd_s,-eq_self,sZ];kernel_rfl
def zcd_w:CQ:=qDb [] zcd_c
theorem zcd_ok:qAi Tryd.prog 69 zcd_w:=qB3 zcd_val
def zcc_q:IQ:=(.seq (rg 4 [oP 4 (.mv (vI 0))]) (.seq (.seq (rg 8 [oM 5 t1,oM 6 t0,oP 7 (.lenS t6),oP 8 (.bi .geq t5 t7)]) (.cond t8 (.seq (rg 4 [oP 4 (.mv (.v (.int .i64 (-1))))]) (.cn [4] .ret)) .skip)) (.seq (rg 4 [oM 9 t0,oM 10 t1,oP 11 (.index t9 t10),oP 12 (.conv false .i64 t11),oM 4 t12]) (.cn [4] .ret))))
def zcc_s (t:BA) (at_:Int):Option Int :=
 bif decide ((t.size:Int)≤at_) then (
  some (-1:Int))
 else (
  gd (0≤at_∧at_<t.size) <|
  gd (qAc (bAt t at_)) <|
  some (bAt t at_))
def zcc_c:CS:=mkC (qAa (dVC (dCO dS)) (qAa (dVC (dCO dZ)) dNil)) dNil (fun x y=>zcc_s x.1 x.2.1) (fun x y r=>.c (.o (.vI r))) fun x y r=>[]
theorem zcc_val:qAl Tryd.prog 70 zcc_c:=vl0 zcc_q [.tmp 4] 13 5 0 [] trivial fun x y=>by
 simp only [zcc_s,-eq_self,sZ];kernel_rfl
def zcc_w:CQ:=qBu [] zcc_c
theorem zcc_ok:qAi Tryd.prog 70 zcc_w:=qAw zcc_val
def zcf_b0:IQ:=(.loop [0,1,4,5,6,7,8] (.seq (.seq (rg 25 [oM 23 t8,oM 24 t5,oP 25 (.bi .leq t23 t24)]) (.cond t25 .skip (.cn [0,1,4,5] (.exit 0)))) (.seq (.block 1 (.seq (rg 9 [oM 28 t0,oM 29 t1,oM 30 t8,oP 31 (.bi .add t29 t30),oP 32 (.call 70 [t28,t31]),oM 9 t32]) (.seq (.seq (rg 34 [oM 33 t9,oP 34 (.bi .lss t33 (vI 0))]) (.cond t34 (.seq (rg 0 [oM 35 t0,oP 36 (.lenS t35),oP 37 (.call 69 [(vI 31),t36]),oN (.store 5 t4 t37)]) (.canon [(4,some 1,.node,39)] [4] .ret)) .skip)) (.seq (.seq (rg 45 [oM 38 t9,oM 39 t6,oP 40 (.bi .lss t38 t39),oM 41 t40,oE 42 (.mv t9) 41,oE 43 (.mv t7) 41,oE 44 (.bi .gtr t42 t43) 41,oP 45 (.pick t41 vT t44)]) (.cond t45 (.seq (rg 0 [oM 46 t1,oP 47 (.call 69 [(vI 32),t46]),oN (.store 5 t4 t47)]) (.canon [(4,some 1,.node,39)] [4] .ret)) .skip)) (.seq (rg 6 [oP 6 (.mv (vI 128))]) (rg 7 [oP 7 (.mv (vI 191))])))))) (rg 8 [oM 26 t8,oP 27 (.bi .add t26 (vI 1)),oM 8 t27]))))
def zcf_q:IQ:=(.seq (rg 4 [oP 4 (.alloc 100 [.int .i64 0,.slice none 0 0,.string ⟨#[]⟩,.int .i64 0,.int .i64 0])]) (.seq (rg 7 [oM 11 t0,oM 12 t1,oP 13 (.index t11 t12),oP 14 (.conv false .i64 t13),oP 15 (.call 68 [t14]),oM 10 t15,oP 16 (.extract t10 0),oP 17 (.extract t10 1),oP 18 (.extract t10 2),oM 5 t16,oM 6 t17,oM 7 t18]) (.seq (.seq (rg 20 [oM 19 t5,oP 20 (.bi .lss t19 (vI 0))]) (.cond t20 (.seq (rg 0 [oM 21 t1,oP 22 (.call 69 [(vI 32),t21]),oN (.store 5 t4 t22)]) (.canon [(4,some 1,.node,39)] [4] .ret)) .skip)) (.seq (.seq (rg 8 [oP 8 (.mv (vI 1))]) (.block 0 (.cn [0,1,4,5,6,7,8] (.sub 0 zcf_b0)))) (.seq (rg 0 [oM 48 t1,oM 49 t5,oP 50 (.bi .add t48 t49),oP 51 (.bi .add t50 (vI 1)),oM 52 t0,oM 53 t1,oM 54 t1,oM 55 t5,oP 56 (.bi .add t54 t55),oP 57 (.bi .add t56 (vI 1)),oP 58 (.sub none t52 (some t53) (some t57)),oP 59 (.build [.int .i64 0,.slice none 0 0,.string ⟨#[]⟩,.int .i64 0,.int .i64 0] [(0,1,t51),(2,1,t58)]),oN (.store 5 t4 t59)]) (.canon [(4,some 1,.node,39)] [4] .ret))))))
def qC0 (t:BA) (at_ n low high i:Int):Option ((Int × Int × Int) ⊕ ((Int × BA × Int × Int × (List Eng.Node)) ⊕ Unit)) :=
 bif decide (i≤n) then (
  gd (qAc (at_+i)) <|
  (zcc_s t (at_+i)).bind fun r18 =>
  bif decide (r18<(0:Int)) then (
   (zcd_s (31:Int) (t.size:Int)).bind fun r19 =>
   some (.inr (.inl (r19.at_,r19.s,r19.code,r19.bad,r19.l))))
  else (
   bif ((decide (r18<low)) || (decide (high<r18))) then (
    (zcd_s (32:Int) at_).bind fun r20 =>
    some (.inr (.inl (r20.at_,r20.s,r20.code,r20.bad,r20.l))))
   else (
    gd (qAc (i+(1:Int))) <|
    some (.inl ((128:Int),(191:Int),(i+(1:Int)))))))
 else (
  some (.inr (.inr ())))
def zcf_p0 (t:BA) (at_ n low high i:Int):Option ((Int × BA × Int × Int × (List Eng.Node)) ⊕ Unit) :=
 qAn (fun x:(Int × Int × Int)=>qC0 t at_ n x.1 x.2.1 x.2.2) (low,high,i)
def zcf_s (t:BA) (at_:Int):Option qG2 :=
 gd (0≤at_∧at_<t.size) <|
 gd (qAc (bAt t at_)) <|
 (zcb_s (bAt t at_)).bind fun r16 =>
 bif decide (r16.1<(0:Int)) then (
  (zcd_s (32:Int) at_).bind fun r17 =>
  some r17)
 else (
  (zcf_p0 t at_ r16.1 r16.2.1 r16.2.2 (1:Int)).bind fun o21=>(Sum.elim (fun (o21_0:Int × BA × Int × Int × (List Eng.Node)) =>
   some (⟨o21_0.1,o21_0.2.2.2.2,o21_0.2.1,o21_0.2.2.1,o21_0.2.2.2.1⟩:qG2)) (fun (o21_1:Unit) =>
   gd (qAc (at_+r16.1)) <|
   gd (qAc ((at_+r16.1)+(1:Int))) <|
   gd (qAc (at_+r16.1)) <|
   gd (qAc ((at_+r16.1)+(1:Int))) <|
   gd (0≤at_∧at_≤((at_+r16.1)+(1:Int))∧((at_+r16.1)+(1:Int))≤t.size) <|
   some (⟨((at_+r16.1)+(1:Int)),[],(t.extract (Int.toNat at_) (Int.toNat ((at_+r16.1)+(1:Int)))),(0:Int),(0:Int)⟩:qG2))) o21)
def zcf_G:Nat→Option CQ:=tblQ [(68,zcb_w),(69,zcd_w),(70,zcc_w)]
def zcf_d0:=(dQS (qAa (dSO 0 dS) (qAa (dSO 1 dZ) (qAa (dSO 4 (dH 0 0)) (qAa (dSO 5 dZ) (qAa (dSO 6 dZ) (qAa (dSO 7 dZ) (qAa (dSO 8 dZ) dNil))))))) (qAa (qAy 100 (qAa dZ (qAa dNS (qAa dS (qAa dZ (qAa dZ dNil)))))) dNil))
def zcf_l0:SubQ:=mkL zcf_d0 (fun x=>zcf_p0 x.1.1 x.1.2.1 x.1.2.2.2.1 x.1.2.2.2.2.1 x.1.2.2.2.2.2.1 x.1.2.2.2.2.2.2.1) fun x r R kn kx kr=>(Sum.elim (fun (r_0:Int × BA × Int × Int × (List Eng.Node))=>kr ⟨[sL 4 (.hd 0 0)],[],[.cells 100 [.vI r_0.1,.own 1,.vS r_0.2.1,.vI r_0.2.2.1,.vI r_0.2.2.2.1],.row .node 39 r_0.2.2.2.2]⟩) (fun (r_1:Unit)=>kx 0 ⟨[sL 0 (.vS x.1.1),sL 1 (.vI x.1.2.1),sL 4 (.hd 0 0),sL 5 (.vI x.1.2.2.2.1)],[],[.cells 100 [.vI x.2.1.1,.val (.slice none 0 0),.vS x.2.1.2.2.1,.vI x.2.1.2.2.2.1,.vI x.2.1.2.2.2.2.1]]⟩)) r
def zcf_L:Nat→SubQ:=tblL [(0,zcf_l0)]
theorem zcf_sub0:qA2 zcf_L zcf_G 0 10 60 0 zcf_b0:=qAm (show zcf_L 0=zcf_l0 from by kernel_rfl) fun x R kn kx kr=>qAf (step:=fun y=>qC0 x.1.1 x.1.2.1 x.1.2.2.2.1 y.1 y.2.1 y.2.2) (enc:=fun (y:Int × Int × Int)=>zcf_d0.e ((x.1.1,x.1.2.1,x.1.2.2.1,x.1.2.2.2.1,y.1,y.2.1,y.2.2,x.1.2.2.2.2.2.2.2),x.2)) (fun y=>by kernel_rfl) (fun y ki=>by simp only [qC0,-eq_self,sZ]; kernel_rfl) (x.1.2.2.2.2.1,x.1.2.2.2.2.2.1,x.1.2.2.2.2.2.2.1)
def zcf_c:CS:=mkC (qAa (dVC (dCO dS)) (qAa (dVC (dCO dZ)) dNil)) dNil (fun x y=>zcf_s x.1 x.2.1) (fun x y r=>.c (.agg [.vI r.at_,.own 0,.vS r.s,.vI r.code,.vI r.bad])) fun x y r=>[.row .node 39 r.l]
theorem zcf_val:qAl Tryd.prog 63 zcf_c:=vl1 zcf_q [.cell 4 (some 5)] 60 10 0 (show qA8 zcf_L zcf_G 0 10 60 [(0,zcf_b0)] from ⟨zcf_sub0,tV⟩) (qAs ⟨zcb_ok,zcd_ok,zcc_ok,tV⟩) fun x y=>by
 simp only [zcf_s,-eq_self,sZ];kernel_rfl
def zcf_w:CQ:=qDb [] zcf_c
theorem zcf_ok:qAi Tryd.prog 63 zcf_w:=qB3 zcf_val
def zch_b0:IQ:=(.loop [0,3] (.seq (.seq (rg 8 [oM 5 t3,oM 6 t0,oP 7 (.lenS t6),oP 8 (.bi .lss t5 t7)]) (.cond t8 .skip (.cn [] (.exit 0)))) (.block 1 (.seq (.seq (rg 12 [oM 9 t0,oM 10 t3,oP 11 (.index t9 t10),oP 12 (.bi .lss t11 (vC 128))]) (.cond t12 (.seq (rg 3 [oM 13 t3,oP 14 (.bi .add t13 (vI 1)),oM 3 t14]) (.exit 1)) .skip)) (.seq (rg 0 [oM 15 t0,oM 16 t3,oP 17 (.call 63 [t15,t16]),oP 4 (.alloc 100 [.int .i64 0,.slice none 0 0,.string ⟨#[]⟩,.int .i64 0,.int .i64 0]),oN (.store 5 t4 t17)]) (.seq (.seq (rg 20 [oP 18 (.faddr 3 t4),oP 19 (.load none t18),oP 20 (.bi .neq t19 (vI 0))]) (.cond t20 (.seq (rg 2 [oP 2 (.mv vF)]) (.cn [2] .ret)) .skip)) (rg 3 [oP 21 (.faddr 0 t4),oP 22 (.load none t21),oM 3 t22])))))))
def zch_q:IQ:=(.seq (rg 2 [oP 2 (.mv vF)]) (.seq (rg 3 [oP 3 (.mv (vI 0))]) (.seq (.block 0 (.cn [0,3] (.sub 0 zch_b0))) (.seq (rg 2 [oP 2 (.mv vT)]) (.cn [2] .ret)))))
def qC1 (s:BA) (at_:Int):Option (Int ⊕ (Bool ⊕ Unit)) :=
 bif decide (at_<(s.size:Int)) then (
  gd (0≤at_∧at_<s.size) <|
  bif decide ((bAt s at_)<(128:Int)) then (
   gd (qAc (at_+(1:Int))) <|
   some (.inl (at_+(1:Int))))
  else (
   (zcf_s s at_).bind fun r1 =>
   bif (!decide (r1.code=(0:Int))) then (
    some (.inr (.inl false)))
   else (
    some (.inl r1.at_))))
 else (
  some (.inr (.inr ())))
def zch_p0 (s:BA) (at_:Int):Option (Bool ⊕ Unit) :=
 qAn (fun x:Int=>qC1 s x) at_
def zch_s (s:BA):Option Bool :=
 (zch_p0 s (0:Int)).bind fun o2=>(Sum.elim (fun (o2_0:Bool) =>
  some o2_0) (fun (o2_1:Unit) =>
  some true)) o2
def zch_G:Nat→Option CQ:=tblQ [(63,zcf_w)]
def zch_d0:=(dQS (qAa (dSO 0 dS) (qAa (dSO 3 dZ) dNil)) dNil)
def zch_l0:SubQ:=mkL zch_d0 (fun x=>zch_p0 x.1.1 x.1.2.1) fun x r R kn kx kr=>(Sum.elim (fun (r_0:Bool)=>kr ⟨[sL 2 (.vB r_0)],[],[]⟩) (fun (r_1:Unit)=>kx 0 ⟨[],[],[]⟩)) r
def zch_L:Nat→SubQ:=tblL [(0,zch_l0)]
theorem zch_sub0:qA2 zch_L zch_G 0 5 23 0 zch_b0:=qAm (show zch_L 0=zch_l0 from by kernel_rfl) fun x R kn kx kr=>qAf (step:=fun y=>qC1 x.1.1 y) (enc:=fun (y:Int)=>zch_d0.e ((x.1.1,y,x.1.2.2),x.2)) (fun y=>by kernel_rfl) (fun y ki=>by simp only [qC1,-eq_self,sZ]; kernel_rfl) x.1.2.1
def zch_c:CS:=mkC (qAa (dVC (dCO dS)) dNil) dNil (fun x y=>zch_s x.1) (fun x y r=>.c (.o (.vB r))) fun x y r=>[]
theorem zch_val:qAl Tryd.prog 48 zch_c:=vl1 zch_q [.tmp 2] 23 5 0 (show qA8 zch_L zch_G 0 5 23 [(0,zch_b0)] from ⟨zch_sub0,tV⟩) (qAs ⟨zcf_ok,tV⟩) fun x y=>by
 simp only [zch_s,-eq_self,sZ];kernel_rfl
def zch_w:CQ:=qBu [] zch_c
theorem zch_ok:qAi Tryd.prog 48 zch_w:=qAw zch_val
def zce_q:IQ:=(.seq (rg 2 [oP 1 (.box 39 6 t0),oP 2 (.mv vF)]) (.seq (rg 3 [oP 8 (.faddr 0 t1),oP 9 (.load none t8),oM 3 t9]) (.seq (.seq (rg 29 [oM 10 t3,oP 11 (.bi .lss t10 (vI 1)),oM 12 t11,oE 13 (.mv t3) 12,oE 14 (.bi .gtr t13 (vI 7)) 12,oP 15 (.pick t12 vT t14),oM 16 t15,oE 17 (.faddr 5 t1) 16,oE 18 (.load none t17) 16,oE 19 (.bi .lss t18 (vI 0)) 16,oP 20 (.pick t16 vT t19),oM 21 t20,oE 22 (.faddr 5 t1) 21,oE 23 (.load none t22) 21,oE 24 (.bi .gtr t23 (vI 0)) 21,oE 25 (.mv t24) 21,oF 26 (.mv t3) 25,oF 27 (.bi .lss t26 (vI 6)) 25,oE 28 (.pick t25 t27 vF) 21,oP 29 (.pick t21 vT t28)]) (.cond t29 (.seq (rg 2 [oP 2 (.mv vF)]) (.cn [2] .ret)) .skip)) (.seq (rg 5 [oP 31 (.faddr 2 t1),oP 32 (.load none t31),oP 33 (.call 61 [t32]),oM 30 t33,oP 34 (.extract t30 0),oP 35 (.extract t30 1),oM 4 t34,oM 5 t35]) (.seq (rg 6 [oP 36 (.faddr 2 t1),oP 37 (.load none t36),oP 38 (.call 62 [t37]),oM 6 t38]) (.seq (rg 7 [oP 39 (.faddr 2 t1),oP 40 (.load none t39),oP 41 (.call 48 [t40]),oM 7 t41]) (.seq (.block 0 (.seq (rg 42 [oM 43 t3,oP 44 (.bi .eql t43 (vI 4)),oM 42 t44]) (.cond t42 (.seq (rg 2 [oM 45 t6,oM 46 t45,oF 47 (.mv t5) 46,oF 48 (.faddr 3 t1) 46,oF 49 (.load none t48) 46,oF 50 (.beq false t47 t49) 46,oP 51 (.pick t46 t50 vF),oM 52 t51,oF 53 (.mv t4) 52,oF 54 (.faddr 4 t1) 52,oF 55 (.load none t54) 52,oF 56 (.bi .eql t53 t55) 52,oP 57 (.pick t52 t56 vF),oM 2 t57]) (.cn [2] .ret)) (.seq (rg 58 [oP 59 (.faddr 3 t1),oP 60 (.load none t59),oM 61 t60,oE 62 (.faddr 4 t1) 61,oE 63 (.load none t62) 61,oE 64 (.bi .neq t63 (vI 0)) 61,oP 65 (.pick t61 vT t64),oM 58 t65]) (.cond t58 (.seq (rg 2 [oP 2 (.mv vF)]) (.cn [2] .ret)) (.seq (rg 66 [oM 67 t3,oP 68 (.bi .eql t67 (vI 5)),oM 66 t68]) (.cond t66 (.seq (rg 2 [oM 69 t7,oM 2 t69]) (.cn [2] .ret)) .skip))))))) (.seq (rg 2 [oP 70 (.faddr 2 t1),oP 71 (.load none t70),oP 72 (.bi .eql t71 (.v (.string ⟨#[]⟩))),oM 2 t72]) (.cn [2] .ret)))))))))
def zce_s (n:Eng.Node):Option Bool :=
 bif ((((decide (n.kind<(1:Int))) || (decide ((7:Int)<n.kind))) || (decide (n.kids<(0:Int)))) || ((decide ((0:Int)<n.kids)) && (decide (n.kind<(6:Int))))) then (
  some false)
 else (
  (zbs_s n.text).bind fun r1 =>
  (zbr_s n.text).bind fun r2 =>
  (zch_s n.text).bind fun r3 =>
  bif decide (n.kind=(4:Int)) then (
   some ((r2 && (r1.2 == n.whole)) && (decide (r1.1=n.int))))
  else (
   bif (n.whole || (!decide (n.int=(0:Int)))) then (
    some false)
   else (
    bif decide (n.kind=(5:Int)) then (
     some r3)
    else (
     some (decide (n.text=(⟨#[]⟩:BA)))))))
def zce_c:CS:=mkC (qAa (dVC (dCA (qAa dZ (qAa dS (qAa dS (qAa dB (qAa dZ (qAa dZ dNil)))))))) dNil) dNil (fun x y=>zce_s (⟨x.1.1,x.1.2.1,x.1.2.2.1,x.1.2.2.2.1,x.1.2.2.2.2.1,x.1.2.2.2.2.2.1⟩:Eng.Node)) (fun x y r=>.c (.o (.vB r))) fun x y r=>[]
theorem zce_val:qAl Tryd.prog 47 zce_c:=vl0 zce_q [.tmp 2] 73 8 0 [(61,zbs_w),(62,zbr_w),(48,zch_w)] ⟨zbs_ok,zbr_ok,zch_ok,tV⟩ fun x y=>by
 simp only [zce_s,-eq_self,sZ];kernel_rfl
def zce_w:CQ:=qBu [] zce_c
theorem zce_ok:qAi Tryd.prog 47 zce_w:=qAw zce_val
def zca_b0:IQ:=(.loop [0,1,5] (.seq (.seq (rg 9 [oM 6 t5,oM 7 t0,oP 8 (.len t7),oP 9 (.bi .lss t6 t8)]) (.cond t9 .skip (.cn [] (.exit 0)))) (.seq (.block 1 (.seq (rg 17 [oM 12 t0,oM 13 t5,oP 14 (.iaddr 1 t12 t13),oP 15 (.load none t14),oM 16 t1,oP 17 (.bi .eql t15 t16)]) (.cond t17 (.seq (rg 4 [oP 4 (.mv vT)]) (.cn [4] .ret)) .skip))) (rg 5 [oM 10 t5,oP 11 (.bi .add t10 (vI 1)),oM 5 t11]))))
def zca_q:IQ:=(.seq (rg 4 [oP 4 (.mv vF)]) (.seq (.seq (rg 5 [oP 5 (.mv (vI 0))]) (.block 0 (.cn [0,1,5] (.sub 0 zca_b0)))) (.seq (rg 4 [oP 4 (.mv vF)]) (.cn [4] .ret))))
def qD3 (s:BA) (i:Int) (l:List BA):Option (Int ⊕ (Bool ⊕ Unit)) :=
 bif decide (i<(l.length:Int)) then (
  gd (0≤i∧i<l.length) <|
  gd ((Int.toNat i)<l.length) <|
  bif decide ((l.getD (Int.toNat i) (ET.dft .str))=s) then (
   some (.inr (.inl true)))
  else (
   gd (qAc (i+(1:Int))) <|
   some (.inl (i+(1:Int)))))
 else (
  some (.inr (.inr ())))
def zca_p0 (s:BA) (i:Int) (l:List BA):Option (Bool ⊕ Unit) :=
 qAn (fun x:Int=>qD3 s x l) i
def zca_s (l:(List BA)) (s:BA):Option Bool :=
 (zca_p0 s (0:Int) l).bind fun o1=>(Sum.elim (fun (o1_0:Bool) =>
  some o1_0) (fun (o1_1:Unit) =>
  some false)) o1
def zca_G:Nat→Option CQ:=tblQ []
def zca_d0:=(dQS (qAa (dSO 0 (dO 0)) (qAa (dSO 1 dS) (qAa (dSO 5 dZ) dNil))) (qAa (qAt .str) dNil))
def zca_l0:SubQ:=mkL zca_d0 (fun x=>zca_p0 x.1.2.1 x.1.2.2.1 x.2.1) fun x r R kn kx kr=>(Sum.elim (fun (r_0:Bool)=>kr ⟨[sL 4 (.vB r_0)],[],[.view .str x.2.1]⟩) (fun (r_1:Unit)=>kx 0 ⟨[],[],[.view .str x.2.1]⟩)) r
def zca_L:Nat→SubQ:=tblL [(0,zca_l0)]
theorem zca_sub0:qA2 zca_L zca_G 1 6 18 0 zca_b0:=qAm (show zca_L 0=zca_l0 from by kernel_rfl) fun x R kn kx kr=>qAf (step:=fun y=>qD3 x.1.2.1 y x.2.1) (enc:=fun (y:Int)=>zca_d0.e ((x.1.1,x.1.2.1,y,x.1.2.2.2),x.2)) (fun y=>by kernel_rfl) (fun y ki=>by simp only [qD3,-eq_self,sZ]; kernel_rfl) x.1.2.2.1
def zca_c:CS:=mkC (qAa (dVC (dCO (dO 0))) (qAa (dVC (dCO dS)) dNil)) (qAa (qAt .str) dNil) (fun x y=>zca_s y.1 x.2.1) (fun x y r=>.c (.o (.vB r))) fun x y r=>[.view .str y.1]
theorem zca_val:qAl Tryd.prog 49 zca_c:=vl1 zca_q [.tmp 4] 18 6 1 (show qA8 zca_L zca_G 1 6 18 [(0,zca_b0)] from ⟨zca_sub0,tV⟩) (fun f C h=>by cases h) fun x y=>by
 simp only [zca_s,-eq_self,sZ];kernel_rfl
def zca_w:CQ:=qBk [(0,none,some (.str,9))] (qBu [false] zca_c)
theorem zca_ok:qAi Tryd.prog 49 zca_w:=qAr zca_val
def zcg_da:=(qAa (dVC (dCO (dO 0))) (qAa (dVC (dCO dZ)) (qAa (dVC (dCO dB)) (qAa (dVC (dCO dZ)) dNil))))
def zcg_db:=(qAa (qAt .node) dNil)
def zcg_cs (self:(List Eng.Node)→Int→Bool→Int→Option Int):CS:=mkC zcg_da zcg_db (fun x y=>self y.1 x.2.1 x.2.2.1 x.2.2.2.1) (fun x y r=>.c (.o (.vI r))) fun x y r=>[.view .node y.1]
def zcg_ws (self:(List Eng.Node)→Int→Bool→Int→Option Int):CQ:=qBk [(0,none,some (.node,39))] (qBu [false] (zcg_cs self))
def zcg_b0:IQ:=(.loop [0,3,9,12,13,14] (.seq (.seq (rg 58 [oM 55 t14,oP 56 (.faddr 5 t9),oP 57 (.load none t56),oP 58 (.bi .lss t55 t57)]) (.cond t58 .skip (.cn [12] (.exit 0)))) (.seq (.block 1 (.seq (rg 15 [oM 61 t12,oM 15 t61]) (.seq (rg 12 [oM 62 t0,oM 63 t15,oP 64 (.faddr 0 t9),oP 65 (.load none t64),oP 66 (.bi .eql t65 (vI 7)),oM 67 t3,oP 68 (.bi .add t67 (vI 1)),oP 69 (.call 29 [t62,t63,t66,t68]),oM 12 t69]) (.seq (.seq (rg 85 [oM 70 t12,oP 71 (.bi .lss t70 (vI 0)),oM 72 t71,oE 73 (.faddr 0 t9) 72,oE 74 (.load none t73) 72,oE 75 (.bi .eql t74 (vI 7)) 72,oE 76 (.mv t75) 72,oF 77 (.mv t13) 76,oF 78 (.mv t0) 76,oF 79 (.mv t15) 76,oF 80 (.iaddr 6 t78 t79) 76,oF 81 (.faddr 1 t80) 76,oF 82 (.load none t81) 76,oF 83 (.call 49 [t77,t82]) 76,oE 84 (.pick t76 t83 vF) 72,oP 85 (.pick t72 vT t84)]) (.cond t85 (.seq (rg 8 [oP 8 (.mv (.v (.int .i64 (-1))))]) (.cn [8] .ret)) .skip)) (rg 13 [oM 86 t13,oM 87 t0,oM 88 t15,oP 89 (.iaddr 6 t87 t88),oP 90 (.faddr 1 t89),oP 91 (.load none t90),oP 92 (.bslice 9 1 1 [.string ⟨#[]⟩] [(0,t91)]),oP 93 (.append 9 1 16 [.string ⟨#[]⟩] t86 t92),oM 13 t93]))))) (rg 14 [oM 59 t14,oP 60 (.bi .add t59 (vI 1)),oM 14 t60]))))
def zcg_q:IQ:=(.seq (rg 8 [oP 8 (.mv (vI 0))]) (.seq (.seq (rg 19 [oM 16 t1,oM 17 t0,oP 18 (.len t17),oP 19 (.bi .geq t16 t18)]) (.cond t19 (.seq (rg 8 [oP 8 (.mv (.v (.int .i64 (-1))))]) (.cn [8] .ret)) .skip)) (.seq (rg 0 [oM 20 t0,oM 21 t1,oP 22 (.iaddr 6 t20 t21),oP 23 (.load (some 6) t22),oP 9 (.alloc 39 [.int .i64 0,.string ⟨#[]⟩,.string ⟨#[]⟩,.bool false,.int .i64 0,.int .i64 0]),oN (.store 6 t9 t23)]) (.seq (rg 10 [oP 24 (.load (some 6) t9),oP 25 (.call 47 [t24]),oM 10 t25]) (.seq (rg 11 [oP 26 (.faddr 1 t9),oP 27 (.load none t26),oP 28 (.call 48 [t27]),oM 11 t28]) (.seq (.seq (rg 52 [oM 29 t10,oP 30 (.un .not t29),oM 31 t30,oE 32 (.mv t11) 31,oE 33 (.un .not t32) 31,oP 34 (.pick t31 vT t33),oM 35 t34,oE 36 (.mv t2) 35,oE 37 (.un .not t36) 35,oE 38 (.mv t37) 35,oF 39 (.faddr 1 t9) 38,oF 40 (.load none t39) 38,oF 41 (.bi .neq t40 (.v (.string ⟨#[]⟩))) 38,oE 42 (.pick t38 t41 vF) 35,oP 43 (.pick t35 vT t42),oM 44 t43,oE 45 (.faddr 0 t9) 44,oE 46 (.load none t45) 44,oE 47 (.bi .geq t46 (vI 6)) 44,oE 48 (.mv t47) 44,oF 49 (.mv t3) 48,oF 50 (.bi .eql t49 (vI 32)) 48,oE 51 (.pick t48 t50 vF) 44,oP 52 (.pick t44 vT t51)]) (.cond t52 (.seq (rg 8 [oP 8 (.mv (.v (.int .i64 (-1))))]) (.cn [8] .ret)) .skip)) (.seq (rg 12 [oM 53 t1,oP 54 (.bi .add t53 (vI 1)),oM 12 t54]) (.seq (rg 13 [oP 13 (.mv (.v (.slice none 0 0)))]) (.seq (.seq (rg 14 [oP 14 (.mv (vI 0))]) (.block 0 (.canon [(13,none,.str,9)] [0,3,9,12,13,14] (.sub 0 zcg_b0)))) (.seq (rg 8 [oM 94 t12,oM 8 t94]) (.cn [8] .ret)))))))))))
theorem zcg_chk:chk Tryd.prog 29 []=some (zcg_q.erase,[.tmp 8],95):=by kernel_rfl
def qBw (self:(List Eng.Node)→Int→Bool→Int→Option Int) (open_ next i:Int) (v:List Eng.Node) (qG9 qHz:Int) (names:List BA):Option ((Int × Int × (List BA)) ⊕ (Int ⊕ Int)) :=
 bif decide (i<qHz) then (
  gd (qAc (open_+(1:Int))) <|
  (self v next (decide (qG9=(7:Int))) (open_+(1:Int))).bind fun r19 =>
  gd ((decide (qG9=(7:Int)))=true→(decide (r19<(0:Int)))=false→0≤next∧next<v.length) <|
  gd ((decide (qG9=(7:Int)))=true→(decide (r19<(0:Int)))=false→(Int.toNat next)<v.length) <|
  gd ((decide (qG9=(7:Int)))=true→(decide (r19<(0:Int)))=false→(Int.toNat next)<v.length) <|
  bif decide (r19<(0:Int)) then (
   some (.inr (.inl (-1:Int))))
  else (
   bif decide (qG9=(7:Int)) then (
    (zca_s names ((v.getD (Int.toNat next) (ET.dft .node)).key)).bind fun r20 =>
    bif r20 then (
     some (.inr (.inl (-1:Int))))
    else (
     gd (0≤next∧next<v.length) <|
     gd ((Int.toNat next)<v.length) <|
     gd ((Int.toNat next)<v.length) <|
     gd (names.length+([(v.getD (Int.toNat next) (ET.dft .node)).key]:List BA).length≤9223372036854775807∧(names.length+([(v.getD (Int.toNat next) (ET.dft .node)).key]:List BA).length)*16≤140737488355328) <|
     gd (qAc (i+(1:Int))) <|
     some (.inl (r19,(i+(1:Int)),(names++[(v.getD (Int.toNat next) (ET.dft .node)).key])))))
   else (
    gd (0≤next∧next<v.length) <|
    gd ((Int.toNat next)<v.length) <|
    gd ((Int.toNat next)<v.length) <|
    gd (names.length+([(v.getD (Int.toNat next) (ET.dft .node)).key]:List BA).length≤9223372036854775807∧(names.length+([(v.getD (Int.toNat next) (ET.dft .node)).key]:List BA).length)*16≤140737488355328) <|
    gd (qAc (i+(1:Int))) <|
    some (.inl (r19,(i+(1:Int)),(names++[(v.getD (Int.toNat next) (ET.dft .node)).key]))))))
 else (
  some (.inr (.inr next)))
def zcg_p0 (self:(List Eng.Node)→Int→Bool→Int→Option Int) (open_ next i:Int) (v:List Eng.Node) (qG9 qHz:Int) (names:List BA):Option (Int ⊕ Int) :=
 qAn (fun x:(Int × Int × (List BA))=>qBw self open_ x.1 x.2.1 v qG9 qHz x.2.2) (next,i,names)
def zcg_t (self:(List Eng.Node)→Int→Bool→Int→Option Int) (v:(List Eng.Node)) (at_:Int) (object:Bool) (open_:Int):Option Int :=
 bif decide ((v.length:Int)≤at_) then (
  some (-1:Int))
 else (
  gd (0≤at_∧at_<v.length) <|
  gd ((Int.toNat at_)<v.length) <|
  (zce_s (v.getD (Int.toNat at_) (ET.dft .node))).bind fun r17 =>
  (zch_s ((v.getD (Int.toNat at_) (ET.dft .node)).key)).bind fun r18 =>
  bif ((((!r17) || (!r18)) || ((!object) && (!decide (((v.getD (Int.toNat at_) (ET.dft .node)).key)=(⟨#[]⟩:BA))))) || ((decide ((6:Int)≤((v.getD (Int.toNat at_) (ET.dft .node)).kind))) && (decide (open_=(32:Int))))) then (
   some (-1:Int))
  else (
   gd (qAc (at_+(1:Int))) <|
   (zcg_p0 self open_ (at_+(1:Int)) (0:Int) v ((v.getD (Int.toNat at_) (ET.dft .node)).kind) ((v.getD (Int.toNat at_) (ET.dft .node)).kids) []).bind fun o21=>(Sum.elim (fun (o21_0:Int) =>
    some o21_0) (fun (o21_1:Int) =>
    some o21_1)) o21))
def zcg_G (self:(List Eng.Node)→Int→Bool→Int→Option Int):Nat→Option CQ:=tblQ [(47,zce_w),(48,zch_w),(29,zcg_ws self),(49,zca_w)]
theorem zcg_Gok (self:(List Eng.Node)→Int→Bool→Int→Option Int) (hself:qAi Tryd.prog 29 (zcg_ws self)):∀f C,(zcg_G self) f=some C→qAi Tryd.prog f C:=qAs ⟨zce_ok,zch_ok,hself,zca_ok,tV⟩
def zcg_d0:=(dQS (qAa (dSO 0 (dO 0)) (qAa (dSO 3 dZ) (qAa (dSO 9 (dH 1 0)) (qAa (dSO 12 dZ) (qAa (dSO 13 (dO 2)) (qAa (dSO 14 dZ) dNil)))))) (qAa (qAt .node) (qAa (qAy 39 (qAa dZ (qAa dS (qAa dS (qAa dB (qAa dZ (qAa dZ dNil))))))) (qAa (dRow .str 9) dNil))))
def zcg_l0 (self:(List Eng.Node)→Int→Bool→Int→Option Int):SubQ:=mkL zcg_d0 (fun x=>zcg_p0 self x.1.2.1 x.1.2.2.2.1 x.1.2.2.2.2.2.1 x.2.1 x.2.2.1.1 x.2.2.1.2.2.2.2.2.1 x.2.2.2.1) fun x r R kn kx kr=>(Sum.elim (fun (r_0:Int)=>kr ⟨[sL 8 (.vI r_0)],[],[.view .node x.2.1]⟩) (fun (r_1:Int)=>kx 0 ⟨[sL 12 (.vI r_1)],[],[.view .node x.2.1]⟩)) r
def zcg_L (self:(List Eng.Node)→Int→Bool→Int→Option Int):Nat→SubQ:=tblL [(0,zcg_l0 self)]
theorem zcg_sub0 (self:(List Eng.Node)→Int→Bool→Int→Option Int):qA2 (zcg_L self) (zcg_G self) 1 16 95 0 zcg_b0:=qAm (show (zcg_L self) 0=(zcg_l0 self) from by kernel_rfl) fun x R kn kx kr=>qAf (step:=fun y=>qBw self x.1.2.1 y.1 y.2.1 x.2.1 x.2.2.1.1 x.2.2.1.2.2.2.2.2.1 y.2.2) (enc:=fun (y:Int × Int × (List BA))=>zcg_d0.e ((x.1.1,x.1.2.1,x.1.2.2.1,y.1,x.1.2.2.2.2.1,y.2.1,x.1.2.2.2.2.2.2),(x.2.1,x.2.2.1,y.2.2,x.2.2.2.2))) (fun y=>by kernel_rfl) (fun y ki=>by simp only [qBw,-eq_self,sZ]; kernel_rfl) (x.1.2.2.2.1,x.1.2.2.2.2.2.1,x.2.2.2.1)
theorem zcg_subs (self:(List Eng.Node)→Int→Bool→Int→Option Int):qDh (zcg_L self) (zcg_G self) 1 16 95 zcg_q:=qDi (show qA8 (zcg_L self) (zcg_G self) 1 16 95 [(0,zcg_b0)] from ⟨(zcg_sub0 self),tV⟩)
theorem zcg_val_t (self:(List Eng.Node)→Int→Bool→Int→Option Int) (hself:qAi Tryd.prog 29 (zcg_ws self)):qAl Tryd.prog 29 (zcg_cs (zcg_t self)):=val_okC zcg_chk 16 (zcg_Gok self hself) 1 (fun x=>Nat.le_of_ble_eq_true rfl) (fun y=>rfl) (zcg_subs self) fun x y=>by
 simp only [zcg_t,-eq_self,sZ];kernel_rfl
def zcg_n:Nat→(List Eng.Node)→Int→Bool→Int→Option Int
 | 0=>fun _ _ _ _=>none
 | n+1=>zcg_t (zcg_n n)
def zcg_s (v:(List Eng.Node)) (at_:Int) (object:Bool) (open_:Int):Option Int:=evt fun n=>zcg_n n v at_ object open_
theorem zcg_valn:∀n,qAl Tryd.prog 29 (zcg_cs (zcg_n n))
 | 0=>qAl.zero fun args hp R k=>by
  show ((Dec.d zcg_da args).bind fun x=>(Dec.d zcg_db hp).bind fun y=>none)=none;cases Dec.d zcg_da args with
  | none=>rfl
  | some x=>cases Dec.d zcg_db hp <;> rfl
 | n+1=>zcg_val_t (zcg_n n) (qAr (zcg_valn n))
theorem zcg_val:qAl Tryd.prog 29 (zcg_cs zcg_s):=qAl.evt zcg_valn (fun args hp R k=>by
  show ((Dec.d zcg_da args).bind fun x=>(Dec.d zcg_db hp).bind fun y=>_)=(((Dec.d zcg_da args).bind fun x=>(Dec.d zcg_db hp).bind fun y=>_):Option (SV × List SB)).bind _;cases Dec.d zcg_da args with
  | none=>rfl
  | some x =>
   cases Dec.d zcg_db hp with
   | none=>rfl
   | some y=>simp only [obS,Option.bind_assoc]) fun args hp v hp' h=>by
  obtain ⟨x,h1,h2⟩:=Option.bind_eq_some_iff.1 h;obtain ⟨y,h3,h4⟩:=Option.bind_eq_some_iff.1 h2;obtain ⟨r,h5,h6⟩:=Option.bind_eq_some_iff.1 h4;obtain ⟨n,h7⟩:=evt_some h5;refine ⟨n,?_⟩;show ((Dec.d zcg_da args).bind fun x=>(Dec.d zcg_db hp).bind fun y=>_)=_;rw [h1];simp only [obS];rw [h3];simp only [obS];exact (congrArg (fun z=>Option.bind z _) h7).trans h6
def zcg_w:CQ:=zcg_ws zcg_s
theorem zcg_ok:qAi Tryd.prog 29 zcg_w:=qAr zcg_val
def zbz_q:IQ:=(.seq (rg 2 [oP 2 (.mv vF)]) (.seq (rg 2 [oM 3 t0,oP 4 (.len t3),oP 5 (.bi .gtr t4 (vI 0)),oM 6 t5,oF 7 (.mv t0) 6,oF 8 (.call 29 [t7,(vI 0),vF,(vI 0)]) 6,oF 9 (.mv t0) 6,oF 10 (.len t9) 6,oF 11 (.bi .eql t8 t10) 6,oP 12 (.pick t6 t11 vF),oM 2 t12]) (.cn [2] .ret)))
def zbz_s (v:(List Eng.Node)):Option Bool :=
 bif decide ((0:Int)<(v.length:Int)) then (
  (zcg_s v (0:Int) false (0:Int)).bind fun r1 =>
  some (decide (r1=(v.length:Int))))
 else (
  some false)
def zbz_c:CS:=mkC (qAa (dVC (dCO (dO 0))) dNil) (qAa (qAt .node) dNil) (fun x y=>zbz_s y.1) (fun x y r=>.c (.o (.vB r))) fun x y r=>[.view .node y.1]
theorem zbz_val:qAl Tryd.prog 12 zbz_c:=vl0 zbz_q [.tmp 2] 13 3 1 [(29,zcg_w)] ⟨zcg_ok,tV⟩ fun x y=>by
 simp only [zbz_s,-eq_self,sZ];kernel_rfl
def zbz_w:CQ:=qBk [(0,none,some (.node,39))] (qBu [false] zbz_c)
theorem zbz_ok:qAi Tryd.prog 12 zbz_w:=qAr zbz_val
def zbv_da:=(qAa (dVC (dCO (dO 0))) (qAa (dVC (dCO dZ)) dNil))
def zbv_db:=(qAa (qAt .node) dNil)
def zbv_cs (self:(List Eng.Node)→Int→Option Int):CS:=mkC zbv_da zbv_db (fun x y=>self y.1 x.2.1) (fun x y r=>.c (.o (.vI r))) fun x y r=>[.view .node y.1]
def zbv_ws (self:(List Eng.Node)→Int→Option Int):CQ:=qBk [(0,none,some (.node,39))] (qBu [false] (zbv_cs self))
def zbv_b0:IQ:=(.loop [0,1,5,6] (.seq (.seq (rg 27 [oM 17 t6,oM 18 t0,oM 19 t1,oP 20 (.iaddr 6 t18 t19),oP 21 (.faddr 5 t20),oP 22 (.load none t21),oP 23 (.bi .lss t17 t22),oM 24 t23,oF 25 (.mv t5) 24,oF 26 (.bi .geq t25 (vI 0)) 24,oP 27 (.pick t24 t26 vF)]) (.cond t27 .skip (.cn [5] (.exit 0)))) (.seq (.block 1 (rg 5 [oM 30 t0,oM 31 t5,oP 32 (.call 71 [t30,t31]),oM 5 t32])) (rg 6 [oM 28 t6,oP 29 (.bi .add t28 (vI 1)),oM 6 t29]))))
def zbv_q:IQ:=(.seq (rg 4 [oP 4 (.mv (vI 0))]) (.seq (.seq (rg 14 [oM 7 t1,oP 8 (.bi .lss t7 (vI 0)),oM 9 t8,oE 10 (.mv t1) 9,oE 11 (.mv t0) 9,oE 12 (.len t11) 9,oE 13 (.bi .geq t10 t12) 9,oP 14 (.pick t9 vT t13)]) (.cond t14 (.seq (rg 4 [oP 4 (.mv (.v (.int .i64 (-1))))]) (.cn [4] .ret)) .skip)) (.seq (rg 5 [oM 15 t1,oP 16 (.bi .add t15 (vI 1)),oM 5 t16]) (.seq (.seq (rg 6 [oP 6 (.mv (vI 0))]) (.block 0 (.cn [0,1,5,6] (.sub 0 zbv_b0)))) (.seq (rg 4 [oM 33 t5,oM 4 t33]) (.cn [4] .ret))))))
theorem zbv_chk:chk Tryd.prog 71 []=some (zbv_q.erase,[.tmp 4],34):=by kernel_rfl
def qFk (self:(List Eng.Node)→Int→Option Int) (at_ next i:Int) (v:List Eng.Node):Option ((Int × Int) ⊕ Int) :=
 gd (0≤at_∧at_<v.length) <|
 gd ((Int.toNat at_)<v.length) <|
 gd ((Int.toNat at_)<v.length) <|
 bif ((decide (i<((v.getD (Int.toNat at_) (ET.dft .node)).kids))) && (decide ((0:Int)≤next))) then (
  (self v next).bind fun r3 =>
  gd (qAc (i+(1:Int))) <|
  some (.inl (r3,(i+(1:Int)))))
 else (
  some (.inr next))
def zbv_p0 (self:(List Eng.Node)→Int→Option Int) (at_ next i:Int) (v:List Eng.Node):Option Int :=
 qAn (fun x:(Int × Int)=>qFk self at_ x.1 x.2 v) (next,i)
def zbv_t (self:(List Eng.Node)→Int→Option Int) (v:(List Eng.Node)) (at_:Int):Option Int :=
 bif ((decide (at_<(0:Int))) || (decide ((v.length:Int)≤at_))) then (
  some (-1:Int))
 else (
  gd (qAc (at_+(1:Int))) <|
  (zbv_p0 self at_ (at_+(1:Int)) (0:Int) v).bind fun o4 =>
  some o4)
def zbv_G (self:(List Eng.Node)→Int→Option Int):Nat→Option CQ:=tblQ [(71,zbv_ws self)]
theorem zbv_Gok (self:(List Eng.Node)→Int→Option Int) (hself:qAi Tryd.prog 71 (zbv_ws self)):∀f C,(zbv_G self) f=some C→qAi Tryd.prog f C:=qAs ⟨hself,tV⟩
def zbv_d0:=(dQS (qAa (dSO 0 (dO 0)) (qAa (dSO 1 dZ) (qAa (dSO 5 dZ) (qAa (dSO 6 dZ) dNil)))) (qAa (qAt .node) dNil))
def zbv_l0 (self:(List Eng.Node)→Int→Option Int):SubQ:=mkL zbv_d0 (fun x=>zbv_p0 self x.1.2.1 x.1.2.2.1 x.1.2.2.2.1 x.2.1) fun x r R kn kx kr=>kx 0 ⟨[sL 5 (.vI r)],[],[.view .node x.2.1]⟩
def zbv_L (self:(List Eng.Node)→Int→Option Int):Nat→SubQ:=tblL [(0,zbv_l0 self)]
theorem zbv_sub0 (self:(List Eng.Node)→Int→Option Int):qA2 (zbv_L self) (zbv_G self) 1 7 34 0 zbv_b0:=qAm (show (zbv_L self) 0=(zbv_l0 self) from by kernel_rfl) fun x R kn kx kr=>qAf (step:=fun y=>qFk self x.1.2.1 y.1 y.2 x.2.1) (enc:=fun (y:Int × Int)=>zbv_d0.e ((x.1.1,x.1.2.1,y.1,y.2,x.1.2.2.2.2),x.2)) (fun y=>by kernel_rfl) (fun y ki=>by simp only [qFk,-eq_self,sZ]; kernel_rfl) (x.1.2.2.1,x.1.2.2.2.1)
theorem zbv_subs (self:(List Eng.Node)→Int→Option Int):qDh (zbv_L self) (zbv_G self) 1 7 34 zbv_q:=qDi (show qA8 (zbv_L self) (zbv_G self) 1 7 34 [(0,zbv_b0)] from ⟨(zbv_sub0 self),tV⟩)
theorem zbv_val_t (self:(List Eng.Node)→Int→Option Int) (hself:qAi Tryd.prog 71 (zbv_ws self)):qAl Tryd.prog 71 (zbv_cs (zbv_t self)):=val_okC zbv_chk 7 (zbv_Gok self hself) 1 (fun x=>Nat.le_of_ble_eq_true rfl) (fun y=>rfl) (zbv_subs self) fun x y=>by
 simp only [zbv_t,-eq_self,sZ];kernel_rfl
def zbv_n:Nat→(List Eng.Node)→Int→Option Int
 | 0=>fun _ _=>none
 | n+1=>zbv_t (zbv_n n)
def zbv_s (v:(List Eng.Node)) (at_:Int):Option Int:=evt fun n=>zbv_n n v at_
theorem zbv_valn:∀n,qAl Tryd.prog 71 (zbv_cs (zbv_n n))
 | 0=>qAl.zero fun args hp R k=>by
  show ((Dec.d zbv_da args).bind fun x=>(Dec.d zbv_db hp).bind fun y=>none)=none;cases Dec.d zbv_da args with
  | none=>rfl
  | some x=>cases Dec.d zbv_db hp <;> rfl
 | n+1=>zbv_val_t (zbv_n n) (qAr (zbv_valn n))
theorem zbv_val:qAl Tryd.prog 71 (zbv_cs zbv_s):=qAl.evt zbv_valn (fun args hp R k=>by
  show ((Dec.d zbv_da args).bind fun x=>(Dec.d zbv_db hp).bind fun y=>_)=(((Dec.d zbv_da args).bind fun x=>(Dec.d zbv_db hp).bind fun y=>_):Option (SV × List SB)).bind _;cases Dec.d zbv_da args with
  | none=>rfl
  | some x =>
   cases Dec.d zbv_db hp with
   | none=>rfl
   | some y=>simp only [obS,Option.bind_assoc]) fun args hp v hp' h=>by
  obtain ⟨x,h1,h2⟩:=Option.bind_eq_some_iff.1 h;obtain ⟨y,h3,h4⟩:=Option.bind_eq_some_iff.1 h2;obtain ⟨r,h5,h6⟩:=Option.bind_eq_some_iff.1 h4;obtain ⟨n,h7⟩:=evt_some h5;refine ⟨n,?_⟩;show ((Dec.d zbv_da args).bind fun x=>(Dec.d zbv_db hp).bind fun y=>_)=_;rw [h1];simp only [obS];rw [h3];simp only [obS];exact (congrArg (fun z=>Option.bind z _) h7).trans h6
def zbv_w:CQ:=zbv_ws zbv_s
theorem zbv_ok:qAi Tryd.prog 71 zbv_w:=qAr zbv_val
def zbx_b0:IQ:=(.loop [0,1,5,6,7] (.seq (.seq (rg 35 [oM 19 t7,oM 20 t0,oM 21 t1,oP 22 (.iaddr 6 t20 t21),oP 23 (.faddr 5 t22),oP 24 (.load none t23),oP 25 (.bi .lss t19 t24),oM 26 t25,oF 27 (.mv t6) 26,oF 28 (.bi .geq t27 (vI 0)) 26,oP 29 (.pick t26 t28 vF),oM 30 t29,oF 31 (.mv t6) 30,oF 32 (.mv t0) 30,oF 33 (.len t32) 30,oF 34 (.bi .lss t31 t33) 30,oP 35 (.pick t30 t34 vF)]) (.cond t35 .skip (.cn [5] (.exit 0)))) (.seq (.block 1 (.seq (rg 5 [oM 38 t5,oM 39 t6,oP 40 (.bslice 3 1 1 [.int .i64 0] [(0,t39)]),oP 41 (.append 3 1 8 [.int .i64 0] t38 t40),oM 5 t41]) (rg 6 [oM 42 t0,oM 43 t6,oP 44 (.call 71 [t42,t43]),oM 6 t44]))) (rg 7 [oM 36 t7,oP 37 (.bi .add t36 (vI 1)),oM 7 t37]))))
def zbx_q:IQ:=(.seq (rg 4 [oP 4 (.mv (.v (.slice none 0 0)))]) (.seq (rg 5 [oP 5 (.mv (.v (.slice none 0 0)))]) (.seq (.seq (rg 15 [oM 8 t1,oP 9 (.bi .lss t8 (vI 0)),oM 10 t9,oE 11 (.mv t1) 10,oE 12 (.mv t0) 10,oE 13 (.len t12) 10,oE 14 (.bi .geq t11 t13) 10,oP 15 (.pick t10 vT t14)]) (.cond t15 (.seq (rg 4 [oM 16 t5,oM 4 t16]) (.canon [(4,none,.i64,3)] [4] .ret)) .skip)) (.seq (rg 6 [oM 17 t1,oP 18 (.bi .add t17 (vI 1)),oM 6 t18]) (.seq (.seq (rg 7 [oP 7 (.mv (vI 0))]) (.block 0 (.canon [(5,none,.i64,3)] [0,1,5,6,7] (.sub 0 zbx_b0)))) (.seq (rg 4 [oM 45 t5,oM 4 t45]) (.canon [(4,none,.i64,3)] [4] .ret)))))))
def qFl (at_ next i:Int) (v:List Eng.Node) (out:List Int):Option ((Int × Int × (List Int)) ⊕ ((List Int))) :=
 gd (0≤at_∧at_<v.length) <|
 gd ((Int.toNat at_)<v.length) <|
 gd ((Int.toNat at_)<v.length) <|
 bif (((decide (i<((v.getD (Int.toNat at_) (ET.dft .node)).kids))) && (decide ((0:Int)≤next))) && (decide (next<(v.length:Int)))) then (
  gd (out.length+([next]:List Int).length≤9223372036854775807∧(out.length+([next]:List Int).length)*8≤140737488355328) <|
  (zbv_s v next).bind fun r5 =>
  gd (qAc (i+(1:Int))) <|
  some (.inl (r5,(i+(1:Int)),(out++[next]))))
 else (
  some (.inr out))
def zbx_p0 (at_ next i:Int) (v:List Eng.Node) (out:List Int):Option ((List Int)) :=
 qAn (fun x:(Int × Int × (List Int))=>qFl at_ x.1 x.2.1 v x.2.2) (next,i,out)
def zbx_s (v:(List Eng.Node)) (at_:Int):Option ((List Int)) :=
 bif ((decide (at_<(0:Int))) || (decide ((v.length:Int)≤at_))) then (
  some [])
 else (
  gd (qAc (at_+(1:Int))) <|
  (zbx_p0 at_ (at_+(1:Int)) (0:Int) v []).bind fun o6 =>
  some o6)
def zbx_G:Nat→Option CQ:=tblQ [(71,zbv_w)]
def zbx_d0:=(dQS (qAa (dSO 0 (dO 0)) (qAa (dSO 1 dZ) (qAa (dSO 5 (dO 1)) (qAa (dSO 6 dZ) (qAa (dSO 7 dZ) dNil))))) zDJR1)
def zbx_l0:SubQ:=mkL zbx_d0 (fun x=>zbx_p0 x.1.2.1 x.1.2.2.2.1 x.1.2.2.2.2.1 x.2.1 x.2.2.1) fun x r R kn kx kr=>kx 0 ⟨[sL 5 (.own 1)],[],[.view .node x.2.1,.row .i64 3 r]⟩
def zbx_L:Nat→SubQ:=tblL [(0,zbx_l0)]
theorem zbx_sub0:qA2 zbx_L zbx_G 1 8 46 0 zbx_b0:=qAm (show zbx_L 0=zbx_l0 from by kernel_rfl) fun x R kn kx kr=>qAf (step:=fun y=>qFl x.1.2.1 y.1 y.2.1 x.2.1 y.2.2) (enc:=fun (y:Int × Int × (List Int))=>zbx_d0.e ((x.1.1,x.1.2.1,x.1.2.2.1,y.1,y.2.1,x.1.2.2.2.2.2),(x.2.1,y.2.2,x.2.2.2))) (fun y=>by kernel_rfl) (fun y ki=>by simp only [qFl,-eq_self,sZ]; kernel_rfl) (x.1.2.2.2.1,x.1.2.2.2.2.1,x.2.2.1)
def zbx_c:CS:=mkC (qAa (dVC (dCO (dO 0))) (qAa (dVC (dCO dZ)) dNil)) (qAa (qAt .node) dNil) (fun x y=>zbx_s y.1 x.2.1) (fun x y r=>.c (.o (.own 1))) fun x y r=>[.view .node y.1,.row .i64 3 r]
theorem zbx_val:qAl Tryd.prog 64 zbx_c:=vl1 zbx_q [.tmp 4] 46 8 1 (show qA8 zbx_L zbx_G 1 8 46 [(0,zbx_b0)] from ⟨zbx_sub0,tV⟩) (qAs ⟨zbv_ok,tV⟩) fun x y=>by
 simp only [zbx_s,-eq_self,sZ];kernel_rfl
def zbx_w:CQ:=qBk [(0,none,some (.node,39))] (qDb [false] zbx_c)
theorem zbx_ok:qAi Tryd.prog 64 zbx_w:=qBd zbx_val
def zby_b0:IQ:=(.loop [0,2,7,8] (.seq (.seq (rg 31 [oM 28 t8,oM 29 t7,oP 30 (.len t29),oP 31 (.bi .lss t28 t30)]) (.cond t31 .skip (.cn [] (.exit 0)))) (.seq (.block 1 (.seq (rg 43 [oM 34 t0,oM 35 t7,oM 36 t8,oP 37 (.iaddr 1 t35 t36),oP 38 (.load none t37),oP 39 (.iaddr 6 t34 t38),oP 40 (.faddr 1 t39),oP 41 (.load none t40),oM 42 t2,oP 43 (.bi .eql t41 t42)]) (.cond t43 (.seq (rg 6 [oM 44 t7,oM 45 t8,oP 46 (.iaddr 1 t44 t45),oP 47 (.load none t46),oM 6 t47]) (.cn [6] .ret)) .skip))) (rg 8 [oM 32 t8,oP 33 (.bi .add t32 (vI 1)),oM 8 t33]))))
def zby_q:IQ:=(.seq (rg 6 [oP 6 (.mv (vI 0))]) (.seq (.seq (rg 24 [oM 9 t1,oP 10 (.bi .lss t9 (vI 0)),oM 11 t10,oE 12 (.mv t1) 11,oE 13 (.mv t0) 11,oE 14 (.len t13) 11,oE 15 (.bi .geq t12 t14) 11,oP 16 (.pick t11 vT t15),oM 17 t16,oE 18 (.mv t0) 17,oE 19 (.mv t1) 17,oE 20 (.iaddr 6 t18 t19) 17,oE 21 (.faddr 0 t20) 17,oE 22 (.load none t21) 17,oE 23 (.bi .neq t22 (vI 7)) 17,oP 24 (.pick t17 vT t23)]) (.cond t24 (.seq (rg 6 [oP 6 (.mv (.v (.int .i64 (-1))))]) (.cn [6] .ret)) .skip)) (.seq (rg 7 [oM 25 t0,oM 26 t1,oP 27 (.call 64 [t25,t26]),oM 7 t27]) (.seq (.seq (rg 8 [oP 8 (.mv (vI 0))]) (.block 0 (.cn [0,2,7,8] (.sub 0 zby_b0)))) (.seq (rg 6 [oP 6 (.mv (.v (.int .i64 (-1))))]) (.cn [6] .ret))))))
def qD2 (key:BA) (i:Int) (v:List Eng.Node) (l:List Int):Option (Int ⊕ (Int ⊕ Unit)) :=
 bif decide (i<(l.length:Int)) then (
  gd (0≤i∧i<l.length) <|
  gd ((Int.toNat i)<l.length) <|
  gd (0≤(l.getD (Int.toNat i) (ET.dft .i64))∧(l.getD (Int.toNat i) (ET.dft .i64))<v.length) <|
  gd ((Int.toNat (l.getD (Int.toNat i) (ET.dft .i64)))<v.length) <|
  gd ((Int.toNat (l.getD (Int.toNat i) (ET.dft .i64)))<v.length) <|
  bif decide (((v.getD (Int.toNat (l.getD (Int.toNat i) (ET.dft .i64))) (ET.dft .node)).key)=key) then (
   gd (0≤i∧i<l.length) <|
   gd ((Int.toNat i)<l.length) <|
   some (.inr (.inl (l.getD (Int.toNat i) (ET.dft .i64)))))
  else (
   gd (qAc (i+(1:Int))) <|
   some (.inl (i+(1:Int)))))
 else (
  some (.inr (.inr ())))
def zby_p0 (key:BA) (i:Int) (v:List Eng.Node) (l:List Int):Option (Int ⊕ Unit) :=
 qAn (fun x:Int=>qD2 key x v l) i
def zby_s (v:(List Eng.Node)) (at_:Int) (key:BA):Option Int :=
 gd (((decide (at_<(0:Int))) || (decide ((v.length:Int)≤at_)))=false→0≤at_∧at_<v.length) <|
 gd (((decide (at_<(0:Int))) || (decide ((v.length:Int)≤at_)))=false→(Int.toNat at_)<v.length) <|
 gd (((decide (at_<(0:Int))) || (decide ((v.length:Int)≤at_)))=false→(Int.toNat at_)<v.length) <|
 bif (((decide (at_<(0:Int))) || (decide ((v.length:Int)≤at_))) || (!decide (((v.getD (Int.toNat at_) (ET.dft .node)).kind)=(7:Int)))) then (
  some (-1:Int))
 else (
  (zbx_s v at_).bind fun r2 =>
  (zby_p0 key (0:Int) v r2).bind fun o3=>(Sum.elim (fun (o3_0:Int) =>
   some o3_0) (fun (o3_1:Unit) =>
   some (-1:Int))) o3)
def zby_G:Nat→Option CQ:=tblQ [(64,zbx_w)]
def zby_d0:=(dQS (qAa (dSO 0 (dO 0)) (qAa (dSO 2 dS) (qAa (dSO 7 (dO 1)) (qAa (dSO 8 dZ) dNil)))) zDJR1)
def zby_l0:SubQ:=mkL zby_d0 (fun x=>zby_p0 x.1.2.1 x.1.2.2.2.1 x.2.1 x.2.2.1) fun x r R kn kx kr=>(Sum.elim (fun (r_0:Int)=>kr ⟨[sL 6 (.vI r_0)],[],[.view .node x.2.1]⟩) (fun (r_1:Unit)=>kx 0 ⟨[],[],[.view .node x.2.1]⟩)) r
def zby_L:Nat→SubQ:=tblL [(0,zby_l0)]
theorem zby_sub0:qA2 zby_L zby_G 1 9 48 0 zby_b0:=qAm (show zby_L 0=zby_l0 from by kernel_rfl) fun x R kn kx kr=>qAf (step:=fun y=>qD2 x.1.2.1 y x.2.1 x.2.2.1) (enc:=fun (y:Int)=>zby_d0.e ((x.1.1,x.1.2.1,x.1.2.2.1,y,x.1.2.2.2.2),x.2)) (fun y=>by kernel_rfl) (fun y ki=>by simp only [qD2,-eq_self,sZ]; kernel_rfl) x.1.2.2.2.1
def zby_c:CS:=mkC (qAa (dVC (dCO (dO 0))) (qAa (dVC (dCO dZ)) (qAa (dVC (dCO dS)) dNil))) (qAa (qAt .node) dNil) (fun x y=>zby_s y.1 x.2.1 x.2.2.1) (fun x y r=>.c (.o (.vI r))) fun x y r=>[.view .node y.1]
theorem zby_val:qAl Tryd.prog 50 zby_c:=vl1 zby_q [.tmp 6] 48 9 1 (show qA8 zby_L zby_G 1 9 48 [(0,zby_b0)] from ⟨zby_sub0,tV⟩) (qAs ⟨zbx_ok,tV⟩) fun x y=>by
 simp only [zby_s,-eq_self,sZ];kernel_rfl
def zby_w:CQ:=qBk [(0,none,some (.node,39))] (qBu [false] zby_c)
theorem zby_ok:qAi Tryd.prog 50 zby_w:=qAr zby_val
def zaq_b0:IQ:=(.loop [0,1,5] (.seq (.seq (rg 21 [oM 14 t5,oP 15 (.bi .gtr t14 (vI 0)),oM 16 t15,oF 17 (.mv t1) 16,oF 18 (.mv t0) 16,oF 19 (.len t18) 16,oF 20 (.bi .lss t17 t19) 16,oP 21 (.pick t16 t20 vF)]) (.cond t21 .skip (.cn [1] (.exit 0)))) (.seq (.block 1 (rg 5 [oM 24 t5,oM 25 t0,oM 26 t1,oP 27 (.iaddr 6 t25 t26),oP 28 (.faddr 5 t27),oP 29 (.load none t28),oP 30 (.bin true .sub t29 (vI 1)),oP 31 (.bin true .add t24 t30),oM 5 t31])) (rg 1 [oM 22 t1,oP 23 (.bi .add t22 (vI 1)),oM 1 t23]))))
def zaq_q:IQ:=(.seq (rg 4 [oP 4 (.mv (vI 0))]) (.seq (.seq (rg 13 [oM 6 t1,oP 7 (.bi .lss t6 (vI 0)),oM 8 t7,oE 9 (.mv t1) 8,oE 10 (.mv t0) 8,oE 11 (.len t10) 8,oE 12 (.bi .geq t9 t11) 8,oP 13 (.pick t8 vT t12)]) (.cond t13 (.seq (rg 4 [oP 4 (.mv (.v (.int .i64 (-1))))]) (.cn [4] .ret)) .skip)) (.seq (.seq (rg 5 [oP 5 (.mv (vI 1))]) (.block 0 (.cn [0,1,5] (.sub 0 zaq_b0)))) (.seq (rg 4 [oM 32 t1,oM 4 t32]) (.cn [4] .ret)))))
def qDr (at_ left:Int) (v:List Eng.Node):Option ((Int × Int) ⊕ Int) :=
 bif ((decide ((0:Int)<left)) && (decide (at_<(v.length:Int)))) then (
  gd (0≤at_∧at_<v.length) <|
  gd ((Int.toNat at_)<v.length) <|
  gd ((Int.toNat at_)<v.length) <|
  gd (qAc (at_+(1:Int))) <|
  some (.inl ((at_+(1:Int)),w64 (left+(w64 (((v.getD (Int.toNat at_) (ET.dft .node)).kids) - (1:Int)))))))
 else (
  some (.inr at_))
def zaq_p0 (at_ left:Int) (v:List Eng.Node):Option Int :=
 qAn (fun x:(Int × Int)=>qDr x.1 x.2 v) (at_,left)
def zaq_s (v:(List Eng.Node)) (at_:Int):Option Int :=
 bif ((decide (at_<(0:Int))) || (decide ((v.length:Int)≤at_))) then (
  some (-1:Int))
 else (
  (zaq_p0 at_ (1:Int) v).bind fun o1 =>
  some o1)
def zaq_G:Nat→Option CQ:=tblQ []
def zaq_d0:=(dQS (qAa (dSO 0 (dO 0)) (qAa (dSO 1 dZ) (qAa (dSO 5 dZ) dNil))) (qAa (qAt .node) dNil))
def zaq_l0:SubQ:=mkL zaq_d0 (fun x=>zaq_p0 x.1.2.1 x.1.2.2.1 x.2.1) fun x r R kn kx kr=>kx 0 ⟨[sL 1 (.vI r)],[],[.view .node x.2.1]⟩
def zaq_L:Nat→SubQ:=tblL [(0,zaq_l0)]
theorem zaq_sub0:qA2 zaq_L zaq_G 1 6 33 0 zaq_b0:=qAm (show zaq_L 0=zaq_l0 from by kernel_rfl) fun x R kn kx kr=>qAf (step:=fun y=>qDr y.1 y.2 x.2.1) (enc:=fun (y:Int × Int)=>zaq_d0.e ((x.1.1,y.1,y.2,x.1.2.2.2),x.2)) (fun y=>by kernel_rfl) (fun y ki=>by simp only [qDr,-eq_self,sZ]; kernel_rfl) (x.1.2.1,x.1.2.2.1)
def zaq_c:CS:=mkC (qAa (dVC (dCO (dO 0))) (qAa (dVC (dCO dZ)) dNil)) (qAa (qAt .node) dNil) (fun x y=>zaq_s y.1 x.2.1) (fun x y r=>.c (.o (.vI r))) fun x y r=>[.view .node y.1]
theorem zaq_val:qAl Tryd.prog 59 zaq_c:=vl1 zaq_q [.tmp 4] 33 6 1 (raws:=[30,31]) (show qA8 zaq_L zaq_G 1 6 33 [(0,zaq_b0)] from ⟨zaq_sub0,tV⟩) (fun f C h=>by cases h) fun x y=>by
 simp only [zaq_s,-eq_self,sZ];kernel_rfl
def zaq_w:CQ:=qBk [(0,none,some (.node,39))] (qBu [false] zaq_c)
theorem zaq_ok:qAi Tryd.prog 59 zaq_w:=qAr zaq_val
def zar_b0:IQ:=(.loop [0,1,2,7,8] (.seq (.seq (rg 43 [oM 27 t8,oM 28 t0,oM 29 t1,oP 30 (.iaddr 6 t28 t29),oP 31 (.faddr 5 t30),oP 32 (.load none t31),oP 33 (.bi .lss t27 t32),oM 34 t33,oF 35 (.mv t7) 34,oF 36 (.bi .geq t35 (vI 0)) 34,oP 37 (.pick t34 t36 vF),oM 38 t37,oF 39 (.mv t7) 38,oF 40 (.mv t0) 38,oF 41 (.len t40) 38,oF 42 (.bi .lss t39 t41) 38,oP 43 (.pick t38 t42 vF)]) (.cond t43 .skip (.cn [] (.exit 0)))) (.seq (.block 1 (.seq (.seq (rg 52 [oM 46 t0,oM 47 t7,oP 48 (.iaddr 6 t46 t47),oP 49 (.faddr 1 t48),oP 50 (.load none t49),oM 51 t2,oP 52 (.bi .eql t50 t51)]) (.cond t52 (.seq (rg 6 [oM 53 t7,oM 6 t53]) (.cn [6] .ret)) .skip)) (rg 7 [oM 54 t0,oM 55 t7,oP 56 (.call 59 [t54,t55]),oM 7 t56]))) (rg 8 [oM 44 t8,oP 45 (.bi .add t44 (vI 1)),oM 8 t45]))))
def zar_q:IQ:=(.seq (rg 6 [oP 6 (.mv (vI 0))]) (.seq (.seq (rg 24 [oM 9 t1,oP 10 (.bi .lss t9 (vI 0)),oM 11 t10,oE 12 (.mv t1) 11,oE 13 (.mv t0) 11,oE 14 (.len t13) 11,oE 15 (.bi .geq t12 t14) 11,oP 16 (.pick t11 vT t15),oM 17 t16,oE 18 (.mv t0) 17,oE 19 (.mv t1) 17,oE 20 (.iaddr 6 t18 t19) 17,oE 21 (.faddr 0 t20) 17,oE 22 (.load none t21) 17,oE 23 (.bi .neq t22 (vI 7)) 17,oP 24 (.pick t17 vT t23)]) (.cond t24 (.seq (rg 6 [oP 6 (.mv (.v (.int .i64 (-1))))]) (.cn [6] .ret)) .skip)) (.seq (rg 7 [oM 25 t1,oP 26 (.bi .add t25 (vI 1)),oM 7 t26]) (.seq (.seq (rg 8 [oP 8 (.mv (vI 0))]) (.block 0 (.cn [0,1,2,7,8] (.sub 0 zar_b0)))) (.seq (rg 6 [oP 6 (.mv (.v (.int .i64 (-1))))]) (.cn [6] .ret))))))
def qBv (at_:Int) (key:BA) (next i:Int) (v:List Eng.Node):Option ((Int × Int) ⊕ (Int ⊕ Unit)) :=
 gd (0≤at_∧at_<v.length) <|
 gd ((Int.toNat at_)<v.length) <|
 gd ((Int.toNat at_)<v.length) <|
 bif (((decide (i<((v.getD (Int.toNat at_) (ET.dft .node)).kids))) && (decide ((0:Int)≤next))) && (decide (next<(v.length:Int)))) then (
  gd (0≤next∧next<v.length) <|
  gd ((Int.toNat next)<v.length) <|
  gd ((Int.toNat next)<v.length) <|
  bif decide (((v.getD (Int.toNat next) (ET.dft .node)).key)=key) then (
   some (.inr (.inl next)))
  else (
   (zaq_s v next).bind fun r3 =>
   gd (qAc (i+(1:Int))) <|
   some (.inl (r3,(i+(1:Int))))))
 else (
  some (.inr (.inr ())))
def zar_p0 (at_:Int) (key:BA) (next i:Int) (v:List Eng.Node):Option (Int ⊕ Unit) :=
 qAn (fun x:(Int × Int)=>qBv at_ key x.1 x.2 v) (next,i)
def zar_s (v:(List Eng.Node)) (at_:Int) (key:BA):Option Int :=
 gd (((decide (at_<(0:Int))) || (decide ((v.length:Int)≤at_)))=false→0≤at_∧at_<v.length) <|
 gd (((decide (at_<(0:Int))) || (decide ((v.length:Int)≤at_)))=false→(Int.toNat at_)<v.length) <|
 gd (((decide (at_<(0:Int))) || (decide ((v.length:Int)≤at_)))=false→(Int.toNat at_)<v.length) <|
 bif (((decide (at_<(0:Int))) || (decide ((v.length:Int)≤at_))) || (!decide (((v.getD (Int.toNat at_) (ET.dft .node)).kind)=(7:Int)))) then (
  some (-1:Int))
 else (
  gd (qAc (at_+(1:Int))) <|
  (zar_p0 at_ key (at_+(1:Int)) (0:Int) v).bind fun o4=>(Sum.elim (fun (o4_0:Int) =>
   some o4_0) (fun (o4_1:Unit) =>
   some (-1:Int))) o4)
def zar_G:Nat→Option CQ:=tblQ [(59,zaq_w)]
def zar_d0:=(dQS (qAa (dSO 0 (dO 0)) (qAa (dSO 1 dZ) (qAa (dSO 2 dS) (qAa (dSO 7 dZ) (qAa (dSO 8 dZ) dNil))))) (qAa (qAt .node) dNil))
def zar_l0:SubQ:=mkL zar_d0 (fun x=>zar_p0 x.1.2.1 x.1.2.2.1 x.1.2.2.2.1 x.1.2.2.2.2.1 x.2.1) fun x r R kn kx kr=>(Sum.elim (fun (r_0:Int)=>kr ⟨[sL 6 (.vI r_0)],[],[.view .node x.2.1]⟩) (fun (r_1:Unit)=>kx 0 ⟨[],[],[.view .node x.2.1]⟩)) r
def zar_L:Nat→SubQ:=tblL [(0,zar_l0)]
theorem zar_sub0:qA2 zar_L zar_G 1 9 57 0 zar_b0:=qAm (show zar_L 0=zar_l0 from by kernel_rfl) fun x R kn kx kr=>qAf (step:=fun y=>qBv x.1.2.1 x.1.2.2.1 y.1 y.2 x.2.1) (enc:=fun (y:Int × Int)=>zar_d0.e ((x.1.1,x.1.2.1,x.1.2.2.1,y.1,y.2,x.1.2.2.2.2.2),x.2)) (fun y=>by kernel_rfl) (fun y ki=>by simp only [qBv,-eq_self,sZ]; kernel_rfl) (x.1.2.2.2.1,x.1.2.2.2.2.1)
def zar_c:CS:=mkC (qAa (dVC (dCO (dO 0))) (qAa (dVC (dCO dZ)) (qAa (dVC (dCO dS)) dNil))) (qAa (qAt .node) dNil) (fun x y=>zar_s y.1 x.2.1 x.2.2.1) (fun x y r=>.c (.o (.vI r))) fun x y r=>[.view .node y.1]
theorem zar_val:qAl Tryd.prog 42 zar_c:=vl1 zar_q [.tmp 6] 57 9 1 (show qA8 zar_L zar_G 1 9 57 [(0,zar_b0)] from ⟨zar_sub0,tV⟩) (qAs ⟨zaq_ok,tV⟩) fun x y=>by
 simp only [zar_s,-eq_self,sZ];kernel_rfl
def zar_w:CQ:=qBk [(0,none,some (.node,39))] (qBu [false] zar_c)
theorem zar_ok:qAi Tryd.prog 42 zar_w:=qAr zar_val
end
end Go.Proofs.YtobmafbliahplaaDoor
