/-
  Texts of a claim.
-/
import Derived.Test.YtnifdcmeffnpaaaDoorDecRel
import Derived.Test.YtnifdcmeffnpaaaDoorGC
import Derived.Test.YtnifdcmeffnpaaaDoorPUtf
namespace Go.Proofs.YtnifdcmeffnpaaaDoor
open Go.Eng
set_option linter.unusedVariables false
set_option linter.unusedSimpArgs false
theorem p_run (s:BA) (h:s.size<9223372036854775807):zac_s s=some (runS s:Int):=by
 unfold zac_s zac_p0;rw [whileO_rule (fun x:Int=>∃k:Nat,x=k∧k≤s.size∧qEk s k=qEk s 0) (fun x=>s.size - x.toNat) (fun _=>(qEk s 0:Int)) ?_ (x:=(0:Int)) ⟨0,rfl,by omega,rfl⟩]
 ·rfl
 rintro _ ⟨k,rfl,hk,hm⟩
 unfold zac_p0_step;have key:((decide ((k:Int)<(s.size:Int)) && decide ((48:Int)≤bAt s k)) && decide (bAt s k≤57))=digS s k:=by
  unfold digS;by_cases hlt:(k:Int)<s.size
  ·simp [hlt]
  ·have:=qB4 hlt;simp [hlt,this]
 rw [key];cases hd:digS s k with
 | true =>
  left;have hlt:=digS_lt hd;refine ⟨((k+1:Nat):Int),?_,⟨k+1,rfl,by omega,by rw [←hm,qEm hd]⟩,by omega,rfl⟩;refine (qAa (fun _=>by omega) _).trans ?_;refine (qAa (fun _=>by omega) _).trans ?_;refine (qAa (by unfold qAj; omega) _).trans ?_;rfl
 | false =>
  right;refine (qAa (fun h=>by have:=of_decide_eq_true h; omega) _).trans ?_;refine (qAa (fun h=>by have:=of_decide_eq_true (Bool.and_eq_true _ _ ▸ h).1; omega) _).trans ?_;show some (Sum.inr (k:Int))=_;rw [←hm,manyS_no hd]
theorem p_trimL1 (s:BA) (b:Int):zcb_s s b=some (trimL s b):=by
 unfold zcb_s zcb_p0;rw [whileO_rule (fun x:BA=>∃k:Nat,x=s.extract k s.size∧k≤s.size∧leadB s b k=leadB s b 0) (fun x=>x.size) (fun _=>trimL s b) ?_ ⟨0,(all_of s).symm,by omega,rfl⟩]
 ·rfl
 rintro _ ⟨k,rfl,hk,hm⟩
 unfold zcb_p0_step;have hz:=qB7 s k;have hb:=bAt_tail s k 0 (by omega);simp only [Int.add_zero] at hb;rw [hb];by_cases hq:k<s.size∧bAt s k=b
 ·left;refine ⟨s.extract (k+1) s.size,?_,⟨k+1,rfl,by omega,by rw [←hm,leadB_yes hq]⟩,by rw [qB7,qB7]; omega,rfl⟩;refine (qAa (fun _=>by omega) _).trans ?_;have:(decide ((0:Int)<((s.extract k s.size).size:Int)) && decide (bAt s k=b))=true:=by simp only [Bool.and_eq_true,decide_eq_true_eq]; exact ⟨by omega,hq.2⟩
  rw [this,cnT];refine (qAa (by omega) _).trans ?_;rw [qFp]
 ·right;refine (qAa (fun h=>by have:=of_decide_eq_true h; omega) _).trans ?_;have:(decide ((0:Int)<((s.extract k s.size).size:Int)) && decide (bAt s k=b))=false:=by
   rw [Bool.and_eq_false_iff,decide_eq_false_iff_not,decide_eq_false_iff_not];by_cases h1:k<s.size
   ·exact .inr fun h=>hq ⟨h1,h⟩
   ·exact .inl (by omega)
  rw [this,cnF,trimL,←hm,leadB_no hq]
theorem p_trimR1 (s:BA) (b:Int) (h:s.size<9223372036854775807):zcc_s s b=some (trimR s b):=by
 unfold zcc_s zcc_p0;rw [whileO_rule (fun x:BA=>∃k:Nat,x=s.extract 0 k∧k≤s.size∧backB s b k=backB s b s.size) (fun x=>x.size) (fun _=>trimR s b) ?_ ⟨s.size,(all_of s).symm,by omega,rfl⟩]
 ·rfl
 rintro _ ⟨k,rfl,hk,hm⟩
 unfold zcc_p0_step;have hz:(s.extract 0 k).size=k:=by rw [ByteArray.size_extract]; omega
 simp only [hz];cases k with
 | zero =>
  right;refine (qAa (fun h=>by simp at h) _).trans ?_;refine (qAa (fun h=>by simp at h) _).trans ?_;rw [trimR,←hm];rfl
 | succ n =>
  have hb:bAt (s.extract 0 (n+1)) (((n+1:Nat):Int) - 1)=bAt s n:=by
   rw [bAt_extract s 0 (n+1) _ (by omega) (by omega)];congr 1
   omega
  rw [hb];have e0:decide ((0:Int)<((n+1:Nat):Int))=true:=by simp only [decide_eq_true_eq]; omega
  rw [e0];by_cases hq:bAt s n=b
  ·left;refine ⟨s.extract 0 n,?_,⟨n,rfl,by omega,by rw [←hm]; show _=backB s b (n+1); rw [backB,if_pos hq]⟩,by rw [ByteArray.size_extract]; omega,tV⟩;refine (qAa (fun _=>by unfold qAj; omega) _).trans ?_;refine (qAa (fun _=>by omega) _).trans ?_;have:(true && decide (bAt s n=b))=true:=by simp [hq]
   rw [this,cnT];refine (qAa (by unfold qAj; omega) _).trans ?_;refine (qAa (by omega) _).trans ?_;rw [show Int.toNat (((n+1:Nat):Int) - 1)=n by omega,ByteArray.extract_extract];congr 3
   omega
  ·right;refine (qAa (fun _=>by unfold qAj; omega) _).trans ?_;refine (qAa (fun _=>by omega) _).trans ?_;have:(true && decide (bAt s n=b))=false:=by simp [hq]
   rw [this,cnF,trimR,←hm,backB,if_neg hq]
theorem p_trimL (s:BA):zbz_s s (⟨#[48]⟩:BA)=some (trimL s 48):=by
 unfold zbz_s;have h1:decide ((⟨#[48]⟩:BA)=(⟨#[]⟩:BA))=false:=by decide
 rw [h1,Bool.or_false];by_cases he:s=⟨#[]⟩
 ·rw [deT he,cnT];congr 1
  have:=eq_none.1 he;unfold trimL;rw [he];refine (eq_none.2 ?_).symm;rw [ByteArray.size_extract];have:(⟨#[]⟩:BA).size=0:=rfl;omega
 ·rw [deF he,cnF];refine (qAa (fun _=>by decide) _).trans ?_;have h2:(decide (((⟨#[48]⟩:BA).size:Int)=1) && decide (bAt (⟨#[48]⟩:BA) 0<128))=true:=by decide
  rw [h2,cnT];refine (qAa (by decide) _).trans ?_;rw [show bAt (⟨#[48]⟩:BA) 0=48 by decide,p_trimL1];rfl
theorem p_trimR (s:BA) (h:s.size<9223372036854775807):zca_s s (⟨#[48]⟩:BA)=some (trimR s 48):=by
 unfold zca_s;have h1:decide ((⟨#[48]⟩:BA)=(⟨#[]⟩:BA))=false:=by decide
 rw [h1,Bool.or_false];by_cases he:s=⟨#[]⟩
 ·rw [deT he,cnT];congr 1
  have:=eq_none.1 he;unfold trimR;rw [he];refine (eq_none.2 ?_).symm;rw [ByteArray.size_extract];have:(⟨#[]⟩:BA).size=0:=rfl;omega
 ·rw [deF he,cnF];refine (qAa (fun _=>by decide) _).trans ?_;have h2:(decide (((⟨#[48]⟩:BA).size:Int)=1) && decide (bAt (⟨#[48]⟩:BA) 0<128))=true:=by decide
  rw [h2,cnT];refine (qAa (by decide) _).trans ?_;rw [show bAt (⟨#[48]⟩:BA) 0=48 by decide,p_trimR1 s 48 h];rfl
theorem p_cut (s p:BA):zby_s s p=some (cutPre s p,hasPre s p):=by
 unfold zby_s zad_s zae_s;rw [qAa (fun h=>by have:=of_decide_eq_true h; omega)];have e:(decide ((p.size:Int)≤(s.size:Int)) && decide (s.extract 0 (Int.toNat (p.size:Int))=p))=hasPre s p:=by
  simp only [hasPre,Int.ofNat_le,Int.toNat_natCast]
 rw [e];simp only [obS];unfold cutPre;cases h:hasPre s p with
 | true =>
  have:=hasPre_le h;simp only [Bool.not_true,cnF,if_true];rw [qAa (by omega)];simp only [obS,Int.toNat_natCast]
 | false=>simp
def num (n:PNum):decimal_number:=⟨n.minus,n.int,n.digits,n.off,n.plain,n.down,n.exp⟩
theorem hasPre_45 (s:BA):hasPre s (⟨#[45]⟩:BA)=decide (bAt s 0=45):=hasPre_one rfl
theorem hasPre_46 (s:BA):hasPre s (⟨#[46]⟩:BA)=decide (bAt s 0=46):=hasPre_one rfl
theorem cut_45 (s:BA):cutPre s (⟨#[45]⟩:BA)=s.extract (atA s) s.size:=by
 unfold cutPre atA;rw [hasPre_45];by_cases h:bAt s 0=45
 ·simp only [h,decide_true,if_true]; rfl
 ·simp only [h,decide_false,if_false,Bool.false_eq_true,all_of]
theorem or32 {b:Int} (h0:0≤b) (h1:b≤255):decide (qBl .u8 b 32=101)=(decide (b=101) || decide (b=69)):=by
 have key:∀n:Fin 256,decide (qBl .u8 (n.val:Int) 32=101)=(decide ((n.val:Int)=101) || decide ((n.val:Int)=69)):=by decide +kernel
 have:=key ⟨b.toNat,by omega⟩;simpa [Int.toNat_of_nonneg h0] using this
section
variable (s:BA) (hsz:s.size<4000000000000000000)
include hsz
theorem p_read0:zab_p0 (s.extract (atA s) s.size)=some (if badA s=true then .inl false else .inr (s.extract (atB s) s.size,s.extract (atA s) (atB s))):=by
 have hA:=atA_le s;have hAB:=atA_le_atB s;have hB:=atB_le s;have hr:runS (s.extract (atA s) s.size)=atB s - atA s:=runS_tail s (atA s);have hz:=qB7 s (atA s);have hb0:=bAt_tail s (atA s) 0 (by omega);simp only [Int.add_zero] at hb0;unfold zab_p0;rw [p_run _ (by omega),obS];refine (qAa (fun h _=>by have:=of_decide_eq_true h; omega) _).trans ?_;have hbad:badA s=(decide ((runS (s.extract (atA s) s.size):Int)=0) || decide (1<(runS (s.extract (atA s) s.size):Int)) && decide (bAt (s.extract (atA s) s.size) 0=48)):=by
  rw [hr,hb0];unfold badA;rw [Bool.and_comm];congr 1
  ·rw [decide_eq_decide]; omega
  ·congr 1
   rw [decide_eq_decide]; omega
 rw [←hbad];cases hbd:badA s with
 | true=>rfl
 | false =>
  simp only [cnF];refine (qAa (by omega) _).trans ?_;refine (qAa (by omega) _).trans ?_;rw [hr,Int.toNat_natCast,head_tail,qFp,show atA s+(atB s - atA s)=atB s by omega,show min (atB s) s.size=atB s by omega];rfl
theorem p_read1:zab_p1 (s.extract (atB s) s.size) (⟨#[]⟩:BA) true=some (if (dotS s && decide (atK s=atB s+1))=true then .inl false else .inr (s.extract (atC s) s.size,fracS s,!dotS s)):=by
 have hb0:=bAt_tail s (atB s) 0 (by omega);simp only [Int.add_zero] at hb0;have hdot:decide (bAt (s.extract (atB s) s.size) 0=46)=dotS s:=by rw [hb0]; rfl
 have hz:=qB7 s (atB s);unfold zab_p1;rw [p_cut,obS];simp only [hasPre_46,hdot];cases hd:dotS s with
 | false=>simp [fracS,atC,hd]
 | true =>
  have hBl:=atB_lt hd;have hKl:=atK_le hd;have hKg:=atK_ge s;have hcp:cutPre (s.extract (atB s) s.size) ⟨#[46]⟩=s.extract (atB s+1) s.size:=by
   unfold cutPre;rw [hasPre_46,hdot,hd];exact qFp s (atB s) 1
  have hr:runS (s.extract (atB s+1) s.size)=atK s - (atB s+1):=runS_tail s (atB s+1);have hz1:=qB7 s (atB s+1);simp only [hcp,cnT];rw [p_run _ (by omega),obS];have hq:decide ((runS (s.extract (atB s+1) s.size):Int)=0)=decide (atK s=atB s+1):=by rw [hr,decide_eq_decide]; omega
  rw [hq];cases hk:decide (atK s=atB s+1) with
  | true=>rfl
  | false =>
   simp only [cnF];refine (qAa (by omega) _).trans ?_;refine (qAa (by omega) _).trans ?_;rw [hr,Int.toNat_natCast,head_tail,qFp,show atB s+1+(atK s - (atB s+1))=atK s by omega,show min (atK s) s.size=atK s by omega];simp [fracS,atC,hd]
theorem p_read3 (he:expS s=true):zab_p3 (s.extract (atE s) s.size)=some (if badE s=true then .inl false else .inr ((⟨#[]⟩:BA),false,(qF0 s).exp)):=by
 have hEl:=atE_le he;have hFl:=atF_le he;have hFg:=atF_ge s;have hr:runS (s.extract (atE s) s.size)=atF s - atE s:=runS_tail s (atE s);have hz2:=qB7 s (atE s);have hne2:=tail_none s (atE s);unfold zab_p3;by_cases hn:s.extract (atE s) s.size=⟨#[]⟩
 ·have:badE s=true:=by simp [badE,he,hne2.1 hn]
  rw [deT hn,this];rfl
 ·rw [deF hn,cnF,p_run _ (by omega),obS,hr,hz2];have hle:¬s.size≤atE s:=fun h=>hn (hne2.2 h)
  have hbe:(!decide (((atF s - atE s:Nat):Int)=((s.size - atE s:Nat):Int)))=badE s:=by
   unfold badE;rw [he,Bool.true_and,deF hle,Bool.false_or,←decide_not,decide_eq_decide];omega
  rw [hbe];cases hb:badE s with
  | true=>rfl
  | false =>
   simp only [cnF];rw [p_trimL,obS];simp [qF0,he,expT]
theorem p_read2 (pl:Bool):zab_p2 (s.extract (atC s) s.size) pl false (⟨#[]⟩:BA)=some (if badE s=true then .inl (false,expS s && decide (bAt s (atC s+1)=45)) else .inr (if expS s=true then ⟨#[]⟩ else s.extract (atC s) s.size,pl && !expS s,expS s && decide (bAt s (atC s+1)=45),(qF0 s).exp)):=by
 have hC:=atC_le s;have hb0:=bAt_tail s (atC s) 0 (by omega);simp only [Int.add_zero] at hb0;have hz:=qB7 s (atC s);have hrg:=bAt_range s (atC s);have hne:=tail_none s (atC s);have hexp:(!decide (s.extract (atC s) s.size=⟨#[]⟩) && decide (qBl .u8 (bAt (s.extract (atC s) s.size) 0) 32=101))=expS s:=by
  unfold expS;rw [hb0];by_cases he:s.size≤atC s
  ·have:bAt s (atC s) = -1:=qB4 (by omega);simp [hne.2 he,this]
  ·have hn:¬s.extract (atC s) s.size=⟨#[]⟩:=fun e=>he (hne.1 e)
   have h0:0≤bAt s (atC s):=bAt_nn (by omega) (by omega);rw [or32 h0 hrg.2];simp [hn]
 unfold zab_p2;refine (qAa (fun h=>by
  have:¬s.size≤atC s:=fun h'=>by simp [hne.2 h'] at h
  omega) _).trans ?_
 rw [hexp];cases he:expS s with
 | false=>simp [qF0,he,badE]
 | true =>
  have hCl:=atC_lt he;have hEl:=atE_le he;have hb1:=bAt_tail s (atC s+1) 0 (by omega);simp only [Int.add_zero] at hb1;have hz1:=qB7 s (atC s+1);have hne1:=tail_none s (atC s+1);have htt:(s.extract (atC s) s.size).extract 1 (s.extract (atC s) s.size).size=s.extract (atC s+1) s.size:=qFp s (atC s) 1;simp only [cnT];refine (qAa (by omega) _).trans ?_;simp only [htt];refine (qAa (fun h=>by
   have:¬s.size≤atC s+1:=fun h'=>by simp [hne1.2 h'] at h
   omega) _).trans ?_
  refine (qAa (fun _ h=>by
   have:¬s.size≤atC s+1:=fun h'=>by simp [hne1.2 h'] at h
   omega) _).trans ?_
  have hsg:(!decide (s.extract (atC s+1) s.size=⟨#[]⟩) && (decide (bAt (s.extract (atC s+1) s.size) 0=43) || decide (bAt (s.extract (atC s+1) s.size) 0=45)))=sgnS s:=by
   unfold sgnS;rw [hb1];by_cases h:s.size≤atC s+1
   ·have:bAt s ((atC s+1:Nat):Int) = -1:=qB4 (by omega);have h2:bAt s ((atC s:Int)+1) = -1:=by rw [←this]; rfl
    simp [hne1.2 h,h2]
   ·have hn:¬s.extract (atC s+1) s.size=⟨#[]⟩:=fun e=>h (hne1.1 e)
    simp [hn]
  rw [hsg];cases hs:sgnS s with
  | false =>
   have hnd:¬bAt s ((atC s:Int)+1)=45:=fun e=>by simp [sgnS,e] at hs
   have hE:s.extract (atC s+1) s.size=s.extract (atE s) s.size:=by simp [atE,hs]
   simp only [cnF];rw [hE,p_read3 s hsz he,obS];cases badE s <;> simp [hnd]
  | true =>
   have hsl:=sgn_lt hs;have hE:(s.extract (atC s+1) s.size).extract 1 (s.extract (atC s+1) s.size).size=s.extract (atE s) s.size:=by rw [qFp]; simp [atE,hs]
   have hb1':bAt (s.extract (atC s+1) s.size) 0=bAt s ((atC s:Int)+1):=hb1;simp only [cnT];refine (qAa (by omega) _).trans ?_;refine (qAa (by omega) _).trans ?_;rw [hE,p_read3 s hsz he,obS,hb1'];cases badE s <;> simp
theorem p_read4:zab_p4 (if expS s=true then ⟨#[]⟩ else s.extract (atC s) s.size) (fracS s) (s.extract (atA s) (atB s)) (expS s && decide (bAt s (atC s+1)=45)) (qF0 s).exp=some (expS s || decide (s.size≤atC s),(qF0 s).digits,(qF0 s).off,(qF0 s).down):=by
 have hne:=tail_none s (atC s);have hi:(s.extract (atA s) (atB s)).size≤s.size:=by rw [ByteArray.size_extract]; omega
 have hfr:(fracS s).size≤s.size:=by
  unfold fracS;split
  ·rw [ByteArray.size_extract]; omega
  ·exact Nat.zero_le _
 have hap:(s.extract (atA s) (atB s)++fracS s).size=(s.extract (atA s) (atB s)).size+(fracS s).size:=ByteArray.size_append;have htl:(trimL (s.extract (atA s) (atB s)++fracS s) 48).size≤(s.extract (atA s) (atB s)++fracS s).size:=by rw [trimL,ByteArray.size_extract]; omega
 have hrest:decide ((if expS s=true then ⟨#[]⟩ else s.extract (atC s) s.size)=(⟨#[]⟩:BA))=(expS s || decide (s.size≤atC s)):=by
  cases he:expS s
  ·simp [hne]
  ·simp
 have hdn:(qF0 s).down=(expS s && decide (bAt s (atC s+1)=45) && !decide ((qF0 s).exp=⟨#[]⟩)):=by
  cases he:expS s
  ·simp [qF0,he]
  ·simp [qF0,he]
 unfold zab_p4;refine (qAa (by omega) _).trans ?_;rw [p_trimL,obS];refine (qAa (by unfold qAj; omega) _).trans ?_;refine (qAa (by unfold qAj; omega) _).trans ?_;rw [p_trimR _ (by omega),obS,hrest,hdn];cases decide ((qF0 s).exp=⟨#[]⟩) <;> simp [qF0]
theorem p_readA (m:Bool) (hm:m=decide (bAt s 0=45)):((zab_p0 (s.extract (atA s) s.size)).bind fun o3=>(Sum.elim (fun (o3_0:Bool) =>
   some ((⟨m,(⟨#[]⟩:BA),(⟨#[]⟩:BA),(0:Int),true,false,(⟨#[]⟩:BA)⟩:decimal_number),o3_0)) (fun (o3_1:BA × BA) =>
   (zab_p1 o3_1.1 (⟨#[]⟩:BA) true).bind fun o6=>(Sum.elim (fun (o6_0:Bool) =>
    some ((⟨m,o3_1.2,(⟨#[]⟩:BA),(0:Int),true,false,(⟨#[]⟩:BA)⟩:decimal_number),o6_0)) (fun (o6_1:BA × BA × Bool) =>
    (zab_p2 o6_1.1 o6_1.2.2 false (⟨#[]⟩:BA)).bind fun o11=>(Sum.elim (fun (o11_0:Bool × Bool) =>
     some ((⟨m,o3_1.2,(⟨#[]⟩:BA),(0:Int),o6_1.2.2,o11_0.2,(⟨#[]⟩:BA)⟩:decimal_number),o11_0.1)) (fun (o11_1:BA × Bool × Bool × BA) =>
     (zab_p4 o11_1.1 o6_1.2.1 o3_1.2 o11_1.2.2.1 o11_1.2.2.2).bind fun o14 =>
     some ((⟨m,o3_1.2,o14.2.1,o14.2.2.1,o11_1.2.1,o14.2.2.2,o11_1.2.2.2⟩:decimal_number),o14.1))) o11)) o6)) o3)=some (num (qEs s),qEi s):=by
 subst hm;rw [p_read0 s hsz,obS];cases hbd:badA s with
 | true =>
  have hro:qEi s=false:=by simp [qEi,hbd]
  rw [progAll_1 hbd,hro];rfl
 | false =>
  simp only [Bool.false_eq_true,if_false,Sum.elim_inr];rw [p_read1 s hsz,obS];cases hdk:(dotS s && decide (atK s=atB s+1)) with
  | true =>
   have hro:qEi s=false:=by simp only [qEi,hbd,hdk,Bool.not_true,Bool.not_false,Bool.and_false,Bool.false_and]
   rw [progAll_2 hbd hdk,hro];rfl
  | false =>
   simp only [Bool.false_eq_true,if_false,Sum.elim_inr];rw [p_read2 s hsz,obS];cases hbe:badE s with
   | true =>
    have hro:qEi s=false:=by
     rw [←progOk_eq];simp [progOk,hbe]
    rw [progAll_3 hbd hdk hbe,hro];rfl
   | false =>
    have hro:qEi s=(expS s || decide (s.size≤atC s)):=by
     rw [←progOk_eq];simp only [progOk,hbd,hdk,hbe,Bool.not_false,Bool.true_and]
    simp only [Bool.false_eq_true,if_false,Sum.elim_inr];rw [p_read4 s hsz,obS,progAll_4 hbd hdk hbe,hro];rfl
theorem p_read:zab_s s 0=some (num (qEs s),qEi s):=by
 unfold zab_s;rw [deT rfl,cnT,p_cut,obS,hasPre_45,cut_45];exact p_readA s hsz _ rfl
end
end Go.Proofs.YtnifdcmeffnpaaaDoor
namespace Go.Proofs.YtnifdcmeffnpaaaDoor
open Go.Eng
set_option linter.unusedVariables false
set_option linter.unusedSimpArgs false
def wholeI (t:BA):Nat→Nat→Int→Option Int
 | 0,_,v=>some v
 | j+1,i,v=>if (9223372036854775808 - (bAt t (i:Int) - 48) % 256) / 10<v then none else wholeI t j (i+1) (10*v+(bAt t (i:Int) - 48) % 256)
def wholeV (s:BA):Int × Bool :=
 if qEi s=true∧(readS s).plain=true then match wholeI (readS s).text (readS s).text.size 0 0 with
  | none=>(0,false)
  | some u=>if (readS s).minus=true then (-u,true) else if u=9223372036854775808 then (0,false) else (u,true)
 else (0,false)
theorem wholeV_no {s:BA} (h:¬(qEi s=true∧(readS s).plain=true)):wholeV s=(0,false):=if_neg h
theorem wholeV_yes {s:BA} (h:qEi s=true∧(readS s).plain=true):wholeV s=match wholeI (readS s).text (readS s).text.size 0 0 with
  | none=>(0,false)
  | some u=>if (readS s).minus=true then (-u,true) else if u=9223372036854775808 then (0,false) else (u,true):=if_pos h
theorem whole_pj (t:BA) (hs:t.size≤3000000):∀(j i:Nat) (v:Int),i+j=t.size→0≤v∧v≤9223372036854775808 →
  (wholeI t j i v=none∧zaa_p0 v (t.size:Int) (i:Int) t=some (.inl (0,false))) ∨
  (∃u:Int,wholeI t j i v=some u∧(0≤u∧u≤9223372036854775808)∧zaa_p0 v (t.size:Int) (i:Int) t=some (.inr u))
 | 0,i,v,h,hv=>by
  refine .inr ⟨v,rfl,hv,?_⟩;unfold zaa_p0;refine qAn ?_;unfold qDk;dsimp only;rw [deF (by omega),cnF]
 | j+1,i,v,h,hv=>by
  obtain ⟨d,hd⟩:∃d,d=(bAt t i - 48) % 256:=⟨_,rfl⟩;have hd2:0≤d∧d<256:=by omega
  have e1:(9223372036854775808 - d % 18446744073709551616) % 18446744073709551616=9223372036854775808 - d:=by omega
  have s1:qDk v (t.size:Int) (i:Int) t=if (9223372036854775808 - d) / 10<v then some (.inr (.inl (0,false))) else some (.inl (10*v+d,((i+1:Nat):Int))):=by
   unfold qDk;rw [←hd,deT (by omega),cnT];refine (qAa (by omega) _).trans ?_;rw [e1];refine (qAa (by omega) _).trans ?_;by_cases hl:(9223372036854775808 - d) / 10<v
   ·rw [deT hl,cnT,if_pos hl]
   ·rw [deF hl,cnF,if_neg hl];refine (qAa (by unfold qAj; omega) _).trans ?_;rw [show (10*v % 18446744073709551616+d % 18446744073709551616) % 18446744073709551616=10*v+d by omega];rfl
  by_cases hl:(9223372036854775808 - d) / 10<v
  ·have hw:wholeI t (j+1) i v=none:=by unfold wholeI; rw [←hd,if_pos hl]
   rw [if_pos hl] at s1;refine .inl ⟨hw,?_⟩;unfold zaa_p0;exact qAn s1
  ·have hw:wholeI t (j+1) i v=wholeI t j (i+1) (10*v+d):=by rw [wholeI,←hd,if_neg hl]
   rw [if_neg hl] at s1;have ih:=whole_pj t hs j (i+1) (10*v+d) (by omega) (by omega);have w1:zaa_p0 v (t.size:Int) (i:Int) t=zaa_p0 (10*v+d) (t.size:Int) ((i+1:Nat):Int) t:=by
    unfold zaa_p0;exact qAv s1
   rw [hw,w1];exact ih
theorem whole_j (s:BA) (hs:s.size≤3000000):zaa_s s=some (wholeV s):=by
 unfold zaa_s;rw [p_read s (by omega),obS];cases hr:qEi s with
 | false =>
  rw [wholeV_no (by rw [hr]; simp)];rfl
 | true =>
  rw [progAll_ok hr];have hp:(num (qF0 s)).plain=(readS s).plain:=rfl;simp only [Bool.not_true,Bool.false_or];rw [hp];cases hpl:(readS s).plain with
  | false =>
   have hpl:(readS s).plain=false:=hpl;rw [wholeV_no (by rw [hpl]; simp)];rfl
  | true =>
   have hpl:(readS s).plain=true:=hpl;rw [wholeV_yes ⟨hr,hpl⟩];generalize hrs:readS s=r at *
   simp only [Bool.not_true,cnF];have ht:(num (qF0 s)).whole=r.text:=by rw [←hrs]; rfl
   have hm:(num (qF0 s)).minus=r.minus:=by rw [←hrs]; rfl
   rw [ht,hm];have hz:r.text.size≤3000000:=by
    rw [←hrs];show (s.extract _ _).size≤_;rw [ByteArray.size_extract]; omega
   have et:r.text=r.text:=rfl;have em:r.minus=r.minus:=rfl;rw [et] at hz;have:=whole_pj r.text hz r.text.size 0 0 (by omega) (by omega);rw [show ((0:Nat):Int)=0 from rfl] at this;rcases this with ⟨h0,h1⟩ | ⟨u,h0,hu,h1⟩
   ·rw [h0];rw [h1]; rfl
   ·rw [h0,h1,obS];simp only [Sum.elim_inr];cases r.minus with
    | true =>
     rw [if_pos rfl];simp only [Bool.not_true,Bool.false_and,cnF,cnT];unfold w64;rw [IntKind.wrap_i64];congr 2
     omega
    | false =>
     simp only [Bool.not_false,Bool.true_and,cnF];rw [if_neg (by decide)];by_cases h0:u=9223372036854775808
     ·rw [if_pos h0];rw [deT h0,cnT]
     ·rw [if_neg h0];rw [deF h0,cnF];unfold w64;rw [IntKind.wrap_i64];congr 2
      omega
instance memDec (s:BA):(l:List BA)→Decidable (s∈l)
 | []=>isFalse (by simp)
 | x::r=>if h:s=x then isTrue (by simp [h]) else match memDec s r with
  | isTrue h2=>isTrue (List.mem_cons_of_mem _ h2)
  | isFalse h2=>isFalse (by simp [h,h2])
structure NmR (obj:Bool) (nm:MapC) (names:List BA):Prop where
 some_:nm.isSome=obj
 mem:∀s,obj=true→(0<mget nm s↔s∈names)
theorem mfind_mset (l:List (BA × Int)) (s t:BA) (x:Int):mfind (mset l s x) t=if t=s then some x else mfind l t:=by
 induction l with
 | nil =>
  show (bif decide (t=s) then some x else none)=_;by_cases h:t=s
  ·rw [if_pos h,deT h]; rfl
  ·rw [if_neg h,deF h]; rfl
 | cons y r ih =>
  unfold mset;by_cases hs:s=y.1
  ·rw [deT hs,cnT];show (bif decide (t=s) then some x else mfind r t)=_;by_cases h:t=s
   ·rw [if_pos h,deT h]; rfl
   ·rw [if_neg h,deF h,cnF];show mfind r t=(bif decide (t=y.1) then some y.2 else mfind r t);rw [deF (by rw [←hs]; exact h),cnF]
  ·rw [deF hs,cnF];unfold mfind;rw [ih];by_cases hy:t=y.1
   ·rw [deT hy,cnT,cnT,if_neg (by rw [hy]; exact fun h=>hs h.symm)]
   ·rw [deF hy,cnF,cnF]
theorem NmR.put {obj:Bool} {nm:MapC} {names:List BA} (h:NmR obj nm names) (s:BA):NmR obj (mput nm s 1) (names++[s]):=by
 cases nm with
 | none =>
  refine ⟨h.some_,fun t ht=>?_⟩;have:=h.some_;rw [ht] at this;cases this
 | some l =>
  refine ⟨h.some_,fun t ht=>?_⟩;have h2:=h.mem t ht;show 0<(mfind (mset l s 1) t).getD 0↔_;rw [mfind_mset,List.mem_append,List.mem_singleton];by_cases hts:t=s
  ·rw [if_pos hts];exact ⟨fun _=>.inr hts,fun _=>by decide⟩
  ·rw [if_neg hts];exact ⟨fun h=>.inl (h2.1 h),fun h=>h2.2 (h.resolve_right hts)⟩
inductive Rd (α:Type)
 | ok (b:Nat) (x:α)
 | bad (c:Int) (b:Nat)
def qDi (c:Int):Bool:=decide (c=32) || decide (c=9) || decide (c=10) || decide (c=13)
theorem qDm {t:BA} {a:Nat} (h:qDi (bAt t a)=true):a<t.size:=by
 unfold qDi at h;simp only [Bool.or_eq_true,decide_eq_true_eq] at h;have:=(qDr (s:=t) (i:=a) (by omega)).2;omega
def skipN (t:BA):Nat→Nat→Nat
 | 0,a=>a
 | n+1,a=>if qDi (bAt t (a:Int))=true then skipN t n (a+1) else a
@[irreducible] def qA0 (t:BA) (a:Nat):Nat:=skipN t (t.size - a) a
theorem skipS_yes {t:BA} {a:Nat} (h:qDi (bAt t a)=true):qA0 t a=qA0 t (a+1):=by
 have:=qDm h;unfold qA0;rw [show t.size - a=(t.size - (a+1))+1 by omega];show (if qDi (bAt t (a:Int))=true then _ else _)=_;rw [if_pos h]
theorem skipS_no {t:BA} {a:Nat} (h:qDi (bAt t a)=false):qA0 t a=a:=by
 unfold qA0;cases t.size - a with
 | zero=>rfl
 | succ n =>
  show (if qDi (bAt t (a:Int))=true then _ else _)=_;rw [if_neg (by rw [h]; decide)]
theorem qCi (t:BA) (a:Nat):a≤qA0 t a:=by
 by_cases h:qDi (bAt t a)=true
 ·rw [skipS_yes h];have:=qCi t (a+1);omega
 ·rw [skipS_no (by simpa using h)];exact Nat.le_refl _
termination_by t.size - a
decreasing_by have:=qDm h; omega
theorem qBp (t:BA) (a:Nat) (ha:a≤t.size):qA0 t a≤t.size:=by
 by_cases h:qDi (bAt t a)=true
 ·rw [skipS_yes h];exact qBp t (a+1) (by have:=qDm h; omega)
 ·rw [skipS_no (by simpa using h)];exact ha
termination_by t.size - a
decreasing_by have:=qDm h; omega
def digR (t:BA) (a:Nat):Rd Unit:=if qEk t a=a then .bad 31 a else .ok (qEk t a) ()
def litR (t:BA) (w:List Int) (a:Nat):Rd Unit :=
 match w with
 | []=>.ok a ()
 | c::w=>if bAt t a=c then litR t w (a+1) else .bad 31 a
def hexS (c:Int):Int:=if 48≤c∧c≤57 then c - 48 else if 97≤c∧c≤102 then c - 97+10 else if 65≤c∧c≤70 then c - 65+10 else -1
def hexBad (half:Bool) (i:Nat) (u d:Int):Prop:=d<0∨(half=true∧(i=0∧d≠13∨i=1∧d<12))∨(half=false∧i=1∧u=13∧12≤d)
instance (half:Bool) (i:Nat) (u d:Int):Decidable (hexBad half i u d):=by unfold hexBad; exact inferInstance
def fourR (t:BA) (half:Bool) (from_:Nat):Nat→Nat→Nat→Int→Rd Int
 | 0,_,a,u=>.ok a u
 | m+1,i,a,u=>if bAt t a<0 then .bad 31 t.size else if hexBad half i u (hexS (bAt t a)) then .bad 33 from_ else fourR t half from_ m (i+1) (a+1) (16*u+hexS (bAt t a))
def pairR (t:BA) (from_:Nat) (a:Nat) (u:Int):Rd Int :=
 if bAt t a<0 then .bad 31 t.size
 else if bAt t a≠92 then .bad 33 from_
 else if bAt t (a+1:Nat)<0 then .bad 31 t.size
 else if bAt t (a+1:Nat)≠117 then .bad 33 from_
 else match fourR t true from_ 4 0 (a+2) 0 with
  | .bad c b=>.bad c b
  | .ok b w=>.ok b (65536+1024*(u - 55296)+w - 56320)
def saidS (c:Int):Int:=if c=34∨c=92∨c=47 then c else if c=98 then 8 else if c=102 then 12 else if c=110 then 10 else if c=114 then 13 else if c=116 then 9 else -1
def escR (t:BA) (a:Nat):Rd Int :=
 if bAt t (a+1:Nat)<0 then .bad 31 t.size
 else if bAt t (a+1:Nat)=117 then
  match fourR t false a 4 0 (a+2) 0 with
  | .bad c b=>.bad c b
  | .ok b u=>if u<55296∨57343<u then .ok b u else pairR t a b u
 else if saidS (bAt t (a+1:Nat))<0 then .bad 33 a
 else .ok (a+2) (saidS (bAt t (a+1:Nat)))
def utfL (u:Int):List Int :=
 if u<128 then [u] else if u<2048 then [192+u / 64,128+u % 64] else if u<65536 then [224+u / 4096,128+u / 64 % 64,128+u % 64]
 else [240+u / 262144,128+u / 4096 % 64,128+u / 64 % 64,128+u % 64]
def quoR (t:BA):Nat→Nat→List Int→Rd (List Int)
 | 0,a,_=>.bad 31 a
 | n+1,a,acc =>
  if bAt t a<32 then .bad 31 a
  else if bAt t a=34 then .ok (a+1) acc
  else if bAt t a=92 then
   match escR t a with
   | .bad c b=>.bad c b
   | .ok b u=>quoR t n b (acc++utfL u)
  else if bAt t a<128 then quoR t n (a+1) (acc++[bAt t a])
  else if seqK t a=0 then quoR t n (a+seqW t a) (acc++qBx (t.extract a (a+seqW t a)))
  else .bad (seqK t a) (if seqK t a=31 then t.size else a)
def signS (t:BA) (a:Nat):Nat:=if bAt t a=45 then a+1 else a
def zeroR (t:BA) (a:Nat):Rd Unit:=if bAt t a=48 then .ok (a+1) () else digR t a
def dotR (t:BA) (a:Nat):Rd Unit:=if bAt t a=46 then digR t (a+1) else .ok a ()
def powR (t:BA) (a:Nat):Rd Unit :=
 if bAt t a=101∨bAt t a=69 then digR t (if bAt t (a+1:Nat)=43∨bAt t (a+1:Nat)=45 then a+2 else a+1) else .ok a ()
def numR (t:BA) (a:Nat):Rd Unit :=
 match zeroR t (signS t a) with
 | .bad c b=>.bad c b
 | .ok b _ =>
  match dotR t b with
  | .bad c b=>.bad c b
  | .ok b _=>powR t b
def nd0 (k:Int) (x:BA) (w:Bool) (i:Int) (n:Int):Eng.Node:=⟨k,(⟨#[]⟩:BA),x,w,i,n⟩
noncomputable def scalR (t:BA) (a:Nat):Rd (List Eng.Node) :=
 if bAt t a=34 then match quoR t (t.size+1) (a+1) [] with
  | .bad c b=>.bad c b
  | .ok b l=>.ok b [nd0 5 (qBe l) false 0 0]
 else if bAt t a=45∨(48≤bAt t a∧bAt t a≤57) then match numR t a with
  | .bad c b=>.bad c b
  | .ok b _=>.ok b [nd0 4 (t.extract a b) (wholeV (t.extract a b)).2 (wholeV (t.extract a b)).1 0]
 else if bAt t a=110 then match litR t [110,117,108,108] a with
  | .bad c b=>.bad c b
  | .ok b _=>.ok b [nd0 1 ⟨#[]⟩ false 0 0]
 else if bAt t a=102 then match litR t [102,97,108,115,101] a with
  | .bad c b=>.bad c b
  | .ok b _=>.ok b [nd0 2 ⟨#[]⟩ false 0 0]
 else if bAt t a=116 then match litR t [116,114,117,101] a with
  | .bad c b=>.bad c b
  | .ok b _=>.ok b [nd0 3 ⟨#[]⟩ false 0 0]
 else .bad 31 a
def qE5 (k:BA):List Eng.Node→List Eng.Node
 | []=>[]
 | n::r=>⟨n.kind,k,n.text,n.whole,n.int,n.kids⟩::r
def qFu (t:BA) (val:Nat→Rd (List Eng.Node)) (obj:Bool) (names:List BA) (a:Nat):Rd (BA × List Eng.Node) :=
 if obj then
  if bAt t a=34 then match quoR t (t.size+1) (a+1) [] with
   | .bad c b=>.bad c b
   | .ok b l =>
    if qBe l∈names then .bad 34 a
    else if bAt t (qA0 t b)=58 then match val (qA0 t (qA0 t b+1)) with
     | .bad c b=>.bad c b
     | .ok b x=>.ok b (qBe l,qE5 (qBe l) x)
    else .bad 31 (qA0 t b)
  else .bad 31 a
 else match val a with
  | .bad c b=>.bad c b
  | .ok b x=>.ok b (⟨#[]⟩,x)
def lastC (obj:Bool):Int:=if obj then 125 else 93
def rowR (t:BA) (val:Nat→Rd (List Eng.Node)) (obj:Bool):Nat→Nat→Nat→List Eng.Node→List BA→Rd (Nat × List Eng.Node)
 | 0,a,_,_,_=>.bad 31 a
 | m+1,a,k,acc,names =>
  match qFu t val obj names a with
  | .bad c b=>.bad c b
  | .ok b x =>
   if bAt t (qA0 t b)=lastC obj then .ok (qA0 t b+1) (k+1,acc++x.2)
   else if bAt t (qA0 t b)=44 then rowR t val obj m (qA0 t (qA0 t b+1)) (k+1) (acc++x.2) (names++[x.1])
   else .bad 31 (qA0 t b)
def kindC (obj:Bool):Int:=if obj then 7 else 6
def boxR (t:BA) (val:Nat→Rd (List Eng.Node)) (obj:Bool) (a:Nat):Rd (List Eng.Node) :=
 if bAt t (qA0 t (a+1))=lastC obj then .ok (qA0 t (a+1)+1) [nd0 (kindC obj) ⟨#[]⟩ false 0 0]
 else match rowR t val obj (t.size+1) (qA0 t (a+1)) 0 [] [] with
  | .bad c b=>.bad c b
  | .ok b x=>.ok b (nd0 (kindC obj) ⟨#[]⟩ false 0 x.1::x.2)
noncomputable def valR (t:BA):Nat→Nat→Rd (List Eng.Node)
 | 0,a=>if bAt t a=91∨bAt t a=123 then .bad 11 a else scalR t a
 | d+1,a=>if bAt t a=91∨bAt t a=123 then boxR t (valR t d) (decide (bAt t a=123)) a else scalR t a
noncomputable def readR (t:BA):Rd (List Eng.Node) :=
 match valR t 32 (qA0 t 0) with
 | .bad c b=>.bad c b
 | .ok b l=>if qA0 t b<t.size then .bad 31 (qA0 t b) else .ok (qA0 t b) l
theorem qBm {t:BA} {a:Nat} (h:0≤bAt t a):a<t.size:=by
 have:=(qDr h).2;omega
theorem digR_adv {t:BA} {a b:Nat} {x:Unit} (ha:a≤t.size) (h:digR t a=.ok b x):a<b∧b≤t.size∧b=qEk t a:=by
 unfold digR at h;have h1:=manyS_ge t a;have h2:=manyS_le t a ha;split at h
 ·cases h
 ·cases h;omega
theorem litR_adv {t:BA}:∀ {w:List Int} {a b:Nat} {x:Unit},(∀c∈w,0≤c)→litR t w a=.ok b x→b=a+w.length∧(w≠[]→b≤t.size)
 | [],a,b,x,_,h=>by
  cases h;exact ⟨rfl,fun h=>(h rfl).elim⟩
 | c::w,a,b,x,hc,h=>by
  unfold litR at h;split at h
  ·rename_i h1;have h2:=litR_adv (fun c hc'=>hc c (List.mem_cons_of_mem _ hc')) h;have h3:=qBm (t:=t) (a:=a) (by rw [h1]; exact hc c List.mem_cons_self);refine ⟨by rw [h2.1,List.length_cons]; omega,fun _=>?_⟩;cases w with
   | nil=>rw [h2.1]; exact h3
   | cons _ _=>exact h2.2 (by simp)
  ·cases h
theorem qFq (c:Int) : -1≤hexS c∧hexS c≤15:=by
 unfold hexS;repeat' split
 all_goals omega
theorem fourR_ok {t:BA} {half:Bool} {f a b:Nat} {u:Int} (h:fourR t half f 4 0 a 0=.ok b u) :
  b=a+4∧b≤t.size∧0≤u∧u≤65535∧(half=true→56320≤u∧u≤57343)∧(half=false→¬(56320≤u∧u≤57343)):=by
 have r0:=qFq (bAt t a);have r1:=qFq (bAt t (a+1:Nat));have r2:=qFq (bAt t (a+1+1:Nat));have r3:=qFq (bAt t (a+1+1+1:Nat));simp only [fourR] at h;split at h
 ·cases h
 split at h
 ·cases h
 rename_i n0 b0;split at h
 ·cases h
 split at h
 ·cases h
 rename_i n1 b1;split at h
 ·cases h
 split at h
 ·cases h
 rename_i n2 b2;split at h
 ·cases h
 split at h
 ·cases h
 rename_i n3 b3;have h3:=qBm (t:=t) (a:=a+1+1+1) (by omega);simp only [Rd.ok.injEq] at h;obtain ⟨rfl,rfl⟩:=h;unfold hexBad at b0 b1 b2 b3;simp only [not_or] at b0 b1 b2 b3;refine ⟨rfl,by omega,by omega,by omega,fun hh=>?_,fun hh=>?_⟩
 ·subst hh;simp only [true_and,Nat.zero_add] at b0 b1;omega
 ·subst hh;simp only [true_and,Nat.zero_add] at b0 b1;omega
theorem saidS_range (c:Int) : -1≤saidS c∧saidS c≤116:=by
 unfold saidS;repeat' split
 all_goals omega
def Code (u:Int):Prop:=0≤u∧u≤1114111∧¬(55296≤u∧u≤57343)
theorem escR_ok {t:BA} {a b:Nat} {u:Int} (h:escR t a=.ok b u):a<b∧b≤t.size∧Code u:=by
 unfold escR at h;have hr:=saidS_range (bAt t (a+1:Nat));split at h
 ·cases h
 ·rename_i h0;have hl:=qBm (t:=t) (a:=a+1) (by omega);split at h
  ·split at h
   ·cases h
   ·rename_i b' u' hf;have h4:=fourR_ok hf;have h5:=h4.2.2.2.2.2 rfl;split at h
    ·cases h;exact ⟨by omega,h4.2.1,by unfold Code; omega⟩
    ·unfold pairR at h;repeat' split at h
     all_goals first | (cases h; done) | skip
     rename_i hw;have h6:=fourR_ok hw;have h7:=h6.2.2.2.2.1 rfl;cases h;exact ⟨by omega,h6.2.1,by unfold Code; omega⟩
  ·split at h
   ·cases h
   ·cases h;exact ⟨by omega,by omega,by unfold Code; omega⟩
theorem utfL_range {u:Int} (h:Code u):∀x∈utfL u,0≤x∧x<256:=by
 unfold Code at h;unfold utfL;intro x hx;repeat' split at hx
 all_goals
  simp only [List.mem_cons,List.not_mem_nil,or_false] at hx;omega
theorem utfL_len (u:Int):1≤(utfL u).length∧(utfL u).length≤4:=by
 unfold utfL;repeat' split
 all_goals simp
theorem bytesL_range' (s:BA):∀x∈qBx s,0≤x∧x<256:=by
 intro x hx;unfold qBx at hx;rw [List.mem_map] at hx;obtain ⟨b,_,rfl⟩:=hx;have:=b.toNat_lt;omega
theorem quoR_ok {t:BA}:∀ {n a b:Nat} {acc l:List Int},quoR t n a acc=.ok b l→(∀x∈acc,0≤x∧x<256)→a<b∧b≤t.size∧(∀x∈l,0≤x∧x<256)∧l.length≤acc.length+4*(b - a)
 | 0,a,b,acc,l,h,_=>by cases h
 | n+1,a,b,acc,l,h,hacc=>by
  unfold quoR at h;split at h
  ·cases h
  ·rename_i h0;have ha:=qBm (t:=t) (a:=a) (by omega);split at h
   ·cases h;exact ⟨by omega,by omega,hacc,by omega⟩
   ·split at h
    ·split at h
     ·cases h
     ·rename_i b' u he;have h1:=escR_ok he;have h2:=quoR_ok h (by
       intro x hx;rcases List.mem_append.1 hx with hx | hx
       ·exact hacc x hx
       ·exact utfL_range h1.2.2 x hx)
      have h3:=utfL_len u;rw [List.length_append] at h2;exact ⟨by omega,h2.2.1,h2.2.2.1,by omega⟩
    ·split at h
     ·have hb:=bAt_range t a;have h2:=quoR_ok h (by
       intro x hx;rcases List.mem_append.1 hx with hx | hx
       ·exact hacc x hx
       ·rw [List.mem_singleton.1 hx]; omega)
      rw [List.length_append,List.length_singleton] at h2;exact ⟨by omega,h2.2.1,h2.2.2.1,by omega⟩
     ·split at h
      ·rename_i hk;have hw:=seqW_in ha (by have:=by8_in ha; omega) hk;have h2:=quoR_ok h (by
        intro x hx;rcases List.mem_append.1 hx with hx | hx
        ·exact hacc x hx
        ·exact bytesL_range' _ x hx)
       have h3:(qBx (t.extract a (a+seqW t a))).length≤4:=by
        unfold qBx;rw [List.length_map,Array.length_toList];show (t.extract a (a+seqW t a)).size≤4;rw [ByteArray.size_extract];omega
       rw [List.length_append] at h2;exact ⟨by omega,h2.2.1,h2.2.2.1,by omega⟩
      ·cases h
theorem qBt {α:Type} {c:Bool} {p:Prop} [Decidable p] (h:c=true↔p) (x y:α):(bif c then x else y)=if p then x else y:=by
 by_cases hp:p
 ·rw [if_pos hp,h.2 hp,cnT]
 ·rw [if_neg hp];cases c with
  | false=>rfl
  | true=>exact (hp (h.1 rfl)).elim
theorem blank_cond (t:BA) (a:Nat):((decide ((a:Int)<(t.size:Int))) && ((((decide ((bAt t a)=(32:Int))) || (decide ((bAt t a)=(9:Int)))) || (decide ((bAt t a)=(10:Int)))) || (decide ((bAt t a)=(13:Int)))))=qDi (bAt t a):=by
 by_cases h:a<t.size
 ·rw [deT (by omega),Bool.true_and];rfl
 ·rw [deF (by omega),Bool.false_and,qB4 (by omega)];rfl
theorem digR_code {t:BA} {a b:Nat} {c:Int} (h:digR t a=.bad c b):c=31:=by
 unfold digR at h;split at h
 ·cases h; rfl
 ·cases h
theorem ext_le (t:BA) (a b:Nat) (hs:t.size≤3000000):(t.extract a b).size≤3000000:=by
 rw [ByteArray.size_extract];omega
theorem bytesL_cons {s:BA} {i:Nat} (h:i<s.size):(qBx s).drop i=bAt s i::(qBx s).drop (i+1):=by
 have hl:i<(qBx s).length:=by simp only [qBx,List.length_map,Array.length_toList]; exact h
 rw [List.drop_eq_getElem_cons hl];congr 1
 rw [bAt_in h];simp only [qBx,List.getElem_map];rfl
theorem litR_code {t:BA}:∀ {w:List Int} {a b:Nat} {c:Int},litR t w a=.bad c b→c=31
 | [],_,_,_,h=>by cases h
 | _::w,a,b,c,h=>by
  unfold litR at h;split at h
  ·exact litR_code h
  ·cases h; rfl
theorem u8_mod' {x:Int} (h:0≤x∧x<256):x % 256=x:=by omega
theorem fourR_code {t:BA} {hf:Bool} {f:Nat}:∀ {m i a b:Nat} {u c:Int},fourR t hf f m i a u=.bad c b→c=31∨c=33
 | 0,_,_,_,_,_,h=>by cases h
 | m+1,i,a,b,u,c,h=>by
  unfold fourR at h;split at h
  ·cases h; exact .inl rfl
  ·split at h
   ·cases h; exact .inr rfl
   ·exact fourR_code h
theorem escR_code {t:BA} {a b:Nat} {c:Int} (h:escR t a=.bad c b):c=31∨c=33:=by
 unfold escR at h;split at h
 ·cases h; exact .inl rfl
 ·split at h
  ·split at h
   ·rename_i h2;cases h;exact fourR_code h2
   ·split at h
    ·cases h
    ·unfold pairR at h;split at h
     ·cases h; exact .inl rfl
     ·split at h
      ·cases h; exact .inr rfl
      ·split at h
       ·cases h; exact .inl rfl
       ·split at h
        ·cases h; exact .inr rfl
        ·split at h
         ·rename_i h2;cases h;exact fourR_code h2
         ·cases h
  ·split at h
   ·cases h; exact .inr rfl
   ·cases h
theorem quoR_code {t:BA}:∀ {n a b:Nat} {acc:List Int} {c:Int},quoR t n a acc=.bad c b→c=31∨c=32∨c=33
 | 0,_,_,_,_,h=>by cases h; exact .inl rfl
 | n+1,a,b,acc,c,h=>by
  unfold quoR at h;split at h
  ·cases h; exact .inl rfl
  ·split at h
   ·cases h
   ·split at h
    ·split at h
     ·rename_i h2;cases h;rcases escR_code h2 with h3 | h3
      ·exact .inl h3
      ·exact .inr (.inr h3)
     ·exact quoR_code h
    ·split at h
     ·exact quoR_code h
     ·split at h
      ·exact quoR_code h
      ·rename_i h5;have:=seqK_cases t a;simp only [Rd.bad.injEq] at h;omega
end Go.Proofs.YtnifdcmeffnpaaaDoor
