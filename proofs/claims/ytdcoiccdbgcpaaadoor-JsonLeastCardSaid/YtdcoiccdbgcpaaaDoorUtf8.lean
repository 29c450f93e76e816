/-
  unicode/utf8.ValidString, DecodeRuneInString, FullRuneInString: their words (by the kit's shelf; the last by XFull).
-/
import Derived.Shelf.Unicode.ValidAny
import Derived.Shelf.Unicode.DecodeAny
import Derived.Shelf.Lay
import Derived.Ground.NamesProg
import Derived.Test.YtdcoiccdbgcpaaaDoorEngO
import Derived.Test.YtdcoiccdbgcpaaaDoorGC
import Derived.Test.YtdcoiccdbgcpaaaDoorPUtf
import Derived.Test.YtdcoiccdbgcpaaaDoorProg
namespace Go.Proofs.YtdcoiccdbgcpaaaDoor
open Go.Eng
set_option linter.unusedVariables false
set_option linter.unusedSimpArgs false
theorem p_run (s:BA) (h:s.size<9223372036854775807):zad_s s=some (runS s:Int):=by
 unfold zad_s zad_p0;rw [whileO_rule (fun x:Int=>∃k:Nat,x=k∧k≤s.size∧qDn s k=qDn s 0) (fun x=>s.size - x.toNat) (fun _=>(qDn s 0:Int)) ?_ (x:=(0:Int)) ⟨0,rfl,by omega,rfl⟩]
 ·rfl
 rintro _ ⟨k,rfl,hk,hm⟩
 unfold zad_p0_step;have key:((decide ((k:Int)<(s.size:Int)) && decide ((48:Int)≤bAt s k)) && decide (bAt s k≤57))=digS s k:=by
  unfold digS;by_cases hlt:(k:Int)<s.size
  ·simp [hlt]
  ·have:=qB0 hlt;simp [hlt,this]
 rw [key];cases hd:digS s k with
 | true =>
  left;have hlt:=digS_lt hd;refine ⟨((k+1:Nat):Int),?_,⟨k+1,rfl,by omega,by rw [←hm,qCv hd]⟩,by omega,rfl⟩;refine (qAa (fun _=>by omega) _).trans ?_;refine (qAa (fun _=>by omega) _).trans ?_;refine (qAa (by unfold qAh; omega) _).trans ?_;rfl
 | false =>
  right;refine (qAa (fun h=>by have:=of_decide_eq_true h; omega) _).trans ?_;refine (qAa (fun h=>by have:=of_decide_eq_true (Bool.and_eq_true _ _ ▸ h).1; omega) _).trans ?_;show some (Sum.inr (k:Int))=_;rw [←hm,qDa hd]
theorem p_trimL1 (s:BA) (b:Int):zby_s s b=some (trimL s b):=by
 unfold zby_s zby_p0;rw [whileO_rule (fun x:BA=>∃k:Nat,x=s.extract k s.size∧k≤s.size∧leadB s b k=leadB s b 0) (fun x=>x.size) (fun _=>trimL s b) ?_ ⟨0,(all_of s).symm,by omega,rfl⟩]
 ·rfl
 rintro _ ⟨k,rfl,hk,hm⟩
 unfold zby_p0_step;have hz:=qCm s k;have hb:=bAt_tail s k 0 (by omega);simp only [Int.add_zero] at hb;rw [hb];by_cases hq:k<s.size∧bAt s k=b
 ·left;refine ⟨s.extract (k+1) s.size,?_,⟨k+1,rfl,by omega,by rw [←hm,leadB_yes hq]⟩,by rw [qCm,qCm]; omega,rfl⟩;refine (qAa (fun _=>by omega) _).trans ?_;have:(decide ((0:Int)<((s.extract k s.size).size:Int)) && decide (bAt s k=b))=true:=by simp only [Bool.and_eq_true,decide_eq_true_eq]; exact ⟨by omega,hq.2⟩
  rw [this,cnT];refine (qAa (by omega) _).trans ?_;rw [qGx]
 ·right;refine (qAa (fun h=>by have:=of_decide_eq_true h; omega) _).trans ?_;have:(decide ((0:Int)<((s.extract k s.size).size:Int)) && decide (bAt s k=b))=false:=by
   rw [Bool.and_eq_false_iff,decide_eq_false_iff_not,decide_eq_false_iff_not];by_cases h1:k<s.size
   ·exact .inr fun h=>hq ⟨h1,h⟩
   ·exact .inl (by omega)
  rw [this,cnF,trimL,←hm,leadB_no hq]
theorem p_trimR1 (s:BA) (b:Int) (h:s.size<9223372036854775807):zbz_s s b=some (trimR s b):=by
 unfold zbz_s zbz_p0;rw [whileO_rule (fun x:BA=>∃k:Nat,x=s.extract 0 k∧k≤s.size∧backB s b k=backB s b s.size) (fun x=>x.size) (fun _=>trimR s b) ?_ ⟨s.size,(all_of s).symm,by omega,rfl⟩]
 ·rfl
 rintro _ ⟨k,rfl,hk,hm⟩
 unfold zbz_p0_step;have hz:(s.extract 0 k).size=k:=by rw [ByteArray.size_extract]; omega
 simp only [hz];cases k with
 | zero =>
  right;refine (qAa (fun h=>by simp at h) _).trans ?_;refine (qAa (fun h=>by simp at h) _).trans ?_;rw [trimR,←hm];rfl
 | succ n =>
  have hb:bAt (s.extract 0 (n+1)) (((n+1:Nat):Int) - 1)=bAt s n:=by
   rw [qDh s 0 (n+1) _ (by omega) (by omega)];congr 1
   omega
  rw [hb];have e0:decide ((0:Int)<((n+1:Nat):Int))=true:=by simp only [decide_eq_true_eq]; omega
  rw [e0];by_cases hq:bAt s n=b
  ·left;refine ⟨s.extract 0 n,?_,⟨n,rfl,by omega,by rw [←hm]; show _=backB s b (n+1); rw [backB,if_pos hq]⟩,by rw [ByteArray.size_extract]; omega,tV⟩;refine (qAa (fun _=>by unfold qAh; omega) _).trans ?_;refine (qAa (fun _=>by omega) _).trans ?_;have:(true && decide (bAt s n=b))=true:=by simp [hq]
   rw [this,cnT];refine (qAa (by unfold qAh; omega) _).trans ?_;refine (qAa (by omega) _).trans ?_;rw [show Int.toNat (((n+1:Nat):Int) - 1)=n by omega,ByteArray.extract_extract];congr 3
   omega
  ·right;refine (qAa (fun _=>by unfold qAh; omega) _).trans ?_;refine (qAa (fun _=>by omega) _).trans ?_;have:(true && decide (bAt s n=b))=false:=by simp [hq]
   rw [this,cnF,trimR,←hm,backB,if_neg hq]
theorem p_trimL (s:BA):zbw_s s (⟨#[48]⟩:BA)=some (trimL s 48):=by
 unfold zbw_s;have h1:decide ((⟨#[48]⟩:BA)=(⟨#[]⟩:BA))=false:=by decide
 rw [h1,Bool.or_false];by_cases he:s=⟨#[]⟩
 ·rw [deT he,cnT];congr 1
  have:=eq_none.1 he;unfold trimL;rw [he];refine (eq_none.2 ?_).symm;rw [ByteArray.size_extract];have:(⟨#[]⟩:BA).size=0:=rfl;omega
 ·rw [deF he,cnF];refine (qAa (fun _=>by decide) _).trans ?_;have h2:(decide (((⟨#[48]⟩:BA).size:Int)=1) && decide (bAt (⟨#[48]⟩:BA) 0<128))=true:=by decide
  rw [h2,cnT];refine (qAa (by decide) _).trans ?_;rw [show bAt (⟨#[48]⟩:BA) 0=48 by decide,p_trimL1];rfl
theorem p_trimR (s:BA) (h:s.size<9223372036854775807):zbx_s s (⟨#[48]⟩:BA)=some (trimR s 48):=by
 unfold zbx_s;have h1:decide ((⟨#[48]⟩:BA)=(⟨#[]⟩:BA))=false:=by decide
 rw [h1,Bool.or_false];by_cases he:s=⟨#[]⟩
 ·rw [deT he,cnT];congr 1
  have:=eq_none.1 he;unfold trimR;rw [he];refine (eq_none.2 ?_).symm;rw [ByteArray.size_extract];have:(⟨#[]⟩:BA).size=0:=rfl;omega
 ·rw [deF he,cnF];refine (qAa (fun _=>by decide) _).trans ?_;have h2:(decide (((⟨#[48]⟩:BA).size:Int)=1) && decide (bAt (⟨#[48]⟩:BA) 0<128))=true:=by decide
  rw [h2,cnT];refine (qAa (by decide) _).trans ?_;rw [show bAt (⟨#[48]⟩:BA) 0=48 by decide,p_trimR1 s 48 h];rfl
theorem p_cut (s p:BA):zbu_s s p=some (cutPre s p,hasPre s p):=by
 unfold zbu_s zae_s zaf_s;rw [qAa (fun h=>by have:=of_decide_eq_true h; omega)];have e:(decide ((p.size:Int)≤(s.size:Int)) && decide (s.extract 0 (Int.toNat (p.size:Int))=p))=hasPre s p:=by
  simp only [hasPre,Int.ofNat_le,Int.toNat_natCast]
 rw [e];simp only [obS];unfold cutPre;cases h:hasPre s p with
 | true =>
  have:=hasPre_le h;simp only [Bool.not_true,cnF,if_true];rw [qAa (by omega)];simp only [obS,Int.toNat_natCast]
 | false=>simp
def num (n:PNum):decimal_number:=⟨n.minus,n.int,n.digits,n.off,n.plain,n.down,n.exp⟩
theorem hasPre_45 (s:BA):hasPre s (⟨#[45]⟩:BA)=decide (bAt s 0=45):=hasPre_one rfl
theorem hasPre_46 (s:BA):hasPre s (⟨#[46]⟩:BA)=decide (bAt s 0=46):=hasPre_one rfl
theorem cut_45 (s:BA):cutPre s (⟨#[45]⟩:BA)=s.extract (atA s) s.size:=by
 unfold cutPre atA;rw [hasPre_45];by_cases h:bAt s 0=45
 ·simp only [h,decide_true,if_true]; rfl
 ·simp only [h,decide_false,if_false,Bool.false_eq_true,all_of]
theorem or32 {b:Int} (h0:0≤b) (h1:b≤255):decide (qBs .u8 b 32=101)=(decide (b=101) || decide (b=69)):=by
 have key:∀n:Fin 256,decide (qBs .u8 (n.val:Int) 32=101)=(decide ((n.val:Int)=101) || decide ((n.val:Int)=69)):=by decide +kernel
 have:=key ⟨b.toNat,by omega⟩;simpa [Int.toNat_of_nonneg h0] using this
section
variable (s:BA) (hsz:s.size<4000000000000000000)
include hsz
theorem p_read0:zac_p0 (s.extract (atA s) s.size)=some (if badA s=true then .inl false else .inr (s.extract (atB s) s.size,s.extract (atA s) (atB s))):=by
 have hA:=atA_le s;have hAB:=atA_le_atB s;have hB:=atB_le s;have hr:runS (s.extract (atA s) s.size)=atB s - atA s:=runS_tail s (atA s);have hz:=qCm s (atA s);have hb0:=bAt_tail s (atA s) 0 (by omega);simp only [Int.add_zero] at hb0;unfold zac_p0;rw [p_run _ (by omega),obS];refine (qAa (fun h _=>by have:=of_decide_eq_true h; omega) _).trans ?_;have hbad:badA s=(decide ((runS (s.extract (atA s) s.size):Int)=0) || decide (1<(runS (s.extract (atA s) s.size):Int)) && decide (bAt (s.extract (atA s) s.size) 0=48)):=by
  rw [hr,hb0];unfold badA;rw [Bool.and_comm];congr 1
  ·rw [decide_eq_decide]; omega
  ·congr 1
   rw [decide_eq_decide]; omega
 rw [←hbad];cases hbd:badA s with
 | true=>rfl
 | false =>
  simp only [cnF];refine (qAa (by omega) _).trans ?_;refine (qAa (by omega) _).trans ?_;rw [hr,Int.toNat_natCast,head_tail,qGx,show atA s+(atB s - atA s)=atB s by omega,show min (atB s) s.size=atB s by omega];rfl
theorem p_read1:zac_p1 (s.extract (atB s) s.size) (⟨#[]⟩:BA) true=some (if (dotS s && decide (atK s=atB s+1))=true then .inl false else .inr (s.extract (atC s) s.size,fracS s,!dotS s)):=by
 have hb0:=bAt_tail s (atB s) 0 (by omega);simp only [Int.add_zero] at hb0;have hdot:decide (bAt (s.extract (atB s) s.size) 0=46)=dotS s:=by rw [hb0]; rfl
 have hz:=qCm s (atB s);unfold zac_p1;rw [p_cut,obS];simp only [hasPre_46,hdot];cases hd:dotS s with
 | false=>simp [fracS,atC,hd]
 | true =>
  have hBl:=atB_lt hd;have hKl:=atK_le hd;have hKg:=atK_ge s;have hcp:cutPre (s.extract (atB s) s.size) ⟨#[46]⟩=s.extract (atB s+1) s.size:=by
   unfold cutPre;rw [hasPre_46,hdot,hd];exact qGx s (atB s) 1
  have hr:runS (s.extract (atB s+1) s.size)=atK s - (atB s+1):=runS_tail s (atB s+1);have hz1:=qCm s (atB s+1);simp only [hcp,cnT];rw [p_run _ (by omega),obS];have hq:decide ((runS (s.extract (atB s+1) s.size):Int)=0)=decide (atK s=atB s+1):=by rw [hr,decide_eq_decide]; omega
  rw [hq];cases hk:decide (atK s=atB s+1) with
  | true=>rfl
  | false =>
   simp only [cnF];refine (qAa (by omega) _).trans ?_;refine (qAa (by omega) _).trans ?_;rw [hr,Int.toNat_natCast,head_tail,qGx,show atB s+1+(atK s - (atB s+1))=atK s by omega,show min (atK s) s.size=atK s by omega];simp [fracS,atC,hd]
theorem p_read3 (he:expS s=true):zac_p3 (s.extract (atE s) s.size)=some (if badE s=true then .inl false else .inr ((⟨#[]⟩:BA),false,(qGu s).exp)):=by
 have hEl:=atE_le he;have hFl:=atF_le he;have hFg:=atF_ge s;have hr:runS (s.extract (atE s) s.size)=atF s - atE s:=runS_tail s (atE s);have hz2:=qCm s (atE s);have hne2:=tail_none s (atE s);unfold zac_p3;by_cases hn:s.extract (atE s) s.size=⟨#[]⟩
 ·have:badE s=true:=by simp [badE,he,hne2.1 hn]
  rw [deT hn,this];rfl
 ·rw [deF hn,cnF,p_run _ (by omega),obS,hr,hz2];have hle:¬s.size≤atE s:=fun h=>hn (hne2.2 h)
  have hbe:(!decide (((atF s - atE s:Nat):Int)=((s.size - atE s:Nat):Int)))=badE s:=by
   unfold badE;rw [he,Bool.true_and,deF hle,Bool.false_or,←decide_not,decide_eq_decide];omega
  rw [hbe];cases hb:badE s with
  | true=>rfl
  | false =>
   simp only [cnF];rw [p_trimL,obS];simp [qGu,he,expT]
theorem p_read2 (pl:Bool):zac_p2 (s.extract (atC s) s.size) pl false (⟨#[]⟩:BA)=some (if badE s=true then .inl (false,expS s && decide (bAt s (atC s+1)=45)) else .inr (if expS s=true then ⟨#[]⟩ else s.extract (atC s) s.size,pl && !expS s,expS s && decide (bAt s (atC s+1)=45),(qGu s).exp)):=by
 have hC:=atC_le s;have hb0:=bAt_tail s (atC s) 0 (by omega);simp only [Int.add_zero] at hb0;have hz:=qCm s (atC s);have hrg:=qF0 s (atC s);have hne:=tail_none s (atC s);have hexp:(!decide (s.extract (atC s) s.size=⟨#[]⟩) && decide (qBs .u8 (bAt (s.extract (atC s) s.size) 0) 32=101))=expS s:=by
  unfold expS;rw [hb0];by_cases he:s.size≤atC s
  ·have:bAt s (atC s) = -1:=qB0 (by omega);simp [hne.2 he,this]
  ·have hn:¬s.extract (atC s) s.size=⟨#[]⟩:=fun e=>he (hne.1 e)
   have h0:0≤bAt s (atC s):=bAt_nn (by omega) (by omega);rw [or32 h0 hrg.2];simp [hn]
 unfold zac_p2;refine (qAa (fun h=>by
  have:¬s.size≤atC s:=fun h'=>by simp [hne.2 h'] at h
  omega) _).trans ?_
 rw [hexp];cases he:expS s with
 | false=>simp [qGu,he,badE]
 | true =>
  have hCl:=atC_lt he;have hEl:=atE_le he;have hb1:=bAt_tail s (atC s+1) 0 (by omega);simp only [Int.add_zero] at hb1;have hz1:=qCm s (atC s+1);have hne1:=tail_none s (atC s+1);have htt:(s.extract (atC s) s.size).extract 1 (s.extract (atC s) s.size).size=s.extract (atC s+1) s.size:=qGx s (atC s) 1;simp only [cnT];refine (qAa (by omega) _).trans ?_;simp only [htt];refine (qAa (fun h=>by
   have:¬s.size≤atC s+1:=fun h'=>by simp [hne1.2 h'] at h
   omega) _).trans ?_
  refine (qAa (fun _ h=>by
   have:¬s.size≤atC s+1:=fun h'=>by simp [hne1.2 h'] at h
   omega) _).trans ?_
  have hsg:(!decide (s.extract (atC s+1) s.size=⟨#[]⟩) && (decide (bAt (s.extract (atC s+1) s.size) 0=43) || decide (bAt (s.extract (atC s+1) s.size) 0=45)))=sgnS s:=by
   unfold sgnS;rw [hb1];by_cases h:s.size≤atC s+1
   ·have:bAt s ((atC s+1:Nat):Int) = -1:=qB0 (by omega);have h2:bAt s ((atC s:Int)+1) = -1:=by rw [←this]; rfl
    simp [hne1.2 h,h2]
   ·have hn:¬s.extract (atC s+1) s.size=⟨#[]⟩:=fun e=>h (hne1.1 e)
    simp [hn]
  rw [hsg];cases hs:sgnS s with
  | false =>
   have hnd:¬bAt s ((atC s:Int)+1)=45:=fun e=>by simp [sgnS,e] at hs
   have hE:s.extract (atC s+1) s.size=s.extract (atE s) s.size:=by simp [atE,hs]
   simp only [cnF];rw [hE,p_read3 s hsz he,obS];cases badE s <;> simp [hnd]
  | true =>
   have hsl:=sgn_lt hs;have hE:(s.extract (atC s+1) s.size).extract 1 (s.extract (atC s+1) s.size).size=s.extract (atE s) s.size:=by rw [qGx]; simp [atE,hs]
   have hb1':bAt (s.extract (atC s+1) s.size) 0=bAt s ((atC s:Int)+1):=hb1;simp only [cnT];refine (qAa (by omega) _).trans ?_;refine (qAa (by omega) _).trans ?_;rw [hE,p_read3 s hsz he,obS,hb1'];cases badE s <;> simp
theorem p_read4:zac_p4 (if expS s=true then ⟨#[]⟩ else s.extract (atC s) s.size) (fracS s) (s.extract (atA s) (atB s)) (expS s && decide (bAt s (atC s+1)=45)) (qGu s).exp=some (expS s || decide (s.size≤atC s),(qGu s).digits,(qGu s).off,(qGu s).down):=by
 have hne:=tail_none s (atC s);have hi:(s.extract (atA s) (atB s)).size≤s.size:=by rw [ByteArray.size_extract]; omega
 have hfr:(fracS s).size≤s.size:=by
  unfold fracS;split
  ·rw [ByteArray.size_extract]; omega
  ·exact Nat.zero_le _
 have hap:(s.extract (atA s) (atB s)++fracS s).size=(s.extract (atA s) (atB s)).size+(fracS s).size:=ByteArray.size_append;have htl:(trimL (s.extract (atA s) (atB s)++fracS s) 48).size≤(s.extract (atA s) (atB s)++fracS s).size:=by rw [trimL,ByteArray.size_extract]; omega
 have hrest:decide ((if expS s=true then ⟨#[]⟩ else s.extract (atC s) s.size)=(⟨#[]⟩:BA))=(expS s || decide (s.size≤atC s)):=by
  cases he:expS s
  ·simp [hne]
  ·simp
 have hdn:(qGu s).down=(expS s && decide (bAt s (atC s+1)=45) && !decide ((qGu s).exp=⟨#[]⟩)):=by
  cases he:expS s
  ·simp [qGu,he]
  ·simp [qGu,he]
 unfold zac_p4;refine (qAa (by omega) _).trans ?_;rw [p_trimL,obS];refine (qAa (by unfold qAh; omega) _).trans ?_;refine (qAa (by unfold qAh; omega) _).trans ?_;rw [p_trimR _ (by omega),obS,hrest,hdn];cases decide ((qGu s).exp=⟨#[]⟩) <;> simp [qGu]
theorem p_readA (m:Bool) (hm:m=decide (bAt s 0=45)):((zac_p0 (s.extract (atA s) s.size)).bind fun o3=>(Sum.elim (fun (o3_0:Bool) =>
   some ((⟨m,(⟨#[]⟩:BA),(⟨#[]⟩:BA),(0:Int),true,false,(⟨#[]⟩:BA)⟩:decimal_number),o3_0)) (fun (o3_1:BA × BA) =>
   (zac_p1 o3_1.1 (⟨#[]⟩:BA) true).bind fun o6=>(Sum.elim (fun (o6_0:Bool) =>
    some ((⟨m,o3_1.2,(⟨#[]⟩:BA),(0:Int),true,false,(⟨#[]⟩:BA)⟩:decimal_number),o6_0)) (fun (o6_1:BA × BA × Bool) =>
    (zac_p2 o6_1.1 o6_1.2.2 false (⟨#[]⟩:BA)).bind fun o11=>(Sum.elim (fun (o11_0:Bool × Bool) =>
     some ((⟨m,o3_1.2,(⟨#[]⟩:BA),(0:Int),o6_1.2.2,o11_0.2,(⟨#[]⟩:BA)⟩:decimal_number),o11_0.1)) (fun (o11_1:BA × Bool × Bool × BA) =>
     (zac_p4 o11_1.1 o6_1.2.1 o3_1.2 o11_1.2.2.1 o11_1.2.2.2).bind fun o14 =>
     some ((⟨m,o3_1.2,o14.2.1,o14.2.2.1,o11_1.2.1,o14.2.2.2,o11_1.2.2.2⟩:decimal_number),o14.1))) o11)) o6)) o3)=some (num (qFj s),qDl s):=by
 subst hm;rw [p_read0 s hsz,obS];cases hbd:badA s with
 | true =>
  have hro:qDl s=false:=by simp [qDl,hbd]
  rw [progAll_1 hbd,hro];rfl
 | false =>
  simp only [Bool.false_eq_true,if_false,Sum.elim_inr];rw [p_read1 s hsz,obS];cases hdk:(dotS s && decide (atK s=atB s+1)) with
  | true =>
   have hro:qDl s=false:=by simp only [qDl,hbd,hdk,Bool.not_true,Bool.not_false,Bool.and_false,Bool.false_and]
   rw [progAll_2 hbd hdk,hro];rfl
  | false =>
   simp only [Bool.false_eq_true,if_false,Sum.elim_inr];rw [p_read2 s hsz,obS];cases hbe:badE s with
   | true =>
    have hro:qDl s=false:=by
     rw [←progOk_eq];simp [progOk,hbe]
    rw [progAll_3 hbd hdk hbe,hro];rfl
   | false =>
    have hro:qDl s=(expS s || decide (s.size≤atC s)):=by
     rw [←progOk_eq];simp only [progOk,hbd,hdk,hbe,Bool.not_false,Bool.true_and]
    simp only [Bool.false_eq_true,if_false,Sum.elim_inr];rw [p_read4 s hsz,obS,progAll_4 hbd hdk hbe,hro];rfl
theorem p_read:zac_s s 0=some (num (qFj s),qDl s):=by
 unfold zac_s;rw [deT rfl,cnT,p_cut,obS,hasPre_45,cut_45];exact p_readA s hsz _ rfl
end
end Go.Proofs.YtdcoiccdbgcpaaaDoor
namespace Go.Proofs.YtdcoiccdbgcpaaaDoor
open Go.Eng
set_option linter.unusedVariables false
set_option linter.unusedSimpArgs false
theorem p_Valid (s:BA) (hs:s.size≤3000000):zaa_s s=some (qDl s):=by
 unfold zaa_s;rw [p_read s (by omega)];rfl
def wholeI (t:BA):Nat→Nat→Int→Option Int
 | 0,_,v=>some v
 | j+1,i,v=>if (9223372036854775808 - (bAt t (i:Int) - 48) % 256) / 10<v then none else wholeI t j (i+1) (10*v+(bAt t (i:Int) - 48) % 256)
def qCk (s:BA):Int × Bool :=
 if qDl s=true∧(readS s).plain=true then match wholeI (readS s).text (readS s).text.size 0 0 with
  | none=>(0,false)
  | some u=>if (readS s).minus=true then (-u,true) else if u=9223372036854775808 then (0,false) else (u,true)
 else (0,false)
theorem wholeV_no {s:BA} (h:¬(qDl s=true∧(readS s).plain=true)):qCk s=(0,false):=if_neg h
theorem wholeV_yes {s:BA} (h:qDl s=true∧(readS s).plain=true):qCk s=match wholeI (readS s).text (readS s).text.size 0 0 with
  | none=>(0,false)
  | some u=>if (readS s).minus=true then (-u,true) else if u=9223372036854775808 then (0,false) else (u,true):=if_pos h
theorem whole_pj (t:BA) (hs:t.size≤3000000):∀(j i:Nat) (v:Int),i+j=t.size→0≤v∧v≤9223372036854775808 →
  (wholeI t j i v=none∧zab_p0 v (t.size:Int) (i:Int) t=some (.inl (0,false))) ∨
  (∃u:Int,wholeI t j i v=some u∧(0≤u∧u≤9223372036854775808)∧zab_p0 v (t.size:Int) (i:Int) t=some (.inr u))
 | 0,i,v,h,hv=>by
  refine .inr ⟨v,rfl,hv,?_⟩;unfold zab_p0;refine qAq ?_;unfold qEd;dsimp only;rw [deF (by omega),cnF]
 | j+1,i,v,h,hv=>by
  obtain ⟨d,hd⟩:∃d,d=(bAt t i - 48) % 256:=⟨_,rfl⟩;have hd2:0≤d∧d<256:=by omega
  have e1:(9223372036854775808 - d % 18446744073709551616) % 18446744073709551616=9223372036854775808 - d:=by omega
  have s1:qEd v (t.size:Int) (i:Int) t=if (9223372036854775808 - d) / 10<v then some (.inr (.inl (0,false))) else some (.inl (10*v+d,((i+1:Nat):Int))):=by
   unfold qEd;rw [←hd,deT (by omega),cnT];refine (qAa (by omega) _).trans ?_;rw [e1];refine (qAa (by omega) _).trans ?_;by_cases hl:(9223372036854775808 - d) / 10<v
   ·rw [deT hl,cnT,if_pos hl]
   ·rw [deF hl,cnF,if_neg hl];refine (qAa (by unfold qAh; omega) _).trans ?_;rw [show (10*v % 18446744073709551616+d % 18446744073709551616) % 18446744073709551616=10*v+d by omega];rfl
  by_cases hl:(9223372036854775808 - d) / 10<v
  ·have hw:wholeI t (j+1) i v=none:=by unfold wholeI; rw [←hd,if_pos hl]
   rw [if_pos hl] at s1;refine .inl ⟨hw,?_⟩;unfold zab_p0;exact qAq s1
  ·have hw:wholeI t (j+1) i v=wholeI t j (i+1) (10*v+d):=by rw [wholeI,←hd,if_neg hl]
   rw [if_neg hl] at s1;have ih:=whole_pj t hs j (i+1) (10*v+d) (by omega) (by omega);have w1:zab_p0 v (t.size:Int) (i:Int) t=zab_p0 (10*v+d) (t.size:Int) ((i+1:Nat):Int) t:=by
    unfold zab_p0;exact qAt s1
   rw [hw,w1];exact ih
theorem whole_j (s:BA) (hs:s.size≤3000000):zab_s s=some (qCk s):=by
 unfold zab_s;rw [p_read s (by omega),obS];cases hr:qDl s with
 | false =>
  rw [wholeV_no (by rw [hr]; simp)];rfl
 | true =>
  rw [progAll_ok hr];have hp:(num (qGu s)).plain=(rnum (readS s)).plain:=rfl;simp only [Bool.not_true,Bool.false_or];rw [hp];cases hpl:(rnum (readS s)).plain with
  | false =>
   have hpl:(readS s).plain=false:=hpl;rw [wholeV_no (by rw [hpl]; simp)];rfl
  | true =>
   have hpl:(readS s).plain=true:=hpl;rw [wholeV_yes ⟨hr,hpl⟩];generalize hrs:readS s=r at *
   simp only [Bool.not_true,cnF];have ht:(num (qGu s)).whole=r.text:=by rw [←hrs]; rfl
   have hm:(num (qGu s)).minus=r.minus:=by rw [←hrs]; rfl
   rw [ht,hm];have hz:(rnum r).text.size≤3000000:=by
    rw [←hrs];show (s.extract _ _).size≤_;rw [ByteArray.size_extract]; omega
   have et:(rnum r).text=r.text:=rfl;have em:(rnum r).minus=r.minus:=rfl;rw [et] at hz;have:=whole_pj r.text hz r.text.size 0 0 (by omega) (by omega);rw [show ((0:Nat):Int)=0 from rfl] at this;rcases this with ⟨h0,h1⟩ | ⟨u,h0,hu,h1⟩
   ·rw [h0];rw [h1]; rfl
   ·rw [h0,h1,obS];simp only [Sum.elim_inr];cases r.minus with
    | true =>
     rw [if_pos rfl];simp only [Bool.not_true,Bool.false_and,cnF,cnT];unfold w64;rw [IntKind.wrap_i64];congr 2
     omega
    | false =>
     simp only [Bool.not_false,Bool.true_and,cnF];rw [if_neg (by decide)];by_cases h0:u=9223372036854775808
     ·rw [if_pos h0];rw [deT h0,cnT]
     ·rw [if_neg h0];rw [deF h0,cnF];unfold w64;rw [IntKind.wrap_i64];congr 2
      omega
end Go.Proofs.YtdcoiccdbgcpaaaDoor
namespace Go.Proofs
open Go.Shelf
shelf_lay Lays.n196 Nm 196 at Tryd as Tryd.laysValid
shelf_lay Lays.n197 Nm 197 at Tryd as Tryd.laysDecode
end Go.Proofs
namespace Go.Proofs.YtdcoiccdbgcpaaaDoor
open Go.Eng
set_option linter.unusedVariables false
set_option linter.unusedSimpArgs false
theorem stays_below {w w':World} (h:Go.RowKit.Below w.heap.size w w'):Stays (fun _=>False) w w':=⟨h.os,h.output,h.size,fun k hk _=>h.block k hk⟩
theorem given_cont {α β γ:Type} {A:Dec α (List SV)} {B:Dec β (List SB)} (f:α→Option γ) (v:γ→SV) (args:List SV) (hp:List SB) (R:Type) (k:SV→List SB→Option R) :
  ((Dec.d A args).bind fun x=>(Dec.d B hp).bind fun y=>(f x).bind fun r=>k (v r) [])=(((Dec.d A args).bind fun x=>(Dec.d B hp).bind fun y=>(f x).bind fun r=>some (v r,([]:List SB))):Option (SV × List SB)).bind fun z=>k z.1 z.2:=by
 cases Dec.d A args with
 | none=>rfl
 | some x =>
  cases Dec.d B hp with
  | none=>rfl
  | some y=>simp only [obS,Option.bind_assoc]
def utf8_da:=(qAb (dVC (dCO dS)) dNil)
def utf8_db:=(dNil:Dec Unit (List SB))
noncomputable def qBb (s:BA):Option Bool:=gd (s.size≤9223372036854775807) (some (Lib.validD s.data.toList))
noncomputable def qGf:CS:=fun args hp R k=>(Dec.d utf8_da args).bind fun x=>(Dec.d utf8_db hp).bind fun y=>(qBb x.1).bind fun r=>k (.c (.o (.val (.bool r)))) []
theorem utf8_ValidString_val:qAp Tryd.prog 79 qGf:=by
 refine ⟨fun args hp R k=>given_cont (A:=utf8_da) (B:=utf8_db) (fun x=>qBb x.1) (fun r=>.c (.o (.val (.bool r)))) args hp R k,fun args hp v hp' hC hlt X w ρ hhp=>?_⟩;obtain ⟨x,h1,h2⟩:=Option.bind_eq_some_iff.1 hC;obtain ⟨y,h3,h4⟩:=Option.bind_eq_some_iff.1 h2;obtain ⟨r,h5,h6⟩:=Option.bind_eq_some_iff.1 h4;obtain ⟨hi,h7⟩:=gd_some.1 h5;rw [Dec.ok _ _ _ h1];have hhp':=Dec.ok _ _ _ h3;obtain ⟨s,u⟩:=x;simp only [snJ,Prod.mk.injEq] at h6 h7;obtain ⟨rfl,rfl⟩:=h6;simp only at hi;subst h7;rw [hhp'] at hhp ⊢;refine (Any.utf8_ValidString Tryd.laysValid s w hi hhp.tab.1).mono ?_;rintro e w' ⟨rfl,hb⟩
 obtain ⟨g1,g2⟩:=hhp.past ⟨rfl,rfl,Nat.le_refl _,fun k _ _=>rfl⟩ (stays_below hb);exact ⟨ρ,fun _ _=>rfl,Nat.le_refl _,rfl,trivial,g1,g2⟩
noncomputable def qDy:CQ:=qEg [] qGf
theorem qFz:qAe Tryd.prog 79 qDy:=qAz utf8_ValidString_val
noncomputable def qBc (s:BA):Option (Int × Int):=some (((Lib.decodeGo s).1:Int),((Lib.decodeGo s).2:Int))
noncomputable def qC8:CS:=fun args hp R k=>(Dec.d utf8_da args).bind fun x=>(Dec.d utf8_db hp).bind fun y=>(qBc x.1).bind fun r=>k (.tup [.o (.val (.int .i32 r.1)),.o (.val (.int .i64 r.2))]) []
theorem qFu:qAp Tryd.prog 194 qC8:=by
 refine ⟨fun args hp R k=>given_cont (A:=utf8_da) (B:=utf8_db) (fun x=>qBc x.1) (fun r=>.tup [.o (.val (.int .i32 r.1)),.o (.val (.int .i64 r.2))]) args hp R k,fun args hp v hp' hC hlt X w ρ hhp=>?_⟩;obtain ⟨x,h1,h2⟩:=Option.bind_eq_some_iff.1 hC;obtain ⟨y,h3,h4⟩:=Option.bind_eq_some_iff.1 h2;obtain ⟨r,h5,h6⟩:=Option.bind_eq_some_iff.1 h4;rw [Dec.ok _ _ _ h1];have hhp':=Dec.ok _ _ _ h3;obtain ⟨s,u⟩:=x;simp only [qBc,snJ,Prod.mk.injEq] at h6 h5;obtain ⟨rfl,rfl⟩:=h6;subst h5;rw [hhp'] at hhp ⊢;refine (Any.utf8_DecodeRuneInString Tryd.laysDecode s w hhp.tab.1).mono ?_;rintro e w' ⟨rfl,hb⟩
 obtain ⟨g1,g2⟩:=hhp.past ⟨rfl,rfl,Nat.le_refl _,fun k _ _=>rfl⟩ (stays_below hb);exact ⟨ρ,fun _ _=>rfl,Nat.le_refl _,rfl,fun c hc=>by simp only [List.mem_cons,List.not_mem_nil,or_false] at hc; rcases hc with rfl | rfl <;> trivial,g1,g2⟩
noncomputable def qC4:CQ:=qEg [] qC8
theorem qF2:qAe Tryd.prog 194 qC4:=qAz qFu
noncomputable def qBr (s:BA):Option Bool:=gd (s.size≤9223372036854775807) (some (fullS s))
noncomputable def qDv:CS:=fun args hp R k=>(Dec.d utf8_da args).bind fun x=>(Dec.d utf8_db hp).bind fun y=>(qBr x.1).bind fun r=>k (.c (.o (.val (.bool r)))) []
theorem qGk:qAp Tryd.prog 195 qDv:=by
 refine ⟨fun args hp R k=>given_cont (A:=utf8_da) (B:=utf8_db) (fun x=>qBr x.1) (fun r=>.c (.o (.val (.bool r)))) args hp R k,fun args hp v hp' hC hlt X w ρ hhp=>?_⟩;obtain ⟨x,h1,h2⟩:=Option.bind_eq_some_iff.1 hC;obtain ⟨y,h3,h4⟩:=Option.bind_eq_some_iff.1 h2;obtain ⟨r,h5,h6⟩:=Option.bind_eq_some_iff.1 h4;obtain ⟨hi,h7⟩:=gd_some.1 h5;rw [Dec.ok _ _ _ h1];have hhp':=Dec.ok _ _ _ h3;obtain ⟨s,u⟩:=x;simp only [snJ,Prod.mk.injEq] at h6 h7;obtain ⟨rfl,rfl⟩:=h6;simp only at hi;subst h7;rw [hhp'] at hhp ⊢;refine (full_run s w hi hhp.tab.1).mono ?_;rintro e w' ⟨rfl,hb⟩
 obtain ⟨g1,g2⟩:=hhp.past ⟨rfl,rfl,Nat.le_refl _,fun k _ _=>rfl⟩ (stays_below hb);exact ⟨ρ,fun _ _=>rfl,Nat.le_refl _,rfl,trivial,g1,g2⟩
noncomputable def qDt:CQ:=qEg [] qDv
theorem qGq:qAe Tryd.prog 195 qDt:=qAz qGk
end Go.Proofs.YtdcoiccdbgcpaaaDoor
