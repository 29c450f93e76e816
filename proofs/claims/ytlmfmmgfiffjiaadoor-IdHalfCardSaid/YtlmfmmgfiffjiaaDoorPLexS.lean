/-
  Texts of a claim.
-/
import Derived.Lib.ValidLaws
import Derived.Lib.DecodeNEq
import Derived.Test.YtlmfmmgfiffjiaaDoorPShaped
import Derived.Test.YtlmfmmgfiffjiaaDoorJP
set_option linter.unusedSimpArgs false
set_option linter.unusedVariables false
namespace Go.Proofs.YtlmfmmgfiffjiaaDoor
open Go.Eng
def by8 (t:BA) (i:Nat):Nat:=(t.get! i).toNat
theorem by8_lt (t:BA) (i:Nat):by8 t i<256:=UInt8.toNat_lt _
theorem by8_in {t:BA} {i:Nat} (h:i<t.size):bAt t (i:Int)=(by8 t i:Int):=by
 rw [bAt_in h];unfold by8;congr 2
 cases t with
 | mk d=>exact (getElem!_pos d i h).symm
def contN (n:Nat) (b:Nat→Nat):Nat→Nat→Nat→Nat→Int
 | 0,_,_,_=>0
 | m+1,i,lo,hi=>if n≤i then 31 else if b i<lo∨hi<b i then 32 else contN n b m (i+1) 128 191
theorem contN_cases (n:Nat) (b:Nat→Nat):∀(m i lo hi:Nat),contN n b m i lo hi=0∨contN n b m i lo hi=31∨contN n b m i lo hi=32
 | 0,_,_,_=>.inl rfl
 | m+1,i,lo,hi=>by
  unfold contN;split
  ·exact .inr (.inl rfl)
  ·split
   ·exact .inr (.inr rfl)
   ·exact contN_cases n b m _ _ _
theorem firstT_low:∀c:Fin 256,128≤c.val→Lib.firstT c.val≠240:=by decide +kernel
def seqK (t:BA) (a:Nat):Int :=
 if Lib.firstT (by8 t a)=241 then 32 else contN (t.size - a) (fun k=>by8 t (a+k)) (Lib.firstT (by8 t a) % 8 - 1) 1 (Lib.accLo (Lib.firstT (by8 t a) / 16)) (Lib.accHi (Lib.firstT (by8 t a) / 16))
def seqW (t:BA) (a:Nat):Nat:=Lib.firstT (by8 t a) % 8
theorem seqK_cases (t:BA) (a:Nat):seqK t a=0∨seqK t a=31∨seqK t a=32:=by
 unfold seqK;split
 ·exact .inr (.inr rfl)
 ·exact contN_cases _ _ _ _ _ _
theorem firstT_three {b:Nat} (h:128≤b) (hb:b<256) (h2:Lib.firstT b≠241):2≤Lib.firstT b % 8∧Lib.firstT b % 8≤4:=by
 have:=firstT_low ⟨b,hb⟩ h;rcases Lib.firstT_cases b with h | h | h | h | h | h | h | h | h <;> simp only [h] at * <;> omega
theorem contN_in {n:Nat} {b:Nat→Nat}:∀ {m i lo hi:Nat},contN n b m i lo hi=0→m=0∨i+m≤n
 | 0,_,_,_,_=>.inl rfl
 | m+1,i,lo,hi,h=>by
  unfold contN at h;split at h
  ·cases h
  ·split at h
   ·cases h
   ·rcases contN_in h with h | h <;> omega
theorem seqW_in {t:BA} {a:Nat} (ha:a<t.size) (h:128≤by8 t a) (h0:seqK t a=0):a+seqW t a≤t.size∧2≤seqW t a∧seqW t a≤4:=by
 unfold seqK at h0;unfold seqW;split at h0
 ·cases h0
 ·rename_i h1;have:=firstT_three h (by8_lt t a) h1;rcases contN_in h0 with h2 | h2 <;> omega
set_option maxRecDepth 100000 in
set_option maxHeartbeats 4000000 in
theorem seq_dec {t:BA} {a:Nat} (ha:a<t.size) (h:128≤by8 t a) :
  (seqK t a=0→(Utf8.decode t a).2=seqW t a) ∧
  (seqK t a≠0→Utf8.decode t a=(65533,1)∧(qFq (t.size - a) (by8 t a) (by8 t (a+1)) (by8 t (a+2))=!decide (seqK t a=31))):=by
 have l0:=by8_lt t a;have l1:=by8_lt t (a+1);have l2:=by8_lt t (a+2);have l3:=by8_lt t (a+3);have hd:Utf8.decode t a=Lib.decodeN (t.size - a) (by8 t a) (by8 t (a+1)) (by8 t (a+2)) (by8 t (a+3)):=Lib.decode_at t a;have hf:=firstT_low ⟨by8 t a,l0⟩ h;simp only at hf;rw [hd];unfold seqK seqW;by_cases h1:Lib.firstT (by8 t a)=241
 ·rw [if_pos h1];refine ⟨fun h=>(by cases h),fun _=>⟨Lib.bad_eq _ _ _ _ _ l0 h1,?_⟩⟩;unfold qFq;rw [if_neg (by omega),h1,if_pos (by omega)];rfl
 ·rw [if_neg h1,←Lib.slow_eq _ _ _ _ _ (by omega) l1 l2 l3 (by rcases Lib.firstT_cases (by8 t a) with h | h | h | h | h | h | h | h | h <;> omega)]
  have hn:1≤t.size - a:=by omega
  generalize t.size - a=n at *
  unfold qFq;generalize hb1:by8 t (a+1)=b1 at *
  generalize hb2:by8 t (a+2)=b2 at *
  generalize hb3:by8 t (a+3)=b3 at *
  generalize by8 t a=b0 at *
  rcases Lib.firstT_cases b0 with g | g | g | g | g | g | g | g | g <;> first | exact (hf g).elim | exact (h1 g).elim | rw [g]
  all_goals
   simp only [Nat.reduceMod,Nat.reduceDiv,Nat.reduceSub,contN,Lib.slowN,Lib.accLo,Lib.accHi,Nat.reduceEqDiff,Nat.reduceAdd,Nat.reduceLeDiff,if_true,if_false,hb1,hb2,hb3];repeat' split
   all_goals first | (exfalso; omega) | (refine ⟨fun h=>?_,fun h=>⟨?_,?_⟩⟩ <;> first | rfl | (exfalso; omega) | (cases h) | (exact (h rfl).elim))
end Go.Proofs.YtlmfmmgfiffjiaaDoor
namespace Go.Proofs.YtlmfmmgfiffjiaaDoor
open Go.Eng
theorem p_run (s:BA) (h:s.size<9223372036854775807):zak_s s=some (runS s:Int):=by
 unfold zak_s zak_p0;rw [whileO_rule (fun x:Int=>∃k:Nat,x=k∧k≤s.size∧qE3 s k=qE3 s 0) (fun x=>s.size - x.toNat) (fun _=>(qE3 s 0:Int)) ?_ (x:=(0:Int)) ⟨0,rfl,by omega,rfl⟩]
 ·rfl
 rintro _ ⟨k,rfl,hk,hm⟩
 unfold zak_p0_step;have key:((decide ((k:Int)<(s.size:Int)) && decide ((48:Int)≤bAt s k)) && decide (bAt s k≤57))=digS s k:=by
  unfold digS;by_cases hlt:(k:Int)<s.size
  ·simp [hlt]
  ·have:=qB6 hlt;simp [hlt,this]
 rw [key];cases hd:digS s k with
 | true =>
  left;have hlt:=digS_lt hd;refine ⟨((k+1:Nat):Int),?_,⟨k+1,rfl,by omega,by rw [←hm,qE4 hd]⟩,by omega,rfl⟩;refine (qAb (fun _=>by omega) _).trans ?_;refine (qAb (fun _=>by omega) _).trans ?_;refine (qAb (by unfold qAc; omega) _).trans ?_;rfl
 | false =>
  right;refine (qAb (fun h=>by have:=of_decide_eq_true h; omega) _).trans ?_;refine (qAb (fun h=>by have:=of_decide_eq_true (Bool.and_eq_true _ _ ▸ h).1; omega) _).trans ?_;show some (Sum.inr (k:Int))=_;rw [←hm,manyS_no hd]
theorem p_trimL1 (s:BA) (b:Int):zcv_s s b=some (trimL s b):=by
 unfold zcv_s zcv_p0;rw [whileO_rule (fun x:BA=>∃k:Nat,x=s.extract k s.size∧k≤s.size∧leadB s b k=leadB s b 0) (fun x=>x.size) (fun _=>trimL s b) ?_ ⟨0,(all_of s).symm,by omega,rfl⟩]
 ·rfl
 rintro _ ⟨k,rfl,hk,hm⟩
 unfold zcv_p0_step;have hz:=qCd s k;have hb:=bAt_tail s k 0 (by omega);simp only [Int.add_zero] at hb;rw [hb];by_cases hq:k<s.size∧bAt s k=b
 ·left;refine ⟨s.extract (k+1) s.size,?_,⟨k+1,rfl,by omega,by rw [←hm,leadB_yes hq]⟩,by rw [qCd,qCd]; omega,rfl⟩;refine (qAb (fun _=>by omega) _).trans ?_;have:(decide ((0:Int)<((s.extract k s.size).size:Int)) && decide (bAt s k=b))=true:=by simp only [Bool.and_eq_true,decide_eq_true_eq]; exact ⟨by omega,hq.2⟩
  rw [this,cnT];refine (qAb (by omega) _).trans ?_;rw [qGs]
 ·right;refine (qAb (fun h=>by have:=of_decide_eq_true h; omega) _).trans ?_;have:(decide ((0:Int)<((s.extract k s.size).size:Int)) && decide (bAt s k=b))=false:=by
   rw [Bool.and_eq_false_iff,decide_eq_false_iff_not,decide_eq_false_iff_not];by_cases h1:k<s.size
   ·exact .inr fun h=>hq ⟨h1,h⟩
   ·exact .inl (by omega)
  rw [this,cnF,trimL,←hm,leadB_no hq]
theorem p_trimR1 (s:BA) (b:Int) (h:s.size<9223372036854775807):zcw_s s b=some (trimR s b):=by
 unfold zcw_s zcw_p0;rw [whileO_rule (fun x:BA=>∃k:Nat,x=s.extract 0 k∧k≤s.size∧backB s b k=backB s b s.size) (fun x=>x.size) (fun _=>trimR s b) ?_ ⟨s.size,(all_of s).symm,by omega,rfl⟩]
 ·rfl
 rintro _ ⟨k,rfl,hk,hm⟩
 unfold zcw_p0_step;have hz:(s.extract 0 k).size=k:=by rw [ByteArray.size_extract]; omega
 simp only [hz];cases k with
 | zero =>
  right;refine (qAb (fun h=>by simp at h) _).trans ?_;refine (qAb (fun h=>by simp at h) _).trans ?_;rw [trimR,←hm];rfl
 | succ n =>
  have hb:bAt (s.extract 0 (n+1)) (((n+1:Nat):Int) - 1)=bAt s n:=by
   rw [bAt_extract s 0 (n+1) _ (by omega) (by omega)];congr 1
   omega
  rw [hb];have e0:decide ((0:Int)<((n+1:Nat):Int))=true:=by simp only [decide_eq_true_eq]; omega
  rw [e0];by_cases hq:bAt s n=b
  ·left;refine ⟨s.extract 0 n,?_,⟨n,rfl,by omega,by rw [←hm]; show _=backB s b (n+1); rw [backB,if_pos hq]⟩,by rw [ByteArray.size_extract]; omega,tV⟩;refine (qAb (fun _=>by unfold qAc; omega) _).trans ?_;refine (qAb (fun _=>by omega) _).trans ?_;have:(true && decide (bAt s n=b))=true:=by simp [hq]
   rw [this,cnT];refine (qAb (by unfold qAc; omega) _).trans ?_;refine (qAb (by omega) _).trans ?_;rw [show Int.toNat (((n+1:Nat):Int) - 1)=n by omega,ByteArray.extract_extract];congr 3
   omega
  ·right;refine (qAb (fun _=>by unfold qAc; omega) _).trans ?_;refine (qAb (fun _=>by omega) _).trans ?_;have:(true && decide (bAt s n=b))=false:=by simp [hq]
   rw [this,cnF,trimR,←hm,backB,if_neg hq]
theorem p_trimL (s:BA):zct_s s (⟨#[48]⟩:BA)=some (trimL s 48):=by
 unfold zct_s;have h1:decide ((⟨#[48]⟩:BA)=(⟨#[]⟩:BA))=false:=by decide
 rw [h1,Bool.or_false];by_cases he:s=⟨#[]⟩
 ·rw [deT he,cnT];congr 1
  have:=eq_none.1 he;unfold trimL;rw [he];refine (eq_none.2 ?_).symm;rw [ByteArray.size_extract];have:(⟨#[]⟩:BA).size=0:=rfl;omega
 ·rw [deF he,cnF];refine (qAb (fun _=>by decide) _).trans ?_;have h2:(decide (((⟨#[48]⟩:BA).size:Int)=1) && decide (bAt (⟨#[48]⟩:BA) 0<128))=true:=by decide
  rw [h2,cnT];refine (qAb (by decide) _).trans ?_;rw [show bAt (⟨#[48]⟩:BA) 0=48 by decide,p_trimL1];rfl
theorem p_trimR (s:BA) (h:s.size<9223372036854775807):zcu_s s (⟨#[48]⟩:BA)=some (trimR s 48):=by
 unfold zcu_s;have h1:decide ((⟨#[48]⟩:BA)=(⟨#[]⟩:BA))=false:=by decide
 rw [h1,Bool.or_false];by_cases he:s=⟨#[]⟩
 ·rw [deT he,cnT];congr 1
  have:=eq_none.1 he;unfold trimR;rw [he];refine (eq_none.2 ?_).symm;rw [ByteArray.size_extract];have:(⟨#[]⟩:BA).size=0:=rfl;omega
 ·rw [deF he,cnF];refine (qAb (fun _=>by decide) _).trans ?_;have h2:(decide (((⟨#[48]⟩:BA).size:Int)=1) && decide (bAt (⟨#[48]⟩:BA) 0<128))=true:=by decide
  rw [h2,cnT];refine (qAb (by decide) _).trans ?_;rw [show bAt (⟨#[48]⟩:BA) 0=48 by decide,p_trimR1 s 48 h];rfl
theorem p_cut (s p:BA):zcr_s s p=some (cutPre s p,hasPre s p):=by
 unfold zcr_s zaz_s zba_s;rw [qAb (fun h=>by have:=of_decide_eq_true h; omega)];have e:(decide ((p.size:Int)≤(s.size:Int)) && decide (s.extract 0 (Int.toNat (p.size:Int))=p))=hasPre s p:=by
  simp only [hasPre,Int.ofNat_le,Int.toNat_natCast]
 rw [e];simp only [obS];unfold cutPre;cases h:hasPre s p with
 | true =>
  have:=hasPre_le h;simp only [Bool.not_true,cnF,if_true];rw [qAb (by omega)];simp only [obS,Int.toNat_natCast]
 | false=>simp
def num (n:PNum):decimal_number:=⟨n.minus,n.int,n.digits,n.off,n.plain,n.down,n.exp⟩
theorem hasPre_45 (s:BA):hasPre s (⟨#[45]⟩:BA)=decide (bAt s 0=45):=hasPre_one rfl
theorem hasPre_46 (s:BA):hasPre s (⟨#[46]⟩:BA)=decide (bAt s 0=46):=hasPre_one rfl
theorem cut_45 (s:BA):cutPre s (⟨#[45]⟩:BA)=s.extract (atA s) s.size:=by
 unfold cutPre atA;rw [hasPre_45];by_cases h:bAt s 0=45
 ·simp only [h,decide_true,if_true]; rfl
 ·simp only [h,decide_false,if_false,Bool.false_eq_true,all_of]
theorem or32 {b:Int} (h0:0≤b) (h1:b≤255):decide (qAk .u8 b 32=101)=(decide (b=101) || decide (b=69)):=by
 have key:∀n:Fin 256,decide (qAk .u8 (n.val:Int) 32=101)=(decide ((n.val:Int)=101) || decide ((n.val:Int)=69)):=by decide +kernel
 have:=key ⟨b.toNat,by omega⟩;simpa [Int.toNat_of_nonneg h0] using this
section
variable (s:BA) (hsz:s.size<4000000000000000000)
include hsz
theorem p_read0:zaj_p0 (s.extract (atA s) s.size)=some (if badA s=true then .inl false else .inr (s.extract (atB s) s.size,s.extract (atA s) (atB s))):=by
 have hA:=atA_le s;have hAB:=atA_le_atB s;have hB:=atB_le s;have hr:runS (s.extract (atA s) s.size)=atB s - atA s:=runS_tail s (atA s);have hz:=qCd s (atA s);have hb0:=bAt_tail s (atA s) 0 (by omega);simp only [Int.add_zero] at hb0;unfold zaj_p0;rw [p_run _ (by omega),obS];refine (qAb (fun h _=>by have:=of_decide_eq_true h; omega) _).trans ?_;have hbad:badA s=(decide ((runS (s.extract (atA s) s.size):Int)=0) || decide (1<(runS (s.extract (atA s) s.size):Int)) && decide (bAt (s.extract (atA s) s.size) 0=48)):=by
  rw [hr,hb0];unfold badA;rw [Bool.and_comm];congr 1
  ·rw [decide_eq_decide]; omega
  ·congr 1
   rw [decide_eq_decide]; omega
 rw [←hbad];cases hbd:badA s with
 | true=>rfl
 | false =>
  simp only [cnF];refine (qAb (by omega) _).trans ?_;refine (qAb (by omega) _).trans ?_;rw [hr,Int.toNat_natCast,head_tail,qGs,show atA s+(atB s - atA s)=atB s by omega,show min (atB s) s.size=atB s by omega];rfl
theorem p_read1:zaj_p1 (s.extract (atB s) s.size) (⟨#[]⟩:BA) true=some (if (dotS s && decide (atK s=atB s+1))=true then .inl false else .inr (s.extract (atC s) s.size,fracS s,!dotS s)):=by
 have hb0:=bAt_tail s (atB s) 0 (by omega);simp only [Int.add_zero] at hb0;have hdot:decide (bAt (s.extract (atB s) s.size) 0=46)=dotS s:=by rw [hb0]; rfl
 have hz:=qCd s (atB s);unfold zaj_p1;rw [p_cut,obS];simp only [hasPre_46,hdot];cases hd:dotS s with
 | false=>simp [fracS,atC,hd]
 | true =>
  have hBl:=atB_lt hd;have hKl:=atK_le hd;have hKg:=atK_ge s;have hcp:cutPre (s.extract (atB s) s.size) ⟨#[46]⟩=s.extract (atB s+1) s.size:=by
   unfold cutPre;rw [hasPre_46,hdot,hd];exact qGs s (atB s) 1
  have hr:runS (s.extract (atB s+1) s.size)=atK s - (atB s+1):=runS_tail s (atB s+1);have hz1:=qCd s (atB s+1);simp only [hcp,cnT];rw [p_run _ (by omega),obS];have hq:decide ((runS (s.extract (atB s+1) s.size):Int)=0)=decide (atK s=atB s+1):=by rw [hr,decide_eq_decide]; omega
  rw [hq];cases hk:decide (atK s=atB s+1) with
  | true=>rfl
  | false =>
   simp only [cnF];refine (qAb (by omega) _).trans ?_;refine (qAb (by omega) _).trans ?_;rw [hr,Int.toNat_natCast,head_tail,qGs,show atB s+1+(atK s - (atB s+1))=atK s by omega,show min (atK s) s.size=atK s by omega];simp [fracS,atC,hd]
theorem p_read3 (he:expS s=true):zaj_p3 (s.extract (atE s) s.size)=some (if badE s=true then .inl false else .inr ((⟨#[]⟩:BA),false,(qGp s).exp)):=by
 have hEl:=atE_le he;have hFl:=atF_le he;have hFg:=atF_ge s;have hr:runS (s.extract (atE s) s.size)=atF s - atE s:=runS_tail s (atE s);have hz2:=qCd s (atE s);have hne2:=tail_none s (atE s);unfold zaj_p3;by_cases hn:s.extract (atE s) s.size=⟨#[]⟩
 ·have:badE s=true:=by simp [badE,he,hne2.1 hn]
  rw [deT hn,this];rfl
 ·rw [deF hn,cnF,p_run _ (by omega),obS,hr,hz2];have hle:¬s.size≤atE s:=fun h=>hn (hne2.2 h)
  have hbe:(!decide (((atF s - atE s:Nat):Int)=((s.size - atE s:Nat):Int)))=badE s:=by
   unfold badE;rw [he,Bool.true_and,deF hle,Bool.false_or,←decide_not,decide_eq_decide];omega
  rw [hbe];cases hb:badE s with
  | true=>rfl
  | false =>
   simp only [cnF];rw [p_trimL,obS];simp [qGp,he,expT]
theorem p_read2 (pl:Bool):zaj_p2 (s.extract (atC s) s.size) pl false (⟨#[]⟩:BA)=some (if badE s=true then .inl (false,expS s && decide (bAt s (atC s+1)=45)) else .inr (if expS s=true then ⟨#[]⟩ else s.extract (atC s) s.size,pl && !expS s,expS s && decide (bAt s (atC s+1)=45),(qGp s).exp)):=by
 have hC:=atC_le s;have hb0:=bAt_tail s (atC s) 0 (by omega);simp only [Int.add_zero] at hb0;have hz:=qCd s (atC s);have hrg:=bAt_range s (atC s);have hne:=tail_none s (atC s);have hexp:(!decide (s.extract (atC s) s.size=⟨#[]⟩) && decide (qAk .u8 (bAt (s.extract (atC s) s.size) 0) 32=101))=expS s:=by
  unfold expS;rw [hb0];by_cases he:s.size≤atC s
  ·have:bAt s (atC s) = -1:=qB6 (by omega);simp [hne.2 he,this]
  ·have hn:¬s.extract (atC s) s.size=⟨#[]⟩:=fun e=>he (hne.1 e)
   have h0:0≤bAt s (atC s):=bAt_nn (by omega) (by omega);rw [or32 h0 hrg.2];simp [hn]
 unfold zaj_p2;refine (qAb (fun h=>by
  have:¬s.size≤atC s:=fun h'=>by simp [hne.2 h'] at h
  omega) _).trans ?_
 rw [hexp];cases he:expS s with
 | false=>simp [qGp,he,badE]
 | true =>
  have hCl:=atC_lt he;have hEl:=atE_le he;have hb1:=bAt_tail s (atC s+1) 0 (by omega);simp only [Int.add_zero] at hb1;have hz1:=qCd s (atC s+1);have hne1:=tail_none s (atC s+1);have htt:(s.extract (atC s) s.size).extract 1 (s.extract (atC s) s.size).size=s.extract (atC s+1) s.size:=qGs s (atC s) 1;simp only [cnT];refine (qAb (by omega) _).trans ?_;simp only [htt];refine (qAb (fun h=>by
   have:¬s.size≤atC s+1:=fun h'=>by simp [hne1.2 h'] at h
   omega) _).trans ?_
  refine (qAb (fun _ h=>by
   have:¬s.size≤atC s+1:=fun h'=>by simp [hne1.2 h'] at h
   omega) _).trans ?_
  have hsg:(!decide (s.extract (atC s+1) s.size=⟨#[]⟩) && (decide (bAt (s.extract (atC s+1) s.size) 0=43) || decide (bAt (s.extract (atC s+1) s.size) 0=45)))=sgnS s:=by
   unfold sgnS;rw [hb1];by_cases h:s.size≤atC s+1
   ·have:bAt s ((atC s+1:Nat):Int) = -1:=qB6 (by omega);have h2:bAt s ((atC s:Int)+1) = -1:=by rw [←this]; rfl
    simp [hne1.2 h,h2]
   ·have hn:¬s.extract (atC s+1) s.size=⟨#[]⟩:=fun e=>h (hne1.1 e)
    simp [hn]
  rw [hsg];cases hs:sgnS s with
  | false =>
   have hnd:¬bAt s ((atC s:Int)+1)=45:=fun e=>by simp [sgnS,e] at hs
   have hE:s.extract (atC s+1) s.size=s.extract (atE s) s.size:=by simp [atE,hs]
   simp only [cnF];rw [hE,p_read3 s hsz he,obS];cases badE s <;> simp [hnd]
  | true =>
   have hsl:=sgn_lt hs;have hE:(s.extract (atC s+1) s.size).extract 1 (s.extract (atC s+1) s.size).size=s.extract (atE s) s.size:=by rw [qGs]; simp [atE,hs]
   have hb1':bAt (s.extract (atC s+1) s.size) 0=bAt s ((atC s:Int)+1):=hb1;simp only [cnT];refine (qAb (by omega) _).trans ?_;refine (qAb (by omega) _).trans ?_;rw [hE,p_read3 s hsz he,obS,hb1'];cases badE s <;> simp
theorem p_read4:zaj_p4 (if expS s=true then ⟨#[]⟩ else s.extract (atC s) s.size) (fracS s) (s.extract (atA s) (atB s)) (expS s && decide (bAt s (atC s+1)=45)) (qGp s).exp=some (expS s || decide (s.size≤atC s),(qGp s).digits,(qGp s).off,(qGp s).down):=by
 have hne:=tail_none s (atC s);have hi:(s.extract (atA s) (atB s)).size≤s.size:=by rw [ByteArray.size_extract]; omega
 have hfr:(fracS s).size≤s.size:=by
  unfold fracS;split
  ·rw [ByteArray.size_extract]; omega
  ·exact Nat.zero_le _
 have hap:(s.extract (atA s) (atB s)++fracS s).size=(s.extract (atA s) (atB s)).size+(fracS s).size:=ByteArray.size_append;have htl:(trimL (s.extract (atA s) (atB s)++fracS s) 48).size≤(s.extract (atA s) (atB s)++fracS s).size:=by rw [trimL,ByteArray.size_extract]; omega
 have hrest:decide ((if expS s=true then ⟨#[]⟩ else s.extract (atC s) s.size)=(⟨#[]⟩:BA))=(expS s || decide (s.size≤atC s)):=by
  cases he:expS s
  ·simp [hne]
  ·simp
 have hdn:(qGp s).down=(expS s && decide (bAt s (atC s+1)=45) && !decide ((qGp s).exp=⟨#[]⟩)):=by
  cases he:expS s
  ·simp [qGp,he]
  ·simp [qGp,he]
 unfold zaj_p4;refine (qAb (by omega) _).trans ?_;rw [p_trimL,obS];refine (qAb (by unfold qAc; omega) _).trans ?_;refine (qAb (by unfold qAc; omega) _).trans ?_;rw [p_trimR _ (by omega),obS,hrest,hdn];cases decide ((qGp s).exp=⟨#[]⟩) <;> simp [qGp]
theorem p_readA (m:Bool) (hm:m=decide (bAt s 0=45)):((zaj_p0 (s.extract (atA s) s.size)).bind fun o3=>(Sum.elim (fun (o3_0:Bool) =>
   some ((⟨m,(⟨#[]⟩:BA),(⟨#[]⟩:BA),(0:Int),true,false,(⟨#[]⟩:BA)⟩:decimal_number),o3_0)) (fun (o3_1:BA × BA) =>
   (zaj_p1 o3_1.1 (⟨#[]⟩:BA) true).bind fun o6=>(Sum.elim (fun (o6_0:Bool) =>
    some ((⟨m,o3_1.2,(⟨#[]⟩:BA),(0:Int),true,false,(⟨#[]⟩:BA)⟩:decimal_number),o6_0)) (fun (o6_1:BA × BA × Bool) =>
    (zaj_p2 o6_1.1 o6_1.2.2 false (⟨#[]⟩:BA)).bind fun o11=>(Sum.elim (fun (o11_0:Bool × Bool) =>
     some ((⟨m,o3_1.2,(⟨#[]⟩:BA),(0:Int),o6_1.2.2,o11_0.2,(⟨#[]⟩:BA)⟩:decimal_number),o11_0.1)) (fun (o11_1:BA × Bool × Bool × BA) =>
     (zaj_p4 o11_1.1 o6_1.2.1 o3_1.2 o11_1.2.2.1 o11_1.2.2.2).bind fun o14 =>
     some ((⟨m,o3_1.2,o14.2.1,o14.2.2.1,o11_1.2.1,o14.2.2.2,o11_1.2.2.2⟩:decimal_number),o14.1))) o11)) o6)) o3)=some (num (qE7 s),qE8 s):=by
 subst hm;rw [p_read0 s hsz,obS];cases hbd:badA s with
 | true =>
  have hro:qE8 s=false:=by simp [qE8,hbd]
  rw [progAll_1 hbd,hro];rfl
 | false =>
  simp only [Bool.false_eq_true,if_false,Sum.elim_inr];rw [p_read1 s hsz,obS];cases hdk:(dotS s && decide (atK s=atB s+1)) with
  | true =>
   have hro:qE8 s=false:=by simp only [qE8,hbd,hdk,Bool.not_true,Bool.not_false,Bool.and_false,Bool.false_and]
   rw [progAll_2 hbd hdk,hro];rfl
  | false =>
   simp only [Bool.false_eq_true,if_false,Sum.elim_inr];rw [p_read2 s hsz,obS];cases hbe:badE s with
   | true =>
    have hro:qE8 s=false:=by
     rw [←progOk_eq];simp [progOk,hbe]
    rw [progAll_3 hbd hdk hbe,hro];rfl
   | false =>
    have hro:qE8 s=(expS s || decide (s.size≤atC s)):=by
     rw [←progOk_eq];simp only [progOk,hbd,hdk,hbe,Bool.not_false,Bool.true_and]
    simp only [Bool.false_eq_true,if_false,Sum.elim_inr];rw [p_read4 s hsz,obS,progAll_4 hbd hdk hbe,hro];rfl
theorem p_read:zaj_s s 0=some (num (qE7 s),qE8 s):=by
 unfold zaj_s;rw [deT rfl,cnT,p_cut,obS,hasPre_45,cut_45];exact p_readA s hsz _ rfl
end
end Go.Proofs.YtlmfmmgfiffjiaaDoor
namespace Go.Proofs.YtlmfmmgfiffjiaaDoor
open Go.Eng
def wholeI (t:BA):Nat→Nat→Int→Option Int
 | 0,_,v=>some v
 | j+1,i,v=>if (9223372036854775808 - (bAt t (i:Int) - 48) % 256) / 10<v then none else wholeI t j (i+1) (10*v+(bAt t (i:Int) - 48) % 256)
def wholeV (s:BA):Int × Bool :=
 if qE8 s=true∧(readS s).plain=true then match wholeI (readS s).text (readS s).text.size 0 0 with
  | none=>(0,false)
  | some u=>if (readS s).minus=true then (-u,true) else if u=9223372036854775808 then (0,false) else (u,true)
 else (0,false)
theorem wholeV_no {s:BA} (h:¬(qE8 s=true∧(readS s).plain=true)):wholeV s=(0,false):=if_neg h
theorem wholeV_yes {s:BA} (h:qE8 s=true∧(readS s).plain=true):wholeV s=match wholeI (readS s).text (readS s).text.size 0 0 with
  | none=>(0,false)
  | some u=>if (readS s).minus=true then (-u,true) else if u=9223372036854775808 then (0,false) else (u,true):=if_pos h
theorem whole_pj (t:BA) (hs:t.size≤3000000):∀(j i:Nat) (v:Int),i+j=t.size→0≤v∧v≤9223372036854775808 →
  (wholeI t j i v=none∧zai_p0 v (t.size:Int) (i:Int) t=some (.inl (0,false))) ∨
  (∃u:Int,wholeI t j i v=some u∧(0≤u∧u≤9223372036854775808)∧zai_p0 v (t.size:Int) (i:Int) t=some (.inr u))
 | 0,i,v,h,hv=>by
  refine .inr ⟨v,rfl,hv,?_⟩;unfold zai_p0;refine qAj ?_;unfold qDv;dsimp only;rw [deF (by omega),cnF]
 | j+1,i,v,h,hv=>by
  obtain ⟨d,hd⟩:∃d,d=(bAt t i - 48) % 256:=⟨_,rfl⟩;have hd2:0≤d∧d<256:=by omega
  have e1:(9223372036854775808 - d % 18446744073709551616) % 18446744073709551616=9223372036854775808 - d:=by omega
  have s1:qDv v (t.size:Int) (i:Int) t=if (9223372036854775808 - d) / 10<v then some (.inr (.inl (0,false))) else some (.inl (10*v+d,((i+1:Nat):Int))):=by
   unfold qDv;rw [←hd,deT (by omega),cnT];refine (qAb (by omega) _).trans ?_;rw [e1];refine (qAb (by omega) _).trans ?_;by_cases hl:(9223372036854775808 - d) / 10<v
   ·rw [deT hl,cnT,if_pos hl]
   ·rw [deF hl,cnF,if_neg hl];refine (qAb (by unfold qAc; omega) _).trans ?_;rw [show (10*v % 18446744073709551616+d % 18446744073709551616) % 18446744073709551616=10*v+d by omega];rfl
  by_cases hl:(9223372036854775808 - d) / 10<v
  ·have hw:wholeI t (j+1) i v=none:=by unfold wholeI; rw [←hd,if_pos hl]
   rw [if_pos hl] at s1;refine .inl ⟨hw,?_⟩;unfold zai_p0;exact qAj s1
  ·have hw:wholeI t (j+1) i v=wholeI t j (i+1) (10*v+d):=by rw [wholeI,←hd,if_neg hl]
   rw [if_neg hl] at s1;have ih:=whole_pj t hs j (i+1) (10*v+d) (by omega) (by omega);have w1:zai_p0 v (t.size:Int) (i:Int) t=zai_p0 (10*v+d) (t.size:Int) ((i+1:Nat):Int) t:=by
    unfold zai_p0;exact qAu s1
   rw [hw,w1];exact ih
theorem whole_j (s:BA) (hs:s.size≤3000000):zai_s s=some (wholeV s):=by
 unfold zai_s;rw [p_read s (by omega),obS];cases hr:qE8 s with
 | false =>
  rw [wholeV_no (by rw [hr]; simp)];rfl
 | true =>
  rw [progAll_ok hr];have hp:(num (qGp s)).plain=(readS s).plain:=rfl;simp only [Bool.not_true,Bool.false_or];rw [hp];cases hpl:(readS s).plain with
  | false =>
   have hpl:(readS s).plain=false:=hpl;rw [wholeV_no (by rw [hpl]; simp)];rfl
  | true =>
   have hpl:(readS s).plain=true:=hpl;rw [wholeV_yes ⟨hr,hpl⟩];generalize hrs:readS s=r at *
   simp only [Bool.not_true,cnF];have ht:(num (qGp s)).whole=r.text:=by rw [←hrs]; rfl
   have hm:(num (qGp s)).minus=r.minus:=by rw [←hrs]; rfl
   rw [ht,hm];have hz:r.text.size≤3000000:=by
    rw [←hrs];show (s.extract _ _).size≤_;rw [ByteArray.size_extract]; omega
   have et:r.text=r.text:=rfl;have em:r.minus=r.minus:=rfl;rw [et] at hz;have:=whole_pj r.text hz r.text.size 0 0 (by omega) (by omega);rw [show ((0:Nat):Int)=0 from rfl] at this;rcases this with ⟨h0,h1⟩ | ⟨u,h0,hu,h1⟩
   ·rw [h0];rw [h1]; rfl
   ·rw [h0,h1,obS];simp only [Sum.elim_inr];cases r.minus with
    | true =>
     rw [if_pos rfl];simp only [Bool.not_true,Bool.false_and,cnF,cnT];unfold w64;rw [IntKind.wrap_i64];congr 2
     omega
    | false =>
     simp only [Bool.not_false,Bool.true_and,cnF];rw [if_neg (by decide)];by_cases h0:u=9223372036854775808
     ·rw [if_pos h0];rw [deT h0,cnT]
     ·rw [if_neg h0];rw [deF h0,cnF];unfold w64;rw [IntKind.wrap_i64];congr 2
      omega
instance memDec (s:BA):(l:List BA)→Decidable (s∈l)
 | []=>isFalse (by simp)
 | x::r=>if h:s=x then isTrue (by simp [h]) else match memDec s r with
  | isTrue h2=>isTrue (List.mem_cons_of_mem _ h2)
  | isFalse h2=>isFalse (by simp [h,h2])
def qBf (v:List Eng.Node) (a:Nat):BA:=(v.getD a (ET.dft .node)).key
structure NmR (obj:Bool) (nm:MapC) (names:List BA):Prop where
 some_:nm.isSome=obj
 mem:∀s,obj=true→(0<mget nm s↔s∈names)
theorem mfind_mset (l:List (BA × Int)) (s t:BA) (x:Int):mfind (mset l s x) t=if t=s then some x else mfind l t:=by
 induction l with
 | nil =>
  show (bif decide (t=s) then some x else none)=_;by_cases h:t=s
  ·rw [if_pos h,deT h]; rfl
  ·rw [if_neg h,deF h]; rfl
 | cons y r ih =>
  unfold mset;by_cases hs:s=y.1
  ·rw [deT hs,cnT];show (bif decide (t=s) then some x else mfind r t)=_;by_cases h:t=s
   ·rw [if_pos h,deT h]; rfl
   ·rw [if_neg h,deF h,cnF];show mfind r t=(bif decide (t=y.1) then some y.2 else mfind r t);rw [deF (by rw [←hs]; exact h),cnF]
  ·rw [deF hs,cnF];unfold mfind;rw [ih];by_cases hy:t=y.1
   ·rw [deT hy,cnT,cnT,if_neg (by rw [hy]; exact fun h=>hs h.symm)]
   ·rw [deF hy,cnF,cnF]
theorem NmR.put {obj:Bool} {nm:MapC} {names:List BA} (h:NmR obj nm names) (s:BA):NmR obj (mput nm s 1) (names++[s]):=by
 cases nm with
 | none =>
  refine ⟨h.some_,fun t ht=>?_⟩;have:=h.some_;rw [ht] at this;cases this
 | some l =>
  refine ⟨h.some_,fun t ht=>?_⟩;have h2:=h.mem t ht;show 0<(mfind (mset l s 1) t).getD 0↔_;rw [mfind_mset,List.mem_append,List.mem_singleton];by_cases hts:t=s
  ·rw [if_pos hts];exact ⟨fun _=>.inr hts,fun _=>by decide⟩
  ·rw [if_neg hts];exact ⟨fun h=>.inl (h2.1 h),fun h=>h2.2 (h.resolve_right hts)⟩
inductive Rd (α:Type)
 | ok (b:Nat) (x:α)
 | bad (c:Int) (b:Nat)
def qDn (c:Int):Bool:=decide (c=32) || decide (c=9) || decide (c=10) || decide (c=13)
theorem qDo {t:BA} {a:Nat} (h:qDn (bAt t a)=true):a<t.size:=by
 unfold qDn at h;simp only [Bool.or_eq_true,decide_eq_true_eq] at h;have:=(qD7 (s:=t) (i:=a) (by omega)).2;omega
def skipN (t:BA):Nat→Nat→Nat
 | 0,a=>a
 | n+1,a=>if qDn (bAt t (a:Int))=true then skipN t n (a+1) else a
@[irreducible] def qA8 (t:BA) (a:Nat):Nat:=skipN t (t.size - a) a
theorem skipS_yes {t:BA} {a:Nat} (h:qDn (bAt t a)=true):qA8 t a=qA8 t (a+1):=by
 have:=qDo h;unfold qA8;rw [show t.size - a=(t.size - (a+1))+1 by omega];show (if qDn (bAt t (a:Int))=true then _ else _)=_;rw [if_pos h]
theorem skipS_no {t:BA} {a:Nat} (h:qDn (bAt t a)=false):qA8 t a=a:=by
 unfold qA8;cases t.size - a with
 | zero=>rfl
 | succ n =>
  show (if qDn (bAt t (a:Int))=true then _ else _)=_;rw [if_neg (by rw [h]; decide)]
theorem qDg (t:BA) (a:Nat):a≤qA8 t a:=by
 by_cases h:qDn (bAt t a)=true
 ·rw [skipS_yes h];have:=qDg t (a+1);omega
 ·rw [skipS_no (by simpa using h)];exact Nat.le_refl _
termination_by t.size - a
decreasing_by have:=qDo h; omega
theorem qD4 (t:BA) (a:Nat) (ha:a≤t.size):qA8 t a≤t.size:=by
 by_cases h:qDn (bAt t a)=true
 ·rw [skipS_yes h];exact qD4 t (a+1) (by have:=qDo h; omega)
 ·rw [skipS_no (by simpa using h)];exact ha
termination_by t.size - a
decreasing_by have:=qDo h; omega
def digR (t:BA) (a:Nat):Rd Unit:=if qE3 t a=a then .bad 31 a else .ok (qE3 t a) ()
def litR (t:BA) (w:List Int) (a:Nat):Rd Unit :=
 match w with
 | []=>.ok a ()
 | c::w=>if bAt t a=c then litR t w (a+1) else .bad 31 a
def hexS (c:Int):Int:=if 48≤c∧c≤57 then c - 48 else if 97≤c∧c≤102 then c - 97+10 else if 65≤c∧c≤70 then c - 65+10 else -1
def hexBad (half:Bool) (i:Nat) (u d:Int):Prop:=d<0∨(half=true∧(i=0∧d≠13∨i=1∧d<12))∨(half=false∧i=1∧u=13∧12≤d)
instance (half:Bool) (i:Nat) (u d:Int):Decidable (hexBad half i u d):=by unfold hexBad; exact inferInstance
def fourR (t:BA) (half:Bool) (from_:Nat):Nat→Nat→Nat→Int→Rd Int
 | 0,_,a,u=>.ok a u
 | m+1,i,a,u=>if bAt t a<0 then .bad 31 t.size else if hexBad half i u (hexS (bAt t a)) then .bad 33 from_ else fourR t half from_ m (i+1) (a+1) (16*u+hexS (bAt t a))
def pairR (t:BA) (from_:Nat) (a:Nat) (u:Int):Rd Int :=
 if bAt t a<0 then .bad 31 t.size
 else if bAt t a≠92 then .bad 33 from_
 else if bAt t (a+1:Nat)<0 then .bad 31 t.size
 else if bAt t (a+1:Nat)≠117 then .bad 33 from_
 else match fourR t true from_ 4 0 (a+2) 0 with
  | .bad c b=>.bad c b
  | .ok b w=>.ok b (65536+1024*(u - 55296)+w - 56320)
def saidS (c:Int):Int:=if c=34∨c=92∨c=47 then c else if c=98 then 8 else if c=102 then 12 else if c=110 then 10 else if c=114 then 13 else if c=116 then 9 else -1
def escR (t:BA) (a:Nat):Rd Int :=
 if bAt t (a+1:Nat)<0 then .bad 31 t.size
 else if bAt t (a+1:Nat)=117 then
  match fourR t false a 4 0 (a+2) 0 with
  | .bad c b=>.bad c b
  | .ok b u=>if u<55296∨57343<u then .ok b u else pairR t a b u
 else if saidS (bAt t (a+1:Nat))<0 then .bad 33 a
 else .ok (a+2) (saidS (bAt t (a+1:Nat)))
def utfL (u:Int):List Int :=
 if u<128 then [u] else if u<2048 then [192+u / 64,128+u % 64] else if u<65536 then [224+u / 4096,128+u / 64 % 64,128+u % 64]
 else [240+u / 262144,128+u / 4096 % 64,128+u / 64 % 64,128+u % 64]
def quoR (t:BA):Nat→Nat→List Int→Rd (List Int)
 | 0,a,_=>.bad 31 a
 | n+1,a,acc =>
  if bAt t a<32 then .bad 31 a
  else if bAt t a=34 then .ok (a+1) acc
  else if bAt t a=92 then
   match escR t a with
   | .bad c b=>.bad c b
   | .ok b u=>quoR t n b (acc++utfL u)
  else if bAt t a<128 then quoR t n (a+1) (acc++[bAt t a])
  else if seqK t a=0 then quoR t n (a+seqW t a) (acc++qA4 (t.extract a (a+seqW t a)))
  else .bad (seqK t a) (if seqK t a=31 then t.size else a)
def signS (t:BA) (a:Nat):Nat:=if bAt t a=45 then a+1 else a
def zeroR (t:BA) (a:Nat):Rd Unit:=if bAt t a=48 then .ok (a+1) () else digR t a
def dotR (t:BA) (a:Nat):Rd Unit:=if bAt t a=46 then digR t (a+1) else .ok a ()
def powR (t:BA) (a:Nat):Rd Unit :=
 if bAt t a=101∨bAt t a=69 then digR t (if bAt t (a+1:Nat)=43∨bAt t (a+1:Nat)=45 then a+2 else a+1) else .ok a ()
def numR (t:BA) (a:Nat):Rd Unit :=
 match zeroR t (signS t a) with
 | .bad c b=>.bad c b
 | .ok b _ =>
  match dotR t b with
  | .bad c b=>.bad c b
  | .ok b _=>powR t b
def nd0 (k:Int) (x:BA) (w:Bool) (i:Int) (n:Int):Eng.Node:=⟨k,(⟨#[]⟩:BA),x,w,i,n⟩
noncomputable def scalR (t:BA) (a:Nat):Rd (List Eng.Node) :=
 if bAt t a=34 then match quoR t (t.size+1) (a+1) [] with
  | .bad c b=>.bad c b
  | .ok b l=>.ok b [nd0 5 (qAp l) false 0 0]
 else if bAt t a=45∨(48≤bAt t a∧bAt t a≤57) then match numR t a with
  | .bad c b=>.bad c b
  | .ok b _=>.ok b [nd0 4 (t.extract a b) (wholeV (t.extract a b)).2 (wholeV (t.extract a b)).1 0]
 else if bAt t a=110 then match litR t [110,117,108,108] a with
  | .bad c b=>.bad c b
  | .ok b _=>.ok b [nd0 1 ⟨#[]⟩ false 0 0]
 else if bAt t a=102 then match litR t [102,97,108,115,101] a with
  | .bad c b=>.bad c b
  | .ok b _=>.ok b [nd0 2 ⟨#[]⟩ false 0 0]
 else if bAt t a=116 then match litR t [116,114,117,101] a with
  | .bad c b=>.bad c b
  | .ok b _=>.ok b [nd0 3 ⟨#[]⟩ false 0 0]
 else .bad 31 a
def setKey (k:BA):List Eng.Node→List Eng.Node
 | []=>[]
 | n::r=>⟨n.kind,k,n.text,n.whole,n.int,n.kids⟩::r
def itemR (t:BA) (val:Nat→Rd (List Eng.Node)) (obj:Bool) (names:List BA) (a:Nat):Rd (BA × List Eng.Node) :=
 if obj then
  if bAt t a=34 then match quoR t (t.size+1) (a+1) [] with
   | .bad c b=>.bad c b
   | .ok b l =>
    if qAp l∈names then .bad 34 a
    else if bAt t (qA8 t b)=58 then match val (qA8 t (qA8 t b+1)) with
     | .bad c b=>.bad c b
     | .ok b x=>.ok b (qAp l,setKey (qAp l) x)
    else .bad 31 (qA8 t b)
  else .bad 31 a
 else match val a with
  | .bad c b=>.bad c b
  | .ok b x=>.ok b (⟨#[]⟩,x)
def lastC (obj:Bool):Int:=if obj then 125 else 93
def rowR (t:BA) (val:Nat→Rd (List Eng.Node)) (obj:Bool):Nat→Nat→Nat→List Eng.Node→List BA→Rd (Nat × List Eng.Node)
 | 0,a,_,_,_=>.bad 31 a
 | m+1,a,k,acc,names =>
  match itemR t val obj names a with
  | .bad c b=>.bad c b
  | .ok b x =>
   if bAt t (qA8 t b)=lastC obj then .ok (qA8 t b+1) (k+1,acc++x.2)
   else if bAt t (qA8 t b)=44 then rowR t val obj m (qA8 t (qA8 t b+1)) (k+1) (acc++x.2) (names++[x.1])
   else .bad 31 (qA8 t b)
def kindC (obj:Bool):Int:=if obj then 7 else 6
def boxR (t:BA) (val:Nat→Rd (List Eng.Node)) (obj:Bool) (a:Nat):Rd (List Eng.Node) :=
 if bAt t (qA8 t (a+1))=lastC obj then .ok (qA8 t (a+1)+1) [nd0 (kindC obj) ⟨#[]⟩ false 0 0]
 else match rowR t val obj (t.size+1) (qA8 t (a+1)) 0 [] [] with
  | .bad c b=>.bad c b
  | .ok b x=>.ok b (nd0 (kindC obj) ⟨#[]⟩ false 0 x.1::x.2)
noncomputable def valR (t:BA):Nat→Nat→Rd (List Eng.Node)
 | 0,a=>if bAt t a=91∨bAt t a=123 then .bad 11 a else scalR t a
 | d+1,a=>if bAt t a=91∨bAt t a=123 then boxR t (valR t d) (decide (bAt t a=123)) a else scalR t a
noncomputable def readR (t:BA):Rd (List Eng.Node) :=
 match valR t 32 (qA8 t 0) with
 | .bad c b=>.bad c b
 | .ok b l=>if qA8 t b<t.size then .bad 31 (qA8 t b) else .ok (qA8 t b) l
theorem qB2 {t:BA} {a:Nat} (h:0≤bAt t a):a<t.size:=by
 have:=(qD7 h).2;omega
theorem digR_adv {t:BA} {a b:Nat} {x:Unit} (ha:a≤t.size) (h:digR t a=.ok b x):a<b∧b≤t.size∧b=qE3 t a:=by
 unfold digR at h;have h1:=manyS_ge t a;have h2:=manyS_le t a ha;split at h
 ·cases h
 ·cases h;omega
theorem litR_adv {t:BA}:∀ {w:List Int} {a b:Nat} {x:Unit},(∀c∈w,0≤c)→litR t w a=.ok b x→b=a+w.length∧(w≠[]→b≤t.size)
 | [],a,b,x,_,h=>by
  cases h;exact ⟨rfl,fun h=>(h rfl).elim⟩
 | c::w,a,b,x,hc,h=>by
  unfold litR at h;split at h
  ·rename_i h1;have h2:=litR_adv (fun c hc'=>hc c (List.mem_cons_of_mem _ hc')) h;have h3:=qB2 (t:=t) (a:=a) (by rw [h1]; exact hc c List.mem_cons_self);refine ⟨by rw [h2.1,List.length_cons]; omega,fun _=>?_⟩;cases w with
   | nil=>rw [h2.1]; exact h3
   | cons _ _=>exact h2.2 (by simp)
  ·cases h
theorem qGj (c:Int) : -1≤hexS c∧hexS c≤15:=by
 unfold hexS;repeat' split
 all_goals omega
theorem fourR_ok {t:BA} {half:Bool} {f a b:Nat} {u:Int} (h:fourR t half f 4 0 a 0=.ok b u) :
  b=a+4∧b≤t.size∧0≤u∧u≤65535∧(half=true→56320≤u∧u≤57343)∧(half=false→¬(56320≤u∧u≤57343)):=by
 have r0:=qGj (bAt t a);have r1:=qGj (bAt t (a+1:Nat));have r2:=qGj (bAt t (a+1+1:Nat));have r3:=qGj (bAt t (a+1+1+1:Nat));simp only [fourR] at h;split at h
 ·cases h
 split at h
 ·cases h
 rename_i n0 b0;split at h
 ·cases h
 split at h
 ·cases h
 rename_i n1 b1;split at h
 ·cases h
 split at h
 ·cases h
 rename_i n2 b2;split at h
 ·cases h
 split at h
 ·cases h
 rename_i n3 b3;have h3:=qB2 (t:=t) (a:=a+1+1+1) (by omega);simp only [Rd.ok.injEq] at h;obtain ⟨rfl,rfl⟩:=h;unfold hexBad at b0 b1 b2 b3;simp only [not_or] at b0 b1 b2 b3;refine ⟨rfl,by omega,by omega,by omega,fun hh=>?_,fun hh=>?_⟩
 ·subst hh;simp only [true_and,Nat.zero_add] at b0 b1;omega
 ·subst hh;simp only [true_and,Nat.zero_add] at b0 b1;omega
theorem saidS_range (c:Int) : -1≤saidS c∧saidS c≤116:=by
 unfold saidS;repeat' split
 all_goals omega
def Code (u:Int):Prop:=0≤u∧u≤1114111∧¬(55296≤u∧u≤57343)
theorem escR_ok {t:BA} {a b:Nat} {u:Int} (h:escR t a=.ok b u):a<b∧b≤t.size∧Code u:=by
 unfold escR at h;have hr:=saidS_range (bAt t (a+1:Nat));split at h
 ·cases h
 ·rename_i h0;have hl:=qB2 (t:=t) (a:=a+1) (by omega);split at h
  ·split at h
   ·cases h
   ·rename_i b' u' hf;have h4:=fourR_ok hf;have h5:=h4.2.2.2.2.2 rfl;split at h
    ·cases h;exact ⟨by omega,h4.2.1,by unfold Code; omega⟩
    ·unfold pairR at h;repeat' split at h
     all_goals first | (cases h; done) | skip
     rename_i hw;have h6:=fourR_ok hw;have h7:=h6.2.2.2.2.1 rfl;cases h;exact ⟨by omega,h6.2.1,by unfold Code; omega⟩
  ·split at h
   ·cases h
   ·cases h;exact ⟨by omega,by omega,by unfold Code; omega⟩
theorem utfL_range {u:Int} (h:Code u):∀x∈utfL u,0≤x∧x<256:=by
 unfold Code at h;unfold utfL;intro x hx;repeat' split at hx
 all_goals
  simp only [List.mem_cons,List.not_mem_nil,or_false] at hx;omega
theorem utfL_len (u:Int):1≤(utfL u).length∧(utfL u).length≤4:=by
 unfold utfL;repeat' split
 all_goals simp
theorem bytesL_range' (s:BA):∀x∈qA4 s,0≤x∧x<256:=by
 intro x hx;unfold qA4 at hx;rw [List.mem_map] at hx;obtain ⟨b,_,rfl⟩:=hx;have:=b.toNat_lt;omega
theorem quoR_ok {t:BA}:∀ {n a b:Nat} {acc l:List Int},quoR t n a acc=.ok b l→(∀x∈acc,0≤x∧x<256)→a<b∧b≤t.size∧(∀x∈l,0≤x∧x<256)∧l.length≤acc.length+4*(b - a)
 | 0,a,b,acc,l,h,_=>by cases h
 | n+1,a,b,acc,l,h,hacc=>by
  unfold quoR at h;split at h
  ·cases h
  ·rename_i h0;have ha:=qB2 (t:=t) (a:=a) (by omega);split at h
   ·cases h;exact ⟨by omega,by omega,hacc,by omega⟩
   ·split at h
    ·split at h
     ·cases h
     ·rename_i b' u he;have h1:=escR_ok he;have h2:=quoR_ok h (by
       intro x hx;rcases List.mem_append.1 hx with hx | hx
       ·exact hacc x hx
       ·exact utfL_range h1.2.2 x hx)
      have h3:=utfL_len u;rw [List.length_append] at h2;exact ⟨by omega,h2.2.1,h2.2.2.1,by omega⟩
    ·split at h
     ·have hb:=bAt_range t a;have h2:=quoR_ok h (by
       intro x hx;rcases List.mem_append.1 hx with hx | hx
       ·exact hacc x hx
       ·rw [List.mem_singleton.1 hx]; omega)
      rw [List.length_append,List.length_singleton] at h2;exact ⟨by omega,h2.2.1,h2.2.2.1,by omega⟩
     ·split at h
      ·rename_i hk;have hw:=seqW_in ha (by have:=by8_in ha; omega) hk;have h2:=quoR_ok h (by
        intro x hx;rcases List.mem_append.1 hx with hx | hx
        ·exact hacc x hx
        ·exact bytesL_range' _ x hx)
       have h3:(qA4 (t.extract a (a+seqW t a))).length≤4:=by
        unfold qA4;rw [List.length_map,Array.length_toList];show (t.extract a (a+seqW t a)).size≤4;rw [ByteArray.size_extract];omega
       rw [List.length_append] at h2;exact ⟨by omega,h2.2.1,h2.2.2.1,by omega⟩
      ·cases h
theorem qBw {α:Type} {c:Bool} {p:Prop} [Decidable p] (h:c=true↔p) (x y:α):(bif c then x else y)=if p then x else y:=by
 by_cases hp:p
 ·rw [if_pos hp,h.2 hp,cnT]
 ·rw [if_neg hp];cases c with
  | false=>rfl
  | true=>exact (hp (h.1 rfl)).elim
theorem blank_cond (t:BA) (a:Nat):((decide ((a:Int)<(t.size:Int))) && ((((decide ((bAt t a)=(32:Int))) || (decide ((bAt t a)=(9:Int)))) || (decide ((bAt t a)=(10:Int)))) || (decide ((bAt t a)=(13:Int)))))=qDn (bAt t a):=by
 by_cases h:a<t.size
 ·rw [deT (by omega),Bool.true_and];rfl
 ·rw [deF (by omega),Bool.false_and,qB6 (by omega)];rfl
theorem ext_le (t:BA) (a b:Nat) (hs:t.size≤3000000):(t.extract a b).size≤3000000:=by
 rw [ByteArray.size_extract];omega
theorem bytesL_cons {s:BA} {i:Nat} (h:i<s.size):(qA4 s).drop i=bAt s i::(qA4 s).drop (i+1):=by
 have hl:i<(qA4 s).length:=by simp only [qA4,List.length_map,Array.length_toList]; exact h
 rw [List.drop_eq_getElem_cons hl];congr 1
 rw [bAt_in h];simp only [qA4,List.getElem_map];rfl
theorem u8_mod' {x:Int} (h:0≤x∧x<256):x % 256=x:=by omega
variable (st:Int) (out:List Eng.Node) (op:List Int) (nm:List (MapC × Unit)) (key:BA) (cd bd:Int)
def nextC (t:BA) (a:Nat):Int:=if a<t.size then bAt t a else 0
theorem qE6 (t:BA) (a:Nat):zbs_s ⟨t,(a:Int),st,out,op,nm,key,cd,bd⟩=some (nextC t a):=by
 unfold zbs_s nextC;dsimp only;by_cases h:a<t.size
 ·rw [deT (by omega),cnT,qAb (by omega),if_pos h]
 ·rw [deF (by omega),cnF,if_neg h]
theorem qEp {t:BA} {a:Nat} {c:Int} (hc:0<c):nextC t a=c↔bAt t a=c:=by
 unfold nextC;split
 ·exact Iff.rfl
 ·rw [qB6 (by omega)];omega
theorem p_odd (r:json_reader):zbu_s r=some (⟨r.text,r.at_,r.state,r.out,r.open_,r.names,r.key,31,r.at_⟩,false):=rfl
theorem p_fail (r:json_reader) (c b:Int):zbn_s r c b=some (⟨r.text,r.at_,r.state,r.out,r.open_,r.names,r.key,c,b⟩,false):=rfl
theorem p_behind (r:json_reader):zbi_s r=some ⟨r.text,r.at_,if r.open_.length=0 then 6 else 5,r.out,r.open_,r.names,r.key,r.code,r.bad⟩:=by
 unfold zbi_s;by_cases h:r.open_.length=0
 ·rw [deT (by omega),cnT,if_pos h]
 ·rw [deF (by omega),cnF,if_neg h]
theorem p_blank0 (t:BA) (hs:t.size≤3000000) (a:Nat):zbj_p0 t (a:Int)=some (qA8 t a:Int):=by
 have hst:qFd t (a:Int)=some (if qDn (bAt t a)=true then .inl ((a+1:Nat):Int) else .inr (a:Int)):=by
  unfold qFd;have h:(decide ((a:Int)<(t.size:Int)))=true→0≤(a:Int)∧(a:Int)<t.size:=fun h=>⟨by omega,of_decide_eq_true h⟩
  rw [qAb h,qAb (fun _=>h),qAb (fun _=>h),qAb (fun _=>h),blank_cond];cases hb:qDn (bAt t a) with
  | true =>
   have:=qDo hb;rw [cnT,if_pos rfl,qAb (by unfold qAc; omega)];rfl
  | false=>rw [cnF,if_neg (by simp)]
 unfold zbj_p0;by_cases h:qDn (bAt t a)=true
 ·rw [if_pos h] at hst;rw [qAu hst,skipS_yes h];exact p_blank0 t hs (a+1)
 ·rw [if_neg h] at hst;rw [qAj hst,skipS_no (by simpa using h)]
termination_by t.size - a
decreasing_by have:=qDo h; omega
theorem p_blank (t:BA) (hs:t.size≤3000000) (a:Nat):zbj_s ⟨t,(a:Int),st,out,op,nm,key,cd,bd⟩=some ⟨t,(qA8 t a:Int),st,out,op,nm,key,cd,bd⟩:=by
 unfold zbj_s;dsimp only;rw [p_blank0 t hs];rfl
theorem next_dig (t:BA) (a:Nat):(decide ((48:Int)≤nextC t a) && decide (nextC t a≤(57:Int)))=digS t a:=by
 unfold nextC digS;split
 ·rfl
 ·rw [qB6 (by omega)];rfl
theorem p_dig0 (t:BA) (hs:t.size≤3000000) (a:Nat):zbk_p0 (nextC t a) t (a:Int) st key cd bd out op nm=some (qE3 t a:Int):=by
 have hst:qFe (nextC t a) t (a:Int) st key cd bd out op nm=some (if digS t a=true then .inl (nextC t (a+1),((a+1:Nat):Int)) else .inr (a:Int)):=by
  unfold qFe;rw [next_dig];cases hb:digS t a with
  | true =>
   have:=digS_lt hb;rw [cnT,if_pos rfl,qAb (by unfold qAc; omega),show (a:Int)+1=((a+1:Nat):Int) by omega,qE6];rfl
  | false=>rw [cnF,if_neg (by simp)]
 unfold zbk_p0;by_cases h:digS t a=true
 ·rw [if_pos h] at hst;rw [qAu hst,qE4 h];exact p_dig0 t hs (a+1)
 ·rw [if_neg h] at hst;rw [qAj hst,manyS_no (by simpa using h)]
termination_by t.size - a
decreasing_by have:=digS_lt h; omega
def digP (t:BA) (a:Nat) (r:Rd Unit):json_reader × Bool:=match r with
 | .bad c b=>(⟨t,(b:Int),st,out,op,nm,key,c,(b:Int)⟩,false)
 | .ok b _=>(⟨t,(b:Int),st,out,op,nm,key,cd,bd⟩,true)
theorem p_dig (t:BA) (hs:t.size≤3000000) (a:Nat):zbk_s ⟨t,(a:Int),st,out,op,nm,key,cd,bd⟩=some (digP st out op nm key cd bd t a (digR t a)):=by
 unfold zbk_s digR;rw [qE6,obS];have hd:=next_dig t a;by_cases h:digS t a=true
 ·rw [h] at hd;simp only [Bool.and_eq_true,decide_eq_true_eq] at hd;have h1:qE3 t a≠a:=by
   rw [qE4 h];have:=manyS_ge t (a+1);omega
  rw [deF (by omega),deF (by omega),Bool.or_false,cnF,obS,p_dig0 st out op nm key cd bd t hs,if_neg h1];rfl
 ·have h1:qE3 t a=a:=manyS_no (by simpa using h);rw [if_pos h1,qBw (p:=True) (by
   have:¬(48≤nextC t a∧nextC t a≤57):=by
    intro h2;rw [deT h2.1,deT h2.2] at hd;exact h hd.symm
   simp only [Bool.or_eq_true,decide_eq_true_eq,iff_true];omega),if_pos trivial,p_odd]
  rfl
theorem j_digit (c:Int) (h:0≤c∧c≤255):zbg_s c=some (if hexS c<0 then (0,false) else (hexS c,true)):=by
 unfold zbg_s hexS;rw [qBw (p:=48≤c∧c≤57) (by simp),qBw (p:=97≤c∧c≤102) (by simp),qBw (p:=65≤c∧c≤70) (by simp)];by_cases h1:48≤c∧c≤57
 ·rw [if_pos h1,if_pos h1,u8_mod' (by omega),qAb (by unfold qCf; omega),if_neg (by omega)]
 ·rw [if_neg h1,if_neg h1];by_cases h2:97≤c∧c≤102
  ·rw [if_pos h2,if_pos h2,u8_mod' (by omega),qAb (by unfold qCf; omega),qAb (by unfold qCf; omega),if_neg (by omega)]
  ·rw [if_neg h2,if_neg h2];by_cases h3:65≤c∧c≤70
   ·rw [if_pos h3,if_pos h3,u8_mod' (by omega),qAb (by unfold qCf; omega),qAb (by unfold qCf; omega),if_neg (by omega)]
   ·rw [if_neg h3,if_neg h3,if_pos (by decide)]
theorem or_low {u d:Int} (hu:0≤u∧u≤100000) (hd:0≤d∧d<16):qAk .i32 (u*16) d=16*u+d:=by
 obtain ⟨n,rfl⟩:=Int.eq_ofNat_of_zero_le hu.1;obtain ⟨m,rfl⟩:=Int.eq_ofNat_of_zero_le hd.1;rw [show (n:Int)*16=((2 ^ 4*n:Nat):Int) by omega];have h1:(BitVec.ofInt 32 ((2 ^ 4*n:Nat):Int)).toNat=2 ^ 4*n:=by
  rw [BitVec.ofInt_natCast,BitVec.toNat_ofNat,Nat.mod_eq_of_lt (by omega)]
 have h2:(BitVec.ofInt 32 (m:Int)).toNat=m:=by
  rw [BitVec.ofInt_natCast,BitVec.toNat_ofNat,Nat.mod_eq_of_lt (by omega)]
 unfold qAk;show IntKind.i32.wrap ((BitVec.ofInt 32 ((2 ^ 4*n:Nat):Int) ||| BitVec.ofInt 32 (m:Int)).toNat:Int)=_
 have h3:=Nat.two_pow_add_eq_or_of_lt (i:=4) (b:=m) (by omega) n;rw [BitVec.toNat_or,h1,h2,←h3];unfold IntKind.wrap;have h4:(((2 ^ 4*n+m:Nat):Int) % (2 ^ IntKind.i32.bits:Int))=((2 ^ 4*n+m:Nat):Int):=by
  show (((2 ^ 4*n+m:Nat):Int) % 4294967296)=_;omega
 dsimp only;rw [h4,if_neg (by
  simp only [Bool.and_eq_true,decide_eq_true_eq,not_and];intro _;show ¬(((2 ^ 4*n+m:Nat):Int)≥2147483648);omega)]
 omega
theorem p_unit1 (t:BA) (a f:Int) (x:Bool):zbz_p1 f x t a st key cd bd out op nm=some (if x=true then .inl (0,false,t,a,st,key,33,f,nm) else .inr ()):=by
 unfold zbz_p1;cases x with
 | true=>rfl
 | false=>rfl
theorem p_unit0 (t:BA) (hs:t.size≤3000000) (low:Bool) (f a:Nat):∀(m i:Nat) (u:Int),i+m=4→a+i≤t.size→0≤u∧u<16 ^ i→∃e:Int,zbz_p0 (f:Int) low u (i:Int) t ((a+i:Nat):Int) st key cd bd out op nm=some (match fourR t low f m i (a+i) u with
  | .bad c b=>.inl (0,false,t,e,st,key,c,(b:Int),nm)
  | .ok b w=>.inr (w,(b:Int)))
 | 0,i,u,h,ha,hu=>by
  refine ⟨0,?_⟩;unfold zbz_p0;refine qAj ?_;show qB0 (f:Int) low u (i:Int) t ((a+i:Nat):Int) st key cd bd out op nm=_;unfold qB0;rw [deF (by omega),cnF];rfl
 | m+1,i,u,h,ha,hu=>by
  have e1:∀ {x},qB0 (f:Int) low u (i:Int) t ((a+i:Nat):Int) st key cd bd out op nm=some (.inr x)→zbz_p0 (f:Int) low u (i:Int) t ((a+i:Nat):Int) st key cd bd out op nm=some x:=fun h=>qAj h
  have e2:∀ {u' i' a':Int},qB0 (f:Int) low u (i:Int) t ((a+i:Nat):Int) st key cd bd out op nm=some (.inl (u',i',a'))→zbz_p0 (f:Int) low u (i:Int) t ((a+i:Nat):Int) st key cd bd out op nm=zbz_p0 (f:Int) low u' i' t a' st key cd bd out op nm:=fun h=>qAu h
  have hp:(16:Int) ^ i≤16 ^ 3:=by
   have:i=0∨i=1∨i=2∨i=3:=by omega
   rcases this with h | h | h | h <;> subst h <;> decide
  have hp':(16:Int) ^ (i+1)=16 ^ i*16:=Int.pow_succ 16 i;unfold fourR;by_cases h1:a+i=t.size
  ·have hb:bAt t (a+i:Nat) = -1:=qB6 (by omega);rw [if_pos (by omega)];refine ⟨((a+i:Nat):Int),e1 ?_⟩;unfold qB0;rw [deT (by omega),cnT,deT (by omega),cnT,p_odd,obS];rw [h1]
  ·have hb:=bAt_nn (s:=t) (i:=(a+i:Nat)) (by omega) (by omega);have hb':=bAt_range t (a+i:Nat);have hd:=qGj (bAt t (a+i:Nat));rw [if_neg (by omega)];have hst:qB0 (f:Int) low u (i:Int) t ((a+i:Nat):Int) st key cd bd out op nm=some (if hexBad low i u (hexS (bAt t (a+i:Nat))) then .inr (.inl (0,false,t,((a+i:Nat):Int),st,key,33,(f:Int),nm)) else .inl (16*u+hexS (bAt t (a+i:Nat)),((i+1:Nat):Int),((a+(i+1):Nat):Int))):=by
    unfold qB0;rw [deT (by omega),cnT,deF (by omega),cnF,qAb (by omega),j_digit _ (by omega),obS];generalize hexS (bAt t (a+i:Nat))=d at *
    have e0:decide ((i:Int)=0)=decide (i=0):=decide_eq_decide.2 (by omega);have e1:decide ((i:Int)=1)=decide (i=1):=decide_eq_decide.2 (by omega);have ec:(a+i:Nat)+(1:Int)=((a+(i+1):Nat):Int):=by omega
    by_cases h2:d<0
    ·rw [if_pos h2];dsimp only;rw [Bool.not_false,cnT,p_unit1,if_pos (show true=true from rfl),if_pos (by unfold hexBad; exact .inl h2)];rfl
    ·rw [if_neg h2];dsimp only;rw [Bool.not_true,cnF,e0,e1];have tail:((gd (0≤(4:Int)) <| gd (qCf (u*16)) <| gd (qAc (((a+i:Nat):Int)+(1:Int))) <| gd (qAc ((i:Int)+(1:Int))) <|
      some (Sum.inl ((qAk .i32 (u*16) d),((i:Int)+(1:Int)),(((a+i:Nat):Int)+(1:Int))))):Option ((Int × Int × Int) ⊕ ((Int × Bool × BA × Int × Int × BA × Int × Int × (List (MapC × Unit))) ⊕ (Int × Int))))=some (.inl (16*u+d,((i+1:Nat):Int),((a+(i+1):Nat):Int))):=by
      rw [qAb (by omega),qAb (by unfold qCf; omega),qAb (by unfold qAc; omega),qAb (by unfold qAc; omega),or_low (by omega) (by omega),ec];rfl
     rw [qBw (p:=low=true∧i=0∧d≠13) (by
      simp only [Bool.and_eq_true,Bool.not_eq_true',decide_eq_true_eq,decide_eq_false_iff_not];constructor
      ·rintro ⟨⟨x1,x2⟩,x3⟩; exact ⟨x2,x1,x3⟩
      ·rintro ⟨x1,x2,x3⟩; exact ⟨⟨x2,x1⟩,x3⟩)]
     by_cases h3:low=true∧i=0∧d≠13
     ·rw [if_pos h3,deT h3.2.1,h3.1,deF h3.2.2];show ((zbz_p1 (f:Int) true t ((a+i:Nat):Int) st key cd bd out op nm).bind _)=_;rw [p_unit1,if_pos (show true=true from rfl),if_pos (by unfold hexBad; exact .inr (.inl ⟨rfl,.inl h3.2⟩))];rfl
     ·rw [if_neg h3,qBw (p:=low=true∧i=1∧d<12) (by
       simp only [Bool.and_eq_true,Bool.not_eq_true',decide_eq_true_eq,decide_eq_false_iff_not];constructor
       ·rintro ⟨⟨x1,x2⟩,x3⟩; exact ⟨x2,x1,x3⟩
       ·rintro ⟨x1,x2,x3⟩; exact ⟨⟨x2,x1⟩,x3⟩)]
      by_cases h4:low=true∧i=1∧d<12
      ·rw [if_pos h4,deT h4.2.1,h4.1,deT h4.2.2];show ((zbz_p1 (f:Int) true t ((a+i:Nat):Int) st key cd bd out op nm).bind _)=_;rw [p_unit1,if_pos (show true=true from rfl),if_pos (by unfold hexBad; exact .inr (.inl ⟨rfl,.inr h4.2⟩))];rfl
      ·rw [if_neg h4,p_unit1,obS];by_cases h5:low=false∧i=1∧u=13∧12≤d
       ·rw [if_pos (by rw [h5.1,deT h5.2.1,deT h5.2.2.1,deT h5.2.2.2]; rfl),if_pos (by unfold hexBad; exact .inr (.inr h5))];rfl
       ·rw [if_neg (by
         intro h6;simp only [Bool.and_eq_true,Bool.not_eq_true',decide_eq_true_eq] at h6;exact h5 ⟨h6.1.1.2,h6.1.1.1,h6.1.2,h6.2⟩),if_neg (by
         unfold hexBad;rintro (h6 | ⟨h6,h7 | h7⟩ | h6)
         ·exact h2 h6
         ·exact h3 ⟨h6,h7⟩
         ·exact h4 ⟨h6,h7⟩
         ·exact h5 h6)]
        exact tail
   by_cases h3:hexBad low i u (hexS (bAt t (a+i:Nat)))
   ·rw [if_pos h3] at hst ⊢;exact ⟨_,e1 hst⟩
   ·rw [if_neg h3] at hst ⊢;have h0:0≤hexS (bAt t (a+i:Nat)):=by
     unfold hexBad at h3;simp only [not_or] at h3;omega
    rw [e2 hst];exact p_unit0 t hs low f a m (i+1) _ (by omega) (by omega) (by omega)
def unitP (t:BA) (e:Int) (r:Rd Int):json_reader × Int × Bool:=match r with
 | .bad c b=>(⟨t,e,st,out,op,nm,key,c,(b:Int)⟩,0,false)
 | .ok b u=>(⟨t,(b:Int),st,out,op,nm,key,cd,bd⟩,u,true)
theorem p_unit (t:BA) (hs:t.size≤3000000) (low:Bool) (f a:Nat) (ha:a≤t.size):∃e:Int,zbz_s ⟨t,(a:Int),st,out,op,nm,key,cd,bd⟩ (f:Int) low=some (unitP st out op nm key cd bd t e (fourR t low f 4 0 a 0)):=by
 obtain ⟨e,he⟩:=p_unit0 st out op nm key cd bd t hs low f a 4 0 0 rfl (by omega) (by decide);refine ⟨e,?_⟩;unfold zbz_s;rw [Nat.add_zero] at he;dsimp only;rw [show ((0:Nat):Int)=0 from rfl] at he;rw [he,obS];cases fourR t low f 4 0 a 0 with
 | bad c b=>rfl
 | ok b u=>rfl
theorem p_pt0 (t:BA) (hs:t.size≤3000000) (f a:Nat) (ha:a≤t.size):∃e:Int,zbv_p0 (f:Int) 2 0 t (a:Int) st key cd bd out op nm [92,117]=some (
  if bAt t a<0 then .inl (0,false,t,e,st,key,31,(t.size:Int),nm)
  else if bAt t a≠92 then .inl (0,false,t,e,st,key,33,(f:Int),nm)
  else if bAt t (a+1:Nat)<0 then .inl (0,false,t,e,st,key,31,(t.size:Int),nm)
  else if bAt t (a+1:Nat)≠117 then .inl (0,false,t,e,st,key,33,(f:Int),nm)
  else .inr ((a+2:Nat):Int)):=by
 have e1:∀ {i b:Int} {x},qCn (f:Int) 2 i t b st key cd bd out op nm [92,117]=some (.inr x)→zbv_p0 (f:Int) 2 i t b st key cd bd out op nm [92,117]=some x:=fun h=>qAj h
 have e2:∀ {i b j b':Int},qCn (f:Int) 2 i t b st key cd bd out op nm [92,117]=some (.inl (j,b'))→zbv_p0 (f:Int) 2 i t b st key cd bd out op nm [92,117]=zbv_p0 (f:Int) 2 j t b' st key cd bd out op nm [92,117]:=fun h=>qAu h
 have hst:∀i b:Nat,i<2→b≤t.size→qCn (f:Int) 2 (i:Int) t (b:Int) st key cd bd out op nm [92,117]=some (if bAt t b<0 then .inr (.inl (0,false,t,(b:Int),st,key,31,(t.size:Int),nm))
   else if bAt t b≠(if i=0 then 92 else 117) then .inr (.inl (0,false,t,(b:Int),st,key,33,(f:Int),nm)) else .inl (((i+1:Nat):Int),((b+1:Nat):Int))):=by
  intro i b hi hb;unfold qCn;rw [deT (by omega),cnT,qAb (by simp only [List.length_cons,List.length_nil]; omega),qAb (by simp only [List.length_cons,List.length_nil]; omega),Int.toNat_natCast];have hg:([92,117]:List Int).getD i (ET.dft .u8)=if i=0 then 92 else 117:=by
   have:i=0∨i=1:=by omega
   rcases this with rfl | rfl <;> rfl
  rw [hg];by_cases h1:b=t.size
  ·have hb:bAt t b = -1:=qB6 (by omega);rw [if_pos (show bAt t b<0 by omega),deT (show (b:Int)=t.size by omega),cnT,p_odd,obS];subst h1;rfl
  ·have hb:=bAt_nn (s:=t) (i:=b) (by omega) (by omega);rw [if_neg (show ¬bAt t b<0 by omega),deF (show ¬(b:Int)=t.size by omega),cnF,qAb (by omega)];by_cases h2:bAt t b=(if i=0 then 92 else 117)
   ·rw [deT h2,Bool.not_true,cnF,if_neg (fun h=>h h2),qAb (by unfold qAc; omega),qAb (by unfold qAc; omega)];rfl
   ·rw [deF h2,Bool.not_false,cnT,if_pos h2];rfl
 have h0:=hst 0 a (by decide) ha;rw [show ((0:Nat):Int)=0 from rfl,if_pos (show (0:Nat)=0 from rfl)] at h0;by_cases c0:bAt t a<0
 ·rw [if_pos c0] at h0;exact ⟨_,by rw [if_pos c0]; exact e1 h0⟩
 ·rw [if_neg c0] at h0;simp only [if_neg c0];by_cases c1:bAt t a≠92
  ·rw [if_pos c1] at h0;exact ⟨_,by rw [if_pos c1]; exact e1 h0⟩
  ·rw [if_neg c1] at h0;simp only [if_neg c1];have hl:=qB2 (t:=t) (a:=a) (by omega);have h1:=hst 1 (a+1) (by decide) (by omega);rw [if_neg (show ¬(1:Nat)=0 by decide)] at h1;rw [e2 h0];by_cases c2:bAt t (a+1:Nat)<0
   ·rw [if_pos c2] at h1;exact ⟨_,by rw [if_pos c2]; exact e1 h1⟩
   ·rw [if_neg c2] at h1;simp only [if_neg c2];by_cases c3:bAt t (a+1:Nat)≠117
    ·rw [if_pos c3] at h1;exact ⟨_,by rw [if_pos c3]; exact e1 h1⟩
    ·rw [if_neg c3] at h1;refine ⟨0,?_⟩;rw [if_neg c3];refine (e2 h1).trans (e1 ?_);unfold qCn;rfl
def saysP (t:BA) (g:json_reader × Int × Bool) (r:Rd Int):Prop:=match r with
 | .bad c b=>g.1.code=c∧g.1.bad=(b:Int)∧g.2.2=false
 | .ok b u=>g=(⟨t,(b:Int),st,out,op,nm,key,cd,bd⟩,u,true)
theorem p_point (t:BA) (hs:t.size≤3000000) (f:Nat) (hf:f+2≤t.size):∃g,zbv_s ⟨t,((f+2:Nat):Int),st,out,op,nm,key,cd,bd⟩ (f:Int)=some g∧saysP st out op nm key cd bd t g (match fourR t false f 4 0 (f+2) 0 with
  | .bad c b=>.bad c b
  | .ok b u=>if u<55296∨57343<u then .ok b u else pairR t f b u):=by
 unfold zbv_s;obtain ⟨e,he⟩:=p_unit st out op nm key cd bd t hs false f (f+2) hf;rw [he,obS];cases h7:fourR t false f 4 0 (f+2) 0 with
 | bad k b=>exact ⟨_,rfl,rfl,rfl,rfl⟩
 | ok b u =>
  have h8:=fourR_ok h7;have h10:=h8.2.2.2.2.2 rfl;show ∃g,(bif (((!true) || decide (u<55296)) || decide (57343<u)) then _ else _)=_∧_
  rw [qBw (p:=u<55296∨57343<u) (by simp)];dsimp only [unitP];by_cases h9:u<55296∨57343<u
  ·rw [if_pos h9,if_pos h9];exact ⟨_,rfl,rfl⟩
  ·rw [if_neg h9,if_neg h9,qAb (by decide)];obtain ⟨e,he⟩:=p_pt0 st out op nm key cd bd t hs f b h8.2.1;rw [show (([(92:Int),(117:Int)].length:Int))=2 from rfl,he,obS];unfold pairR;by_cases c0:bAt t b<0
   ·rw [if_pos c0,if_pos c0];exact ⟨_,rfl,rfl,rfl,rfl⟩
   rw [if_neg c0,if_neg c0];by_cases c1:bAt t b≠92
   ·rw [if_pos c1,if_pos c1];exact ⟨_,rfl,rfl,rfl,rfl⟩
   rw [if_neg c1,if_neg c1];by_cases c2:bAt t (b+1:Nat)<0
   ·rw [if_pos c2,if_pos c2];exact ⟨_,rfl,rfl,rfl,rfl⟩
   rw [if_neg c2,if_neg c2];by_cases c3:bAt t (b+1:Nat)≠117
   ·rw [if_pos c3,if_pos c3];exact ⟨_,rfl,rfl,rfl,rfl⟩
   rw [if_neg c3,if_neg c3];have hl2:=qB2 (t:=t) (a:=b+1) (by omega);simp only [Sum.elim_inr];obtain ⟨e2,he2⟩:=p_unit st out op nm key cd bd t hs true f (b+2) (by omega);rw [he2,obS];cases h11:fourR t true f 4 0 (b+2) 0 with
   | bad k e =>
    simp only [unitP];rw [qAb (by unfold qCf; omega),qAb (by omega),qAb (by unfold qCf; omega),qAb (by unfold qCf; omega),qAb (by unfold qCf; omega),qAb (by unfold qCf; omega)];exact ⟨_,rfl,rfl,rfl,rfl⟩
   | ok e w =>
    have h12:=fourR_ok h11;have h13:=h12.2.2.2.2.1 rfl;simp only [unitP];rw [qAb (by unfold qCf; omega),qAb (by omega),qAb (by unfold qCf; omega),qAb (by unfold qCf; omega),qAb (by unfold qCf; omega),qAb (by unfold qCf; omega)];refine ⟨_,rfl,?_⟩;simp only [saysP];rw [show (65536:Int)+(u - 55296)*1024+(w - 56320)=65536+1024*(u - 55296)+w - 56320 by omega]
theorem p_esc0 (c:Int) (a:Nat) (ha:a≤3000000):zbm_p0 c 34 34 92 92 47 47 98 8 102 12 110 10 114 13 116 9 0 (a:Int)=some (if saidS c<0 then .inr () else .inl (saidS c,true,((a+1:Nat):Int))):=by
 have e1:∀ {i:Int} {x},qCm c 34 34 92 92 47 47 98 8 102 12 110 10 114 13 116 9 i (a:Int)=some (.inr x)→zbm_p0 c 34 34 92 92 47 47 98 8 102 12 110 10 114 13 116 9 i (a:Int)=some x:=fun h=>qAj h
 have e2:∀ {i j:Int},qCm c 34 34 92 92 47 47 98 8 102 12 110 10 114 13 116 9 i (a:Int)=some (.inl j)→zbm_p0 c 34 34 92 92 47 47 98 8 102 12 110 10 114 13 116 9 i (a:Int)=zbm_p0 c 34 34 92 92 47 47 98 8 102 12 110 10 114 13 116 9 j (a:Int):=fun h=>qAu h
 have key:∀(n:Nat),n<8→∀(x y:Int),([34,34,92,92,47,47,98,8,102,12,110,10,114,13,116,9]:List Int).getD (n*2) 0=x→([34,34,92,92,47,47,98,8,102,12,110,10,114,13,116,9]:List Int).getD (n*2+1) 0=y→0≤y∧y<128 →
   qCm c 34 34 92 92 47 47 98 8 102 12 110 10 114 13 116 9 (n:Int) (a:Int)=some (if c=x then .inr (.inl (y,true,((a+1:Nat):Int))) else .inl ((n+1:Nat):Int)):=by
  intro n hn x y hx hy hr;unfold qCm;rw [deT (by omega),cnT,qAb (by omega),Int.toNat_natCast,Nat.add_zero,hx,hy];by_cases h:c=x
  ·rw [deT h,cnT,if_pos h,qAb (by unfold qAc; omega),qAb (by unfold qCf; omega)];rfl
  ·rw [deF h,cnF,if_neg h,qAb (by unfold qAc; omega)];rfl
 have k0:=key 0 (by decide) 34 34 rfl rfl (by decide);have k1:=key 1 (by decide) 92 92 rfl rfl (by decide);have k2:=key 2 (by decide) 47 47 rfl rfl (by decide);have k3:=key 3 (by decide) 98 8 rfl rfl (by decide);have k4:=key 4 (by decide) 102 12 rfl rfl (by decide);have k5:=key 5 (by decide) 110 10 rfl rfl (by decide);have k6:=key 6 (by decide) 114 13 rfl rfl (by decide);have k7:=key 7 (by decide) 116 9 rfl rfl (by decide);rw [show ((0:Nat):Int)=0 from rfl] at k0;unfold saidS;by_cases h0:c=34
 ·rw [if_pos h0] at k0;rw [e1 k0,h0]; rfl
 rw [if_neg h0] at k0;rw [e2 k0];by_cases h1:c=92
 ·rw [if_pos h1] at k1;rw [show ((0+1:Nat):Int)=((1:Nat):Int) from rfl,e1 k1,h1]; rfl
 rw [if_neg h1] at k1;rw [show ((0+1:Nat):Int)=((1:Nat):Int) from rfl,e2 k1];by_cases h2:c=47
 ·rw [if_pos h2] at k2;rw [show ((1+1:Nat):Int)=((2:Nat):Int) from rfl,e1 k2,h2]; rfl
 rw [if_neg h2] at k2;rw [show ((1+1:Nat):Int)=((2:Nat):Int) from rfl,e2 k2,if_neg (show ¬(c=34∨c=92∨c=47) by omega)];by_cases h3:c=98
 ·rw [if_pos h3] at k3;rw [show ((2+1:Nat):Int)=((3:Nat):Int) from rfl,e1 k3,h3]; rfl
 rw [if_neg h3] at k3;rw [show ((2+1:Nat):Int)=((3:Nat):Int) from rfl,e2 k3,if_neg h3];by_cases h4:c=102
 ·rw [if_pos h4] at k4;rw [show ((3+1:Nat):Int)=((4:Nat):Int) from rfl,e1 k4,h4]; rfl
 rw [if_neg h4] at k4;rw [show ((3+1:Nat):Int)=((4:Nat):Int) from rfl,e2 k4,if_neg h4];by_cases h5:c=110
 ·rw [if_pos h5] at k5;rw [show ((4+1:Nat):Int)=((5:Nat):Int) from rfl,e1 k5,h5]; rfl
 rw [if_neg h5] at k5;rw [show ((4+1:Nat):Int)=((5:Nat):Int) from rfl,e2 k5,if_neg h5];by_cases h6:c=114
 ·rw [if_pos h6] at k6;rw [show ((5+1:Nat):Int)=((6:Nat):Int) from rfl,e1 k6,h6]; rfl
 rw [if_neg h6] at k6;rw [show ((5+1:Nat):Int)=((6:Nat):Int) from rfl,e2 k6,if_neg h6];by_cases h7:c=116
 ·rw [if_pos h7] at k7;rw [show ((6+1:Nat):Int)=((7:Nat):Int) from rfl,e1 k7,h7]; rfl
 rw [if_neg h7] at k7;rw [show ((6+1:Nat):Int)=((7:Nat):Int) from rfl,e2 k7,if_neg h7,if_pos (by decide)];refine e1 ?_;unfold qCm;rfl
theorem p_esc (t:BA) (hs:t.size≤3000000) (f:Nat) (hf:f<t.size):∃g,zbm_s ⟨t,(f:Int),st,out,op,nm,key,cd,bd⟩=some g∧saysP st out op nm key cd bd t g (escR t f):=by
 unfold zbm_s escR;dsimp only;rw [qAb (by unfold qAc; omega),show (f:Int)+1=((f+1:Nat):Int) by omega,qE6,obS];by_cases h1:f+1=t.size
 ·rw [deT (by omega),cnT,if_pos (by rw [qB6 (by omega)]; decide),p_odd];exact ⟨_,rfl,rfl,by show (((f+1:Nat)):Int)=(t.size:Int); omega,rfl⟩
 ·have hb:=bAt_nn (s:=t) (i:=(f+1:Nat)) (by omega) (by omega);have hn:nextC t (f+1)=bAt t (f+1:Nat):=by unfold nextC; rw [if_pos (by omega)]
  rw [deF (by omega),cnF,if_neg (by omega),hn];by_cases h2:bAt t (f+1:Nat)=117
  ·rw [deT h2,cnT,if_pos h2,qAb (by unfold qAc; omega),show ((f+1:Nat):Int)+1=((f+2:Nat):Int) by omega];obtain ⟨g,hg,hg2⟩:=p_point st out op nm key cd bd t hs f (by omega);rw [hg,obS];refine ⟨_,rfl,?_⟩;revert hg2;cases fourR t false f 4 0 (f+2) 0 with
   | bad c b=>exact fun h=>h
   | ok b u =>
    dsimp only;generalize (if u<55296∨57343<u then Rd.ok b u else pairR t f b u)=r
    intro h;cases r with
    | bad c b=>exact h
    | ok b u =>
     have h:g=_:=h;rw [h];rfl
  ·rw [deF h2,cnF,if_neg h2,p_esc0 _ _ (by omega),obS];by_cases h3:saidS (bAt t (f+1:Nat))<0
   ·rw [if_pos h3,if_pos h3];exact ⟨_,rfl,rfl,rfl,rfl⟩
   ·rw [if_neg h3,if_neg h3];exact ⟨_,rfl,rfl⟩
theorem or8_128 {y:Int} (h:0≤y∧y<64):qAk .u8 128 y=128+y:=by
 have key:∀n:Fin 64,qAk .u8 128 (n.val:Int)=128+(n.val:Int):=by decide +kernel
 have:=key ⟨y.toNat,by omega⟩;simpa [Int.toNat_of_nonneg h.1] using this
theorem or8_192 {y:Int} (h:0≤y∧y<32):qAk .u8 192 y=192+y:=by
 have key:∀n:Fin 32,qAk .u8 192 (n.val:Int)=192+(n.val:Int):=by decide +kernel
 have:=key ⟨y.toNat,by omega⟩;simpa [Int.toNat_of_nonneg h.1] using this
theorem or8_224 {y:Int} (h:0≤y∧y<16):qAk .u8 224 y=224+y:=by
 have key:∀n:Fin 16,qAk .u8 224 (n.val:Int)=224+(n.val:Int):=by decide +kernel
 have:=key ⟨y.toNat,by omega⟩;simpa [Int.toNat_of_nonneg h.1] using this
theorem or8_240 {y:Int} (h:0≤y∧y<8):qAk .u8 240 y=240+y:=by
 have key:∀n:Fin 8,qAk .u8 240 (n.val:Int)=240+(n.val:Int):=by decide +kernel
 have:=key ⟨y.toNat,by omega⟩;simpa [Int.toNat_of_nonneg h.1] using this
theorem and8_63 {y:Int} (h:0≤y∧y<256):qAi .u8 y 63=y % 64:=by
 have key:∀n:Fin 256,qAi .u8 (n.val:Int) 63=(n.val:Int) % 64:=by decide +kernel
 have:=key ⟨y.toNat,by omega⟩;simpa [Int.toNat_of_nonneg h.1] using this
theorem p_rune (p:List Int) (hp:p.length≤12000000) (u:Int) (hu:Code u):zcx_s p u=some (p++utfL u):=by
 unfold Code at hu;unfold zcx_s utfL;rw [show u % 4294967296=u by omega];by_cases h1:u<128
 ·rw [deT (by omega),cnT,if_pos h1,qAb (by simp only [List.length_cons,List.length_nil]; omega),u8_mod' (by omega)]
 ·rw [deF (by omega),cnF,if_neg h1];unfold zcy_s;rw [show u % 4294967296=u by omega];by_cases h2:u<2048
  ·rw [deT (by omega),cnT,if_pos h2,qAb (by omega),qAb (by simp only [List.length_cons,List.length_nil]; omega),u8_mod' (x:=u / 64) (by omega),or8_192 (by omega),and8_63 (by omega),or8_128 (by omega),obS,show u % 256 % 64=u % 64 by omega]
  ·rw [deF (by omega),cnF,if_neg h2];have three:∀(x:Int),u<65536→zcy_p0 u x true p=some (p++[224+u / 4096,128+u / 64 % 64,128+u % 64]):=by
    intro x h3;unfold zcy_p0;rw [cnT,qAb (by omega),qAb (by omega),qAb (by simp only [List.length_cons,List.length_nil]; omega),u8_mod' (x:=u / 4096) (by omega),or8_224 (by omega),and8_63 (by omega),and8_63 (by omega),or8_128 (by omega),or8_128 (by omega),show u % 256 % 64=u % 64 by omega,show u / 64 % 256 % 64=u / 64 % 64 by omega]
   by_cases h3:u<65536
   ·rw [if_pos h3];by_cases h4:u<55296
    ·rw [deT h4,cnT,three _ h3];rfl
    ·rw [deF h4,cnF,deT (by omega),deT (by omega),Bool.true_and,three _ h3];rfl
   ·rw [if_neg h3,deF (show ¬u<55296 by omega),cnF,deT (by omega),deF (by omega),Bool.true_and];unfold zcy_p0;rw [cnF,deT (by omega),deT (by omega),Bool.true_and,cnT,qAb (by omega),qAb (by omega),qAb (by omega),qAb (by simp only [List.length_cons,List.length_nil]; omega),u8_mod' (x:=u / 262144) (by omega),or8_240 (by omega),and8_63 (by omega),and8_63 (by omega),and8_63 (by omega),or8_128 (by omega),or8_128 (by omega),or8_128 (by omega),show u % 256 % 64=u % 64 by omega,show u / 64 % 256 % 64=u / 64 % 64 by omega,show u / 4096 % 256 % 64=u / 4096 % 64 by omega];rfl
end Go.Proofs.YtlmfmmgfiffjiaaDoor
namespace Go.Proofs.YtlmfmmgfiffjiaaDoor
open Go.Eng
variable (st:Int) (out:List Eng.Node) (op:List Int) (nm:List (MapC × Unit)) (key:BA) (cd bd:Int)
theorem by8_out {t:BA} {i:Nat} (h:t.size≤i):by8 t i=0:=by
 unfold by8;cases t with
 | mk d =>
  have:ByteArray.get! ⟨d⟩ i=d[i]!:=rfl;rw [this,getElem!_neg d i (by show ¬i<d.size; exact Nat.not_lt.2 h)];rfl
theorem by8_tail (t:BA) (a i:Nat) (ha:a≤t.size):by8 (t.extract a t.size) i=by8 t (a+i):=by
 have hsz:(t.extract a t.size).size=t.size - a:=by rw [ByteArray.size_extract]; omega
 by_cases h:a+i<t.size
 ·have h1:=by8_in (t:=t.extract a t.size) (i:=i) (by omega);have h2:=by8_in h;rw [bAt_tail t a i (by omega)] at h1;rw [show ((a+i:Nat):Int)=(a:Int)+(i:Int) by omega] at h2;omega
 ·rw [by8_out (by omega),by8_out (by omega)]
theorem dec_tail (t:BA) (a:Nat) (ha:a<t.size):Lib.decodeGo (t.extract a t.size)=Utf8.decode t a:=by
 have hsz:(t.extract a t.size).size=t.size - a:=by rw [ByteArray.size_extract]; omega
 unfold Lib.decodeGo;rw [if_neg (by omega),Lib.decode_at,Lib.decode_at,hsz];have h0:=by8_tail t a 0 (by omega);have h1:=by8_tail t a 1 (by omega);have h2:=by8_tail t a 2 (by omega);have h3:=by8_tail t a 3 (by omega);unfold by8 at h0 h1 h2 h3;simp only [Nat.zero_add,Nat.add_zero,Nat.sub_zero] at *
 rw [h0,h1,h2,h3]
theorem full_tail (t:BA) (a:Nat) (ha:a<t.size):fullS (t.extract a t.size)=qFq (t.size - a) (by8 t a) (by8 t (a+1)) (by8 t (a+2)):=by
 have hsz:(t.extract a t.size).size=t.size - a:=by rw [ByteArray.size_extract]; omega
 have h0:=by8_tail t a 0 (by omega);have h1:=by8_tail t a 1 (by omega);have h2:=by8_tail t a 2 (by omega);unfold fullS;rw [hsz];unfold by8 at *
 simp only [Nat.add_zero] at *
 rw [h0,h1,h2]
theorem p_sq (t:BA) (hs:t.size≤3000000) (a:Nat) (ha:a<t.size) (h:128≤by8 t a):∃g,zbx_s ⟨t,(a:Int),st,out,op,nm,key,cd,bd⟩=some g ∧
  (if seqK t a=0 then g=(⟨t,(a:Int),st,out,op,nm,key,cd,bd⟩,(seqW t a:Int),true) else g.1.code=seqK t a∧g.1.bad=(if seqK t a=31 then (t.size:Int) else (a:Int))∧g.2.2=false):=by
 obtain ⟨d1,d2⟩:=seq_dec ha h;have hc:=seqK_cases t a;unfold zbx_s;dsimp only;rw [qAb (by omega),Int.toNat_natCast];unfold qBb;rw [obS,dec_tail t a ha];by_cases h0:seqK t a=0
 ·have hw:=seqW_in ha h h0;have e:=d1 h0;dsimp only;rw [e,qBw (p:=True) (by
   simp only [Bool.or_eq_true,decide_eq_true_eq,iff_true];right; omega),if_pos trivial]
  exact ⟨_,rfl,by rw [if_pos h0]⟩
 ·obtain ⟨e1,e2⟩:=d2 h0;rw [e1];show ∃g,(bif ((!decide ((65533:Int)=65533)) || decide ((1:Int)<1)) then _ else _)=_∧_
  rw [deT rfl,deF (by decide),Bool.not_true,Bool.or_false,cnF,qAb (by omega)];unfold qBr;rw [qAb (by rw [ByteArray.size_extract]; omega),obS,full_tail t a ha,e2];by_cases h1:seqK t a=31
  ·rw [deT h1,Bool.not_true,Bool.not_false,cnT];exact ⟨_,rfl,by rw [if_neg h0,if_pos h1]; exact ⟨h1.symm,rfl,rfl⟩⟩
  ·rw [deF h1,Bool.not_false,Bool.not_true,cnF];exact ⟨_,rfl,by rw [if_neg h0,if_neg h1]; exact ⟨by show (32:Int)=_; omega,rfl,rfl⟩⟩
def saysT (t:BA) (g:BA × Bool × BA × Int × Int × BA × Int × Int × (List (MapC × Unit))) (r:Rd (List Int)):Prop:=match r with
 | .bad c b=>g.2.1=false∧g.2.2.2.2.2.2.1=c∧g.2.2.2.2.2.2.2.1=(b:Int)
 | .ok b l=>g=(qAp l,true,t,(b:Int),st,key,cd,bd,nm)
theorem p_quo0 (t:BA) (hs:t.size≤3000000):∀(n a:Nat) (acc:List Int),t.size - a<n→a≤t.size→acc.length≤4*a→∃g,zbw_p0 t (a:Int) st key cd bd out op nm acc=some g∧saysT st nm key cd bd t g (quoR t n a acc)
 | 0,a,acc,h,_,_=>by omega
 | n+1,a,acc,h,ha,hacc=>by
  have hst:∀ {x},qBj t (a:Int) st key cd bd out op nm acc=some (.inr x)→zbw_p0 t (a:Int) st key cd bd out op nm acc=some x:=fun h=>qAj h
  have hnx:∀ {b:Nat} {acc':List Int},qBj t (a:Int) st key cd bd out op nm acc=some (.inl (t,(b:Int),st,key,cd,bd,nm,acc'))→zbw_p0 t (a:Int) st key cd bd out op nm acc=zbw_p0 t (b:Int) st key cd bd out op nm acc':=fun h=>qAu h
  have hb:=bAt_range t a;unfold quoR;by_cases hend:a=t.size
  ·have hb:bAt t a = -1:=qB6 (by omega);rw [if_pos (show bAt t a<32 by omega)];refine ⟨((⟨#[]⟩:BA),false,t,(a:Int),st,key,31,(a:Int),nm),hst ?_,rfl,rfl,rfl⟩;unfold qBj;rw [deT (show (a:Int)=t.size by omega),cnT];rfl
  ·have hl:a<t.size:=by omega
   have hb0:=bAt_nn (s:=t) (i:=a) (by omega) (by omega);by_cases h2:bAt t a=34
   ·rw [if_neg (show ¬bAt t a<32 by omega),if_pos h2];refine ⟨(qAp acc,true,t,((a+1:Nat):Int),st,key,cd,bd,nm),hst ?_,rfl⟩;unfold qBj;rw [deF (show ¬(a:Int)=t.size by omega),cnF,qAb (by omega),deT h2,cnT,qAb (by unfold qAc; omega)];rfl
   ·by_cases h3:bAt t a=92
    ·rw [if_neg (show ¬bAt t a<32 by omega),if_neg h2,if_pos h3];obtain ⟨g,hg,hg2⟩:=p_esc st out op nm key cd bd t hs a hl;cases h4:escR t a with
     | bad c b =>
      rw [h4] at hg2;obtain ⟨e1,e2,e3⟩:=hg2;refine ⟨((⟨#[]⟩:BA),false,g.1.text,g.1.at_,g.1.state,g.1.key,g.1.code,g.1.bad,g.1.names),hst ?_,rfl,e1,e2⟩;unfold qBj;rw [deF (show ¬(a:Int)=t.size by omega),cnF,qAb (by omega),deF h2,cnF,deT h3,cnT,hg,obS,e3];rfl
     | ok b u =>
      rw [h4] at hg2;have hg2:g=(⟨t,(b:Int),st,out,op,nm,key,cd,bd⟩,u,true):=hg2;have h5:=escR_ok h4;have h6:=utfL_len u;dsimp only;rw [hnx (b:=b) (acc':=acc++utfL u) (by
       unfold qBj;rw [deF (show ¬(a:Int)=t.size by omega),cnF,qAb (by omega),deF h2,cnF,deT h3,cnT,hg,obS,hg2];dsimp only;rw [Bool.not_true,cnF,p_rune acc (by omega) u h5.2.2];rfl)]
      exact p_quo0 t hs n b (acc++utfL u) (by omega) (by omega) (by rw [List.length_append]; omega)
    ·by_cases h1:bAt t a<32
     ·rw [if_pos h1];refine ⟨((⟨#[]⟩:BA),false,t,(a:Int),st,key,31,(a:Int),nm),hst ?_,rfl,rfl,rfl⟩;unfold qBj;rw [deF (show ¬(a:Int)=t.size by omega),cnF,qAb (by omega),deF h2,cnF,deF h3,cnF,deT h1,cnT];rfl
     ·rw [if_neg h1,if_neg h2,if_neg h3];by_cases h4:bAt t a<128
      ·rw [if_pos h4,hnx (b:=a+1) (acc':=acc++[bAt t a]) (by
        unfold qBj;rw [deF (show ¬(a:Int)=t.size by omega),cnF,qAb (by omega),deF h2,cnF,deF h3,cnF,deF h1,cnF,deT h4,cnT,qAb (by simp only [List.length_cons,List.length_nil]; omega),qAb (by unfold qAc; omega)];rfl)]
       exact p_quo0 t hs n (a+1) (acc++[bAt t a]) (by omega) (by omega) (by rw [List.length_append,List.length_singleton]; omega)
      ·rw [if_neg h4];have h8:128≤by8 t a:=by have:=by8_in hl; omega
       obtain ⟨g,hg,hg2⟩:=p_sq st out op nm key cd bd t hs a hl h8;have hkc:=seqK_cases t a;by_cases h5:seqK t a=0
       ·have hw:=seqW_in hl h8 h5;rw [if_pos h5] at hg2 ⊢;have hsz:(t.extract a (a+seqW t a)).size≤4:=by rw [ByteArray.size_extract]; omega
        rw [hnx (b:=a+seqW t a) (acc':=acc++qA4 (t.extract a (a+seqW t a))) (by
         unfold qBj;rw [deF (show ¬(a:Int)=t.size by omega),cnF,qAb (by omega),deF h2,cnF,deF h3,cnF,deF h1,cnF,deF h4,cnF,hg,obS,hg2];dsimp only;rw [Bool.not_true,cnF,show (a:Int)+(seqW t a:Int)=((a+seqW t a:Nat):Int) by omega,qAb (by unfold qAc; omega),qAb (by omega),Int.toNat_natCast,Int.toNat_natCast,qAb (by omega),qAb (by unfold qAc; omega)])]
        have h9:(qA4 (t.extract a (a+seqW t a))).length≤4:=by
         unfold qA4;rw [List.length_map,Array.length_toList];exact hsz
        exact p_quo0 t hs n (a+seqW t a) _ (by omega) (by omega) (by rw [List.length_append]; omega)
       ·rw [if_neg h5] at hg2 ⊢;obtain ⟨e1,e2,e3⟩:=hg2;refine ⟨((⟨#[]⟩:BA),false,g.1.text,g.1.at_,g.1.state,g.1.key,g.1.code,g.1.bad,g.1.names),hst ?_,rfl,e1,?_⟩
        ·unfold qBj;rw [deF (show ¬(a:Int)=t.size by omega),cnF,qAb (by omega),deF h2,cnF,deF h3,cnF,deF h1,cnF,deF h4,cnF,hg,obS,e3];rfl
        ·rw [e2];split <;> rfl
def saysU (t:BA) (g:json_reader × BA × Bool) (r:Rd (List Int)):Prop:=match r with
 | .bad c b=>g.1.code=c∧g.1.bad=(b:Int)∧g.2.2=false
 | .ok b l=>g=(⟨t,(b:Int),st,out,op,nm,key,cd,bd⟩,qAp l,true)
theorem p_quo (t:BA) (hs:t.size≤3000000) (a:Nat) (ha:a<t.size):∃g,zbw_s ⟨t,(a:Int),st,out,op,nm,key,cd,bd⟩=some g∧saysU st out op nm key cd bd t g (quoR t (t.size+1) (a+1) []):=by
 obtain ⟨g,h1,h2⟩:=p_quo0 st out op nm key cd bd t hs (t.size+1) (a+1) [] (by omega) (by omega) (by simp);unfold zbw_s;dsimp only;rw [qAb (by unfold qAc; omega),show (a:Int)+1=((a+1:Nat):Int) by omega,h1,obS];refine ⟨_,rfl,?_⟩;cases h:quoR t (t.size+1) (a+1) [] with
 | bad c b =>
  rw [h] at h2;exact ⟨h2.2.1,h2.2.2,h2.1⟩
 | ok b l =>
  rw [h] at h2;have h2:g=(qAp l,true,t,(b:Int),st,key,cd,bd,nm):=h2;rw [h2];rfl
def bumpN (n:Eng.Node):Eng.Node:=⟨n.kind,n.key,n.text,n.whole,n.int,n.kids+1⟩
def setK (k:BA) (n:Eng.Node):Eng.Node:=⟨n.kind,k,n.text,n.whole,n.int,n.kids⟩
def upO (op:List Int) (out:List Eng.Node):List Eng.Node:=match op.getLast? with
 | none=>out
 | some p=>out.set p.toNat (bumpN (out.getD p.toNat (ET.dft .node)))
def TopOK (op:List Int) (out:List Eng.Node):Prop:=op=[]∨∃op' p,op=op'++[((p:Nat):Int)]∧p<out.length∧qAc ((out.getD p (ET.dft .node)).kids+1)
def layO (op:List Int) (out:List Eng.Node) (key:BA) (n:Eng.Node):List Eng.Node:=upO op out++[setK key n]
theorem upO_len (op:List Int) (out:List Eng.Node):(upO op out).length=out.length:=by
 unfold upO;split <;> simp
theorem layO_len (op:List Int) (out:List Eng.Node) (key:BA) (n:Eng.Node):(layO op out key n).length=out.length+1:=by
 unfold layO;rw [List.length_append,upO_len];rfl
theorem last_snoc (op':List Int) (p:Int):(op'++[p]).getLast?=some p:=by simp
theorem snocI_toNat (op':List Int) (p:Int):Int.toNat (((op'++[p]).length:Int) - 1)=op'.length:=by
 rw [List.length_append,List.length_singleton];omega
theorem snocI_getD (op':List Int) (p d:Int):(op'++[p]).getD op'.length d=p:=by simp [List.getD_eq_getElem?_getD]
theorem p_lay (t:BA) (a:Int) (n:Eng.Node) (hop:TopOK op out) (ho:op.length≤100) (hl:out.length≤3000000):zbo_s ⟨t,a,st,out,op,nm,key,cd,bd⟩ n=some ⟨t,a,st,layO op out key n,op,nm,⟨#[]⟩,cd,bd⟩:=by
 unfold zbo_s;dsimp only;rcases hop with rfl | ⟨op',p,rfl,hp,hk⟩
 ·rw [deF (by simp),cnF,qAb (by simp only [List.length_cons,List.length_nil]; omega)];rfl
 ·have hlen:(op'++[(p:Int)]).length=op'.length+1:=by simp
  rw [hlen] at ho;rw [deT (by rw [hlen]; omega),cnT,snocI_toNat,snocI_getD,Int.toNat_natCast];rw [qAb (by rw [hlen]; unfold qAc; omega),qAb (by rw [hlen]; omega),qAb (by rw [hlen]; omega),qAb (by omega),qAb hp,qAb hp,qAb hk,qAb (by omega),qAb hp,qAb hp,qAb (by simp only [List.length_set,List.length_cons,List.length_nil]; omega)];unfold layO upO;rw [last_snoc];rfl
def stB (op:List Int):Int:=if op.length=0 then 6 else 5
def saysN (t:BA) (g:Bool × BA × Int × Int × BA × Int × Int × (List (MapC × Unit)) × (List Eng.Node)) (f:Nat) (r:Rd Unit):Prop:=match r with
 | .bad c b=>g.1=false∧g.2.2.2.2.2.1=c∧g.2.2.2.2.2.2.1=(b:Int)
 | .ok b _=>g=(true,t,(b:Int),stB op,⟨#[]⟩,cd,bd,nm,layO op out key (nd0 4 (t.extract f b) (wholeV (t.extract f b)).2 (wholeV (t.extract f b)).1 0))
variable (hop:TopOK op out) (ho:op.length≤100) (hl:out.length≤3000000)
include hop ho hl in
theorem p_num3 (t:BA) (hs:t.size≤3000000) {f b:Nat} (h1:f≤b) (h2:b≤t.size) (u:Unit):∃g,zbt_p3 (f:Int) t (b:Int) st key cd bd out op nm=some g∧saysN out op nm key cd bd t g f (.ok b u):=by
 unfold zbt_p3;rw [qAb (by omega),Int.toNat_natCast,Int.toNat_natCast,whole_j _ (ext_le t f b hs),obS,p_lay _ _ _ _ _ _ _ _ _ _ hop ho hl,obS,p_behind,obS];exact ⟨_,rfl,rfl⟩
include hop ho hl in
theorem p_numD (t:BA) (hs:t.size≤3000000) {f a:Nat} (h1:f≤a) (h2:a≤t.size) {F:Bool × BA × Int × Int × BA × Int × Int × (List (MapC × Unit)) × (List Eng.Node)→Option (Bool × BA × Int × Int × BA × Int × Int × (List (MapC × Unit)) × (List Eng.Node))} (hF:∀x,F x=some x) :
  ∃g,((zbk_s ⟨t,(a:Int),st,out,op,nm,key,cd,bd⟩).bind fun r72 =>
   bif (!r72.2) then (
    some (false,r72.1.text,r72.1.at_,r72.1.state,r72.1.key,r72.1.code,r72.1.bad,r72.1.names,out))
   else (
    (zbt_p3 (f:Int) r72.1.text r72.1.at_ r72.1.state r72.1.key r72.1.code r72.1.bad out op r72.1.names).bind F))=some g∧saysN out op nm key cd bd t g f (digR t a):=by
 rw [p_dig st out op nm key cd bd t hs,obS];cases h:digR t a with
 | bad c b=>exact ⟨_,rfl,rfl,rfl,rfl⟩
 | ok b x =>
  have:=digR_adv h2 h;obtain ⟨g,hg,hg2⟩:=p_num3 st out op nm key cd bd hop ho hl t hs (f:=f) (b:=b) (by omega) this.2.1 x;refine ⟨g,?_,hg2⟩;show ((zbt_p3 (f:Int) t (b:Int) st key cd bd out op nm).bind F)=_;rw [hg,obS,hF]
include hop ho hl in
theorem p_num2 (t:BA) (hs:t.size≤3000000) {f a:Nat} (h1:f≤a) (h2:a≤t.size):∃g,zbt_p2 (f:Int) t (a:Int) st key cd bd out op nm=some g∧saysN out op nm key cd bd t g f (powR t a):=by
 unfold zbt_p2 powR;rw [qE6,obS];rw [qBw (p:=bAt t a=101∨bAt t a=69) (by
  simp only [Bool.or_eq_true,decide_eq_true_eq];rw [qEp (by decide),qEp (by decide)])]
 by_cases h3:bAt t a=101∨bAt t a=69
 ·have ha:=qB2 (t:=t) (a:=a) (by omega);rw [if_pos h3,if_pos h3,qAb (by unfold qAc; omega),show (a:Int)+1=((a+1:Nat):Int) by omega,qE6,obS];rw [qBw (p:=bAt t (a+1:Nat)=43∨bAt t (a+1:Nat)=45) (by
   simp only [Bool.or_eq_true,decide_eq_true_eq];rw [qEp (by decide),qEp (by decide)])]
  by_cases h4:bAt t (a+1:Nat)=43∨bAt t (a+1:Nat)=45
  ·have hb:=qB2 (t:=t) (a:=a+1) (by omega);rw [if_pos h4,if_pos h4,qAb (by unfold qAc; omega),show ((a+1:Nat):Int)+1=((a+2:Nat):Int) by omega];exact p_numD st out op nm key cd bd hop ho hl t hs (by omega) (by omega) (fun x=>rfl)
  ·rw [if_neg h4,if_neg h4];exact p_numD st out op nm key cd bd hop ho hl t hs (by omega) (by omega) (fun x=>rfl)
 ·rw [if_neg h3,if_neg h3];obtain ⟨g,hg,hg2⟩:=p_num3 st out op nm key cd bd hop ho hl t hs h1 h2 ();rw [hg];exact ⟨_,rfl,hg2⟩
include hop ho hl in
theorem p_num1 (t:BA) (hs:t.size≤3000000) {f a:Nat} (h1:f≤a) (h2:a≤t.size):∃g,zbt_p1 (f:Int) t (a:Int) st key cd bd out op nm=some g∧saysN out op nm key cd bd t g f (match dotR t a with
  | .bad c b=>.bad c b
  | .ok b _=>powR t b):=by
 unfold zbt_p1 dotR;rw [qE6,obS,qBw (p:=bAt t a=46) (by
  simp only [decide_eq_true_eq];rw [qEp (by decide)])]
 by_cases h3:bAt t a=46
 ·have ha:=qB2 (t:=t) (a:=a) (by omega);rw [if_pos h3,if_pos h3,qAb (by unfold qAc; omega),show (a:Int)+1=((a+1:Nat):Int) by omega,p_dig st out op nm key cd bd t hs,obS];cases h:digR t (a+1) with
  | bad c b=>exact ⟨_,rfl,rfl,rfl,rfl⟩
  | ok b x =>
   have:=digR_adv (by omega) h;obtain ⟨g,hg,hg2⟩:=p_num2 st out op nm key cd bd hop ho hl t hs (f:=f) (a:=b) (by omega) this.2.1;refine ⟨g,?_,hg2⟩;show ((zbt_p2 (f:Int) t (b:Int) st key cd bd out op nm).bind _)=_;rw [hg];rfl
 ·rw [if_neg h3,if_neg h3];obtain ⟨g,hg,hg2⟩:=p_num2 st out op nm key cd bd hop ho hl t hs h1 h2;rw [hg];exact ⟨_,rfl,hg2⟩
include hop ho hl in
theorem p_num0 (t:BA) (hs:t.size≤3000000) {f a:Nat} (h1:f≤a) (h2:a≤t.size):∃g,zbt_p0 (f:Int) t (a:Int) st key cd bd out op nm=some g∧saysN out op nm key cd bd t g f (match zeroR t a with
  | .bad c b=>.bad c b
  | .ok b _=>match dotR t b with
   | .bad c b=>.bad c b
   | .ok b _=>powR t b):=by
 unfold zbt_p0 zeroR;rw [qE6,obS,qBw (p:=bAt t a=48) (by
  simp only [decide_eq_true_eq];rw [qEp (by decide)])]
 by_cases h3:bAt t a=48
 ·have ha:=qB2 (t:=t) (a:=a) (by omega);rw [if_pos h3,if_pos h3,qAb (by unfold qAc; omega),show (a:Int)+1=((a+1:Nat):Int) by omega];obtain ⟨g,hg,hg2⟩:=p_num1 st out op nm key cd bd hop ho hl t hs (f:=f) (a:=a+1) (by omega) (by omega);rw [hg];exact ⟨_,rfl,hg2⟩
 ·rw [if_neg h3,if_neg h3,p_dig st out op nm key cd bd t hs,obS];cases h:digR t a with
  | bad c b=>exact ⟨_,rfl,rfl,rfl,rfl⟩
  | ok b x =>
   have:=digR_adv (by omega) h;obtain ⟨g,hg,hg2⟩:=p_num1 st out op nm key cd bd hop ho hl t hs (f:=f) (a:=b) (by omega) this.2.1;refine ⟨g,?_,hg2⟩;show ((zbt_p1 (f:Int) t (b:Int) st key cd bd out op nm).bind _)=_;rw [hg];rfl
def saysV (t:BA) (g:json_reader × Bool) (r:Rd (List Eng.Node)):Prop:=match r with
 | .bad c b=>g.1.code=c∧g.1.bad=(b:Int)∧g.2=false
 | .ok b l=>∃n,l=[n]∧g=(⟨t,(b:Int),stB op,layO op out key n,op,nm,⟨#[]⟩,cd,bd⟩,true)
include hop ho hl in
theorem p_num (t:BA) (hs:t.size≤3000000) {a:Nat} (ha:a<t.size):∃g,zbt_s ⟨t,(a:Int),st,out,op,nm,key,cd,bd⟩=some g∧saysV out op nm key cd bd t g (match numR t a with
  | .bad c b=>.bad c b
  | .ok b _=>.ok b [nd0 4 (t.extract a b) (wholeV (t.extract a b)).2 (wholeV (t.extract a b)).1 0]):=by
 have fin:∀(g:Bool × BA × Int × Int × BA × Int × Int × (List (MapC × Unit)) × (List Eng.Node)) (r:Rd Unit),saysN out op nm key cd bd t g a r→saysV out op nm key cd bd t ((⟨g.2.1,g.2.2.1,g.2.2.2.1,g.2.2.2.2.2.2.2.2,op,g.2.2.2.2.2.2.2.1,g.2.2.2.2.1,g.2.2.2.2.2.1,g.2.2.2.2.2.2.1⟩:json_reader),g.1) (match r with
  | .bad c b=>.bad c b
  | .ok b _=>.ok b [nd0 4 (t.extract a b) (wholeV (t.extract a b)).2 (wholeV (t.extract a b)).1 0]):=by
  intro g r h;cases r with
  | bad c b=>exact ⟨h.2.1,h.2.2,h.1⟩
  | ok b x =>
   have h:g=_:=h;rw [h];exact ⟨_,rfl,rfl⟩
 unfold zbt_s numR signS;rw [qE6,obS,qBw (p:=bAt t a=45) (by
  simp only [decide_eq_true_eq];rw [qEp (by decide)])]
 by_cases h3:bAt t a=45
 ·rw [if_pos h3,if_pos h3];dsimp only;rw [qAb (by unfold qAc; omega),show (a:Int)+1=((a+1:Nat):Int) by omega];obtain ⟨g,hg,hg2⟩:=p_num0 st out op nm key cd bd hop ho hl t hs (f:=a) (a:=a+1) (by omega) (by omega);rw [hg,obS];exact ⟨_,rfl,fin g _ hg2⟩
 ·rw [if_neg h3,if_neg h3];obtain ⟨g,hg,hg2⟩:=p_num0 st out op nm key cd bd hop ho hl t hs (f:=a) (a:=a) (by omega) (by omega);dsimp only;rw [hg,obS];exact ⟨_,rfl,fin g _ hg2⟩
omit hop ho hl in
theorem p_lit0 (t:BA) (hs:t.size≤3000000) (w:BA) (hw:w.size≤10) (hw0:∀i:Nat,i<w.size→0<bAt w i) (a:Nat):∀(j i:Nat),i+j=w.size→a+i≤t.size→∃e:Int,zbp_p0 w (w.size:Int) (i:Int) t ((a+i:Nat):Int) st key cd bd out op nm=some (match litR t ((qA4 w).drop i) (a+i) with
  | .bad c b=>.inl (false,t,e,st,key,c,(b:Int),nm)
  | .ok b _=>.inr (b:Int))
 | 0,i,h,ha=>by
  rw [List.drop_eq_nil_of_le (by simp only [qA4,List.length_map,Array.length_toList]; show w.size≤i; omega)];refine ⟨0,?_⟩;unfold zbp_p0;refine qAj ?_;show qCb w (w.size:Int) (i:Int) t ((a+i:Nat):Int) st key cd bd out op nm=_;unfold qCb;rw [deF (by omega),cnF];rfl
 | j+1,i,h,ha=>by
  have hb:=hw0 i (by omega);have e1:∀ {x},qCb w (w.size:Int) (i:Int) t ((a+i:Nat):Int) st key cd bd out op nm=some (.inr x)→zbp_p0 w (w.size:Int) (i:Int) t ((a+i:Nat):Int) st key cd bd out op nm=some x:=fun h=>qAj h
  have e2:∀ {i' a':Int},qCb w (w.size:Int) (i:Int) t ((a+i:Nat):Int) st key cd bd out op nm=some (.inl (i',a'))→zbp_p0 w (w.size:Int) (i:Int) t ((a+i:Nat):Int) st key cd bd out op nm=zbp_p0 w (w.size:Int) i' t a' st key cd bd out op nm:=fun h=>qAu h
  rw [bytesL_cons (by omega)];unfold litR;have hst:qCb w (w.size:Int) (i:Int) t ((a+i:Nat):Int) st key cd bd out op nm=some (if bAt t (a+i:Nat)=bAt w i then .inl (((i+1:Nat):Int),((a+(i+1):Nat):Int)) else .inr (.inl (false,t,((a+i:Nat):Int),st,key,31,((a+i:Nat):Int),nm))):=by
   unfold qCb;rw [deT (by omega),cnT,qAb (by omega),qE6,obS,qAb rfl];by_cases h2:bAt t (a+i:Nat)=bAt w i
   ·rw [deT ((qEp hb).2 h2),Bool.not_true,cnF,if_pos h2,qAb (by unfold qAc; omega),qAb (by unfold qAc; omega)];rfl
   ·rw [deF (fun h=>h2 ((qEp hb).1 h)),Bool.not_false,cnT,if_neg h2];rfl
  by_cases h2:bAt t (a+i:Nat)=bAt w i
  ·have hlt:=qB2 (t:=t) (a:=a+i) (by omega);rw [if_pos h2] at hst ⊢;rw [e2 hst];exact p_lit0 t hs w hw hw0 a j (i+1) (by omega) (by omega)
  ·rw [if_neg h2] at hst ⊢;exact ⟨_,e1 hst⟩
include hop ho hl in
theorem p_lit (t:BA) (hs:t.size≤3000000) (w:BA) (hw:w.size≤10) (hw0:∀i:Nat,i<w.size→0<bAt w i) (a:Nat) (ha:a≤t.size) (k:Int):∃g,zbp_s ⟨t,(a:Int),st,out,op,nm,key,cd,bd⟩ w k=some g∧saysV out op nm key cd bd t g (match litR t (qA4 w) a with
  | .bad c b=>.bad c b
  | .ok b _=>.ok b [nd0 k ⟨#[]⟩ false 0 0]):=by
 obtain ⟨e,he⟩:=p_lit0 st out op nm key cd bd t hs w hw hw0 a w.size 0 (by omega) (by omega);rw [show ((0:Nat):Int)=0 from rfl,List.drop_zero,Nat.add_zero] at he;unfold zbp_s;dsimp only;rw [he,obS];cases litR t (qA4 w) a with
 | bad c b=>exact ⟨_,rfl,rfl,rfl,rfl⟩
 | ok b x =>
  simp only [Sum.elim_inr];rw [p_lay _ _ _ _ _ _ _ _ _ _ hop ho hl,obS,p_behind,obS];exact ⟨_,rfl,_,rfl,rfl⟩
include hop ho hl in
theorem p_scal (t:BA) (hs:t.size≤3000000) (a:Nat) (ha:a<t.size) (hn:¬(bAt t a=91∨bAt t a=123)):∃g,zca_s ⟨t,(a:Int),st,out,op,nm,key,cd,bd⟩ (bAt t a)=some g∧saysV out op nm key cd bd t g (scalR t a):=by
 unfold zca_s scalR;rw [qBw (p:=bAt t a=91∨bAt t a=123) (by simp),if_neg hn];have same:∀(g:json_reader × Bool) (r:Rd (List Eng.Node)),saysV out op nm key cd bd t g r→saysV out op nm key cd bd t (⟨g.1.text,g.1.at_,g.1.state,g.1.out,op,g.1.names,g.1.key,g.1.code,g.1.bad⟩,g.2) r:=by
  intro g r h;cases r with
  | bad c b=>exact h
  | ok b l =>
   obtain ⟨n,h1,h2⟩:=h;rw [h2];exact ⟨n,h1,rfl⟩
 by_cases h1:bAt t a=34
 ·rw [deT h1,cnT,if_pos h1];obtain ⟨g,hg,hg2⟩:=p_quo st out op nm key cd bd t hs a ha;rw [hg,obS];cases h:quoR t (t.size+1) (a+1) [] with
  | bad c b =>
   rw [h] at hg2;obtain ⟨e1,e2,e3⟩:=hg2;rw [e3,cnF];exact ⟨_,rfl,e1,e2,rfl⟩
  | ok b l =>
   rw [h] at hg2;have hg2:g=(⟨t,(b:Int),st,out,op,nm,key,cd,bd⟩,qAp l,true):=hg2;rw [hg2];dsimp only;rw [cnT,p_lay _ _ _ _ _ _ _ _ _ _ hop ho hl,obS,p_behind,obS];exact ⟨_,rfl,_,rfl,rfl⟩
 ·rw [deF h1,cnF,if_neg h1,qBw (p:=bAt t a=45∨(48≤bAt t a∧bAt t a≤57)) (by simp)];by_cases h2:bAt t a=45∨(48≤bAt t a∧bAt t a≤57)
  ·rw [if_pos h2,if_pos h2];obtain ⟨g,hg,hg2⟩:=p_num st out op nm key cd bd hop ho hl t hs ha;rw [hg,obS];exact ⟨_,rfl,same _ _ hg2⟩
  ·rw [if_neg h2,if_neg h2];by_cases h3:bAt t a=110
   ·rw [deT h3,cnT,if_pos h3];obtain ⟨g,hg,hg2⟩:=p_lit st out op nm key cd bd hop ho hl t hs ⟨#[110,117,108,108]⟩ (by decide) (by decide) a (by omega) 1;rw [hg,obS];exact ⟨_,rfl,same _ _ hg2⟩
   ·rw [deF h3,cnF,if_neg h3];by_cases h4:bAt t a=102
    ·rw [deT h4,cnT,if_pos h4];obtain ⟨g,hg,hg2⟩:=p_lit st out op nm key cd bd hop ho hl t hs ⟨#[102,97,108,115,101]⟩ (by decide) (by decide) a (by omega) 2;rw [hg,obS];exact ⟨_,rfl,same _ _ hg2⟩
    ·rw [deF h4,cnF,if_neg h4];by_cases h5:bAt t a=116
     ·rw [deT h5,cnT,if_pos h5];obtain ⟨g,hg,hg2⟩:=p_lit st out op nm key cd bd hop ho hl t hs ⟨#[116,114,117,101]⟩ (by decide) (by decide) a (by omega) 3;rw [hg,obS];exact ⟨_,rfl,same _ _ hg2⟩
     ·rw [deF h5,cnF,if_neg h5,p_odd,obS];exact ⟨_,rfl,rfl,rfl,rfl⟩
end Go.Proofs.YtlmfmmgfiffjiaaDoor
