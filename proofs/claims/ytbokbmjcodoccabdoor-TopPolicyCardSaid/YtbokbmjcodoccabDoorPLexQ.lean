/-
  Texts of a claim.
-/
import Derived.Lib.ValidLaws
import Derived.Lib.DecodeNEq
import Derived.Test.YtbokbmjcodoccabDoorJQ
set_option linter.unusedSimpArgs false
set_option linter.unusedVariables false
namespace Go.Proofs.YtbokbmjcodoccabDoor
open Go.Eng
theorem nd_get{v:List Eng.Node}{a:Nat}{n:Eng.Node}(h:v[a]?=some n):v.getD a (ET.dft .node)=n:=by
 rw[List.getD_eq_getElem?_getD,h];rfl
structure OkN (n:Eng.Node):Prop where
 key:n.key.size<=3000000
 text:n.text.size<=3000000
 kids:qAc n.kids
def OkL(v:List Eng.Node):Prop:=v.length<=2000000/\∀n∈v,OkN n
theorem bAt_byte(t:BA)(i:Int) : -1<=bAt t i/\bAt t i<=255:=by
 unfold bAt;split
 ·split
  ·rename_i b _;have:=b.toNat_lt;omega
  ·omega
 ·omega
theorem byteAt_some(t:BA)(at_:Int)(h0:0<=at_):qDn t at_=some (if(t.size:Int)<=at_ then -1 else bAt t at_)/\(0<=(if(t.size:Int)<=at_ then -1 else bAt t at_)->at_<t.size):=by
 have:=bAt_byte t at_;unfold qDn;by_cases h:(t.size:Int)<=at_
 ·rw[deT h,cnT,if_pos h];exact⟨rfl,λh=>by omega⟩
 ·rw[deF h,cnF,if_neg h];refine⟨(qAa (by omega) _).trans (qAa (by unfold qAc;omega) _),λ_=>by omega⟩
def by8(t:BA)(i:Nat):Nat:=(t.get! i).toNat
theorem by8_lt(t:BA)(i:Nat):by8 t i<256:=UInt8.toNat_lt _
theorem by8_in{t:BA}{i:Nat}(h:i<t.size):bAt t (i:Int)=(by8 t i:Int):=by
 rw[bAt_in h];unfold by8;congr 2
 cases t with
 | mk d=>exact(getElem!_pos d i h).symm
def contN(n:Nat)(b:Nat->Nat):Nat->Nat->Nat->Nat->Int
 | 0,_,_,_=>0
 | m+1,i,lo,hi=>if n<=i then 31 else if b i<lo\/hi<b i then 32 else contN n b m (i+1) 128 191
theorem contN_cases(n:Nat)(b:Nat->Nat):∀(m i lo hi:Nat),contN n b m i lo hi=0\/contN n b m i lo hi=31\/contN n b m i lo hi=32
 | 0,_,_,_=>.inl rfl
 | m+1,i,lo,hi=>by
  unfold contN;split
  ·exact .inr (.inl rfl)
  ·split
   ·exact .inr (.inr rfl)
   ·exact contN_cases n b m _ _ _
theorem p_cont(t:BA)(a:Nat)(ha:a<=t.size)(hs:t.size<=3000000):∀(m i lo hi:Nat),1<=i->i+m<=5 ->
  zcf_p0 t (a:Int) ((i:Int)+m - 1) (lo:Int) (hi:Int) (i:Int)=some (if contN (t.size - a) (λk=>by8 t (a+k)) m i lo hi=0 then .inr () else .inl (0,⟨#[]⟩,contN (t.size - a) (λk=>by8 t (a+k)) m i lo hi,if contN (t.size - a) (λk=>by8 t (a+k)) m i lo hi=31 then(t.size:Int) else(a:Int),[]))
 | 0,i,lo,hi,h1,h2=>by
  rw[contN,if_pos rfl];unfold zcf_p0;refine qAf ?_;unfold qDg;dsimp only;rw[deF (by omega),cnF]
 | m+1,i,lo,hi,h1,h2=>by
  obtain⟨b1,b2⟩:=byteAt_some t ((a:Int)+i) (by omega);have e:contN (t.size - a) (λk=>by8 t (a+k)) (m+1) i lo hi=if t.size - a<=i then 31 else if by8 t (a+i)<lo\/hi<by8 t (a+i) then 32 else contN (t.size - a) (λk=>by8 t (a+k)) m (i+1) 128 191:=rfl
  have hin:((i:Int)<=(i:Int)+((m+1:Nat):Int) - 1):=by omega
  generalize hn:(i:Int)+((m+1:Nat):Int) - 1=n at *
  by_cases hc:t.size - a<=i
  ·rw[if_pos hc] at e;rw[e,if_neg (by decide),if_pos rfl];unfold zcf_p0;refine qAf ?_;unfold qDg;dsimp only;rw[deT hin,cnT,qAa (by unfold qAc;omega),b1,if_pos (by omega),obS,deT (by decide),cnT];rfl
  ·rw[if_neg hc] at e;have hb:=by8_in (t:=t) (i:=a+i) (by omega);rw[show((a+i:Nat):Int)=(a:Int)+i by omega] at hb;rw[if_neg (by omega),hb] at b1;by_cases hd:by8 t (a+i)<lo\/hi<by8 t (a+i)
   ·rw[if_pos hd] at e;rw[e,if_neg (by decide),if_neg (by decide)];unfold zcf_p0;refine qAf ?_;unfold qDg;dsimp only;rw[deT hin,cnT,qAa (by unfold qAc;omega),b1,obS,deF (by omega),cnF];have:(decide ((by8 t (a+i):Int)<(lo:Int)) || decide ((hi:Int)<(by8 t (a+i):Int)))=true:=by
     simp only[Bool.or_eq_true,decide_eq_true_eq];omega
    rw[this,cnT];rfl
   ·rw[if_neg hd] at e;rw[e];have ih:=p_cont t a ha hs m (i+1) 128 191 (by omega) (by omega);rw[show((i+1:Nat):Int)+m - 1=n by omega] at ih;rw[<-ih];unfold zcf_p0;refine qAm (y:=(((128:Nat):Int),((191:Nat):Int),((i+1:Nat):Int))) ?_;unfold qDg;dsimp only;rw[deT hin,cnT,qAa (by unfold qAc;omega),b1,obS,deF (by omega),cnF];have:(decide ((by8 t (a+i):Int)<(lo:Int)) || decide ((hi:Int)<(by8 t (a+i):Int)))=false:=by
     simp only[Bool.or_eq_false_iff,decide_eq_false_iff_not];omega
    rw[this,cnF];exact qAa (by unfold qAc;omega) _
set_option maxRecDepth 100000 in
theorem p_bounds':∀c:Fin 256,128<=c.val->zbt_s (c.val:Int)=some (if Lib.firstT c.val=241 then(-1,0,0) else(((Lib.firstT c.val % 8:Nat):Int) - 1,((Lib.accLo (Lib.firstT c.val / 16):Nat):Int),((Lib.accHi (Lib.firstT c.val / 16):Nat):Int))):=by
 decide +kernel
theorem firstT_low:∀c:Fin 256,128<=c.val->Lib.firstT c.val≠240:=by decide +kernel
def seqK(t:BA)(a:Nat):Int :=
 if Lib.firstT (by8 t a)=241 then 32 else contN (t.size - a) (λk=>by8 t (a+k)) (Lib.firstT (by8 t a) % 8 - 1) 1 (Lib.accLo (Lib.firstT (by8 t a) / 16)) (Lib.accHi (Lib.firstT (by8 t a) / 16))
def seqW(t:BA)(a:Nat):Nat:=Lib.firstT (by8 t a) % 8
theorem seqK_cases(t:BA)(a:Nat):seqK t a=0\/seqK t a=31\/seqK t a=32:=by
 unfold seqK;split
 ·exact .inr (.inr rfl)
 ·exact contN_cases _ _ _ _ _ _
theorem firstT_three{b:Nat}(h:128<=b)(hb:b<256)(h2:Lib.firstT b≠241):2<=Lib.firstT b % 8/\Lib.firstT b % 8<=4:=by
 have:=firstT_low ⟨b,hb⟩ h;rcases Lib.firstT_cases b with h | h | h | h | h | h | h | h | h <;> simp only[h] at * <;> omega
theorem contN_in{n:Nat}{b:Nat->Nat}:∀ {m i lo hi:Nat},contN n b m i lo hi=0->m=0\/i+m<=n
 | 0,_,_,_,_=>.inl rfl
 | m+1,i,lo,hi,h=>by
  unfold contN at h;split at h
  ·cases h
  ·split at h
   ·cases h
   ·rcases contN_in h with h | h <;> omega
theorem seqW_in{t:BA}{a:Nat}(ha:a<t.size)(h:128<=by8 t a)(h0:seqK t a=0):a+seqW t a<=t.size/\2<=seqW t a/\seqW t a<=4:=by
 unfold seqK at h0;unfold seqW;split at h0
 ·cases h0
 ·rename_i h1;have:=firstT_three h (by8_lt t a) h1;rcases contN_in h0 with h2 | h2 <;> omega
theorem p_seq{t:BA}{a:Nat}(ha:a<t.size)(hs:t.size<=3000000)(h:128<=by8 t a) :
  zcf_s t (a:Int)=some (if seqK t a=0 then⟨((a+seqW t a:Nat):Int),[],t.extract a (a+seqW t a),0,0⟩ else⟨0,[],⟨#[]⟩,seqK t a,if seqK t a=31 then(t.size:Int) else(a:Int)⟩):=by
 have hb:=by8_in ha;have hl:=by8_lt t a;have hbo:=p_bounds' ⟨by8 t a,hl⟩ h;simp only at hbo;have hi:=@seqW_in t a ha h;unfold zcf_s;rw[qAa (by omega),qAa (by unfold qAc;rw[hb];omega),hb,hbo,obS];by_cases h1:Lib.firstT (by8 t a)=241
 ·have e:seqK t a=32:=by unfold seqK;rw[if_pos h1]
  rw[if_pos h1,e,if_neg (by decide),if_neg (by decide)];rw[deT (by decide),cnT];rfl
 ·have h3:=firstT_three h hl h1;have e:seqK t a=contN (t.size - a) (λk=>by8 t (a+k)) (Lib.firstT (by8 t a) % 8 - 1) 1 (Lib.accLo (Lib.firstT (by8 t a) / 16)) (Lib.accHi (Lib.firstT (by8 t a) / 16)):=by unfold seqK;rw[if_neg h1]
  rw[if_neg h1];have hw:seqW t a=Lib.firstT (by8 t a) % 8:=rfl;have pc:=p_cont t a (by omega) hs (Lib.firstT (by8 t a) % 8 - 1) 1 (Lib.accLo (Lib.firstT (by8 t a) / 16)) (Lib.accHi (Lib.firstT (by8 t a) / 16)) (by omega) (by omega);rw[<-e] at pc;rw[show((1:Nat):Int)+((Lib.firstT (by8 t a) % 8 - 1:Nat):Int) - 1=((Lib.firstT (by8 t a) % 8:Nat):Int) - 1 by omega] at pc;rw[<-hw] at pc h3 ⊢;dsimp only;rw[deF (by omega),cnF];rw[show((1:Nat):Int)=1 from rfl] at pc;rw[pc,obS];by_cases h0:seqK t a=0
  ·rw[if_pos h0,if_pos h0];have hi:=hi h0;simp only[Sum.elim_inr];refine(qAa (by unfold qAc;omega) _).trans ((qAa (by unfold qAc;omega) _).trans ((qAa (by unfold qAc;omega) _).trans ((qAa (by unfold qAc;omega) _).trans ((qAa (by omega) _).trans ?_))));rw[show(a:Int)+((seqW t a:Int) - 1)+1=((a+seqW t a:Nat):Int) by omega];simp only[Int.toNat_natCast]
  ·rw[if_neg h0,if_neg h0];rfl
set_option maxRecDepth 100000 in
set_option maxHeartbeats 4000000 in
theorem seq_dec{t:BA}{a:Nat}(ha:a<t.size)(h:128<=by8 t a) :
  (seqK t a=0->(Utf8.decode t a).2=seqW t a) /\
  (seqK t a≠0->Utf8.decode t a=(65533,1)/\(qGj (t.size - a) (by8 t a) (by8 t (a+1)) (by8 t (a+2))=!decide (seqK t a=31))):=by
 have l0:=by8_lt t a;have l1:=by8_lt t (a+1);have l2:=by8_lt t (a+2);have l3:=by8_lt t (a+3);have hd:Utf8.decode t a=Lib.decodeN (t.size - a) (by8 t a) (by8 t (a+1)) (by8 t (a+2)) (by8 t (a+3)):=Lib.decode_at t a;have hf:=firstT_low ⟨by8 t a,l0⟩ h;simp only at hf;rw[hd];unfold seqK seqW;by_cases h1:Lib.firstT (by8 t a)=241
 ·rw[if_pos h1];refine⟨λh=>(by cases h),λ_=>⟨Lib.bad_eq _ _ _ _ _ l0 h1,?_⟩⟩;unfold qGj;rw[if_neg (by omega),h1,if_pos (by omega)];rfl
 ·rw[if_neg h1,<-Lib.slow_eq _ _ _ _ _ (by omega) l1 l2 l3 (by rcases Lib.firstT_cases (by8 t a) with h | h | h | h | h | h | h | h | h <;> omega)]
  have hn:1<=t.size - a:=by omega
  generalize t.size - a=n at *
  unfold qGj;generalize hb1:by8 t (a+1)=b1 at *
  generalize hb2:by8 t (a+2)=b2 at *
  generalize hb3:by8 t (a+3)=b3 at *
  generalize by8 t a=b0 at *
  rcases Lib.firstT_cases b0 with g | g | g | g | g | g | g | g | g <;> first | exact(hf g).elim | exact(h1 g).elim | rw[g]
  all_goals
   simp only[Nat.reduceMod,Nat.reduceDiv,Nat.reduceSub,contN,Lib.slowN,Lib.accLo,Lib.accHi,Nat.reduceEqDiff,Nat.reduceAdd,Nat.reduceLeDiff,if_true,if_false,hb1,hb2,hb3];repeat' split
   all_goals first | (exfalso;omega) | (refine⟨λh=>?_,λh=>⟨?_,?_⟩⟩ <;> first | rfl | (exfalso;omega) | (cases h) | (exact(h rfl).elim))
end Go.Proofs.YtbokbmjcodoccabDoor
namespace Go.Proofs.YtbokbmjcodoccabDoor
open Go.Eng
theorem p_run(s:BA)(h:s.size<9223372036854775807):zac_s s=some (runS s:Int):=by
 unfold zac_s zac_p0;rw[qDe (λx:Int=>∃k:Nat,x=k/\k<=s.size/\qCj s k=qCj s 0) (λx=>s.size - x.toNat) (λ_=>(qCj s 0:Int)) ?_ (x:=(0:Int)) ⟨0,rfl,by omega,rfl⟩]
 ·rfl
 rintro _ ⟨k,rfl,hk,hm⟩
 unfold zac_p0_step;have key:((decide ((k:Int)<(s.size:Int)) && decide ((48:Int)<=bAt s k)) && decide (bAt s k<=57))=digS s k:=by
  unfold digS;by_cases hlt:(k:Int)<s.size
  ·simp[hlt]
  ·have:=qBl hlt;simp[hlt,this]
 rw[key];cases hd:digS s k with
 | true =>
  left;have hlt:=qFm hd;refine⟨((k+1:Nat):Int),?_,⟨k+1,rfl,by omega,by rw[<-hm,qDr hd]⟩,by omega,rfl⟩;refine(qAa (λ_=>by omega) _).trans ?_;refine(qAa (λ_=>by omega) _).trans ?_;refine(qAa (by unfold qAc;omega) _).trans ?_;rfl
 | false =>
  right;refine(qAa (λh=>by have:=of_decide_eq_true h;omega) _).trans ?_;refine(qAa (λh=>by have:=of_decide_eq_true (Bool.and_eq_true _ _ ▸ h).1;omega) _).trans ?_;show some (Sum.inr (k:Int))=_;rw[<-hm,qE9 hd]
theorem p_trimL1(s:BA)(b:Int):zcn_s s b=some (trimL s b):=by
 unfold zcn_s zcn_p0;rw[qDe (λx:BA=>∃k:Nat,x=s.extract k s.size/\k<=s.size/\leadB s b k=leadB s b 0) (λx=>x.size) (λ_=>trimL s b) ?_ ⟨0,(all_of s).symm,by omega,rfl⟩]
 ·rfl
 rintro _ ⟨k,rfl,hk,hm⟩
 unfold zcn_p0_step;have hz:=qCe s k;have hb:=bAt_tail s k 0 (by omega);simp only[Int.add_zero] at hb;rw[hb];by_cases hq:k<s.size/\bAt s k=b
 ·left;refine⟨s.extract (k+1) s.size,?_,⟨k+1,rfl,by omega,by rw[<-hm,leadB_yes hq]⟩,by rw[qCe,qCe];omega,rfl⟩;refine(qAa (λ_=>by omega) _).trans ?_;have:(decide ((0:Int)<((s.extract k s.size).size:Int)) && decide (bAt s k=b))=true:=by simp only[Bool.and_eq_true,decide_eq_true_eq];exact⟨by omega,hq.2⟩
  rw[this,cnT];refine(qAa (by omega) _).trans ?_;rw[qHe]
 ·right;refine(qAa (λh=>by have:=of_decide_eq_true h;omega) _).trans ?_;have:(decide ((0:Int)<((s.extract k s.size).size:Int)) && decide (bAt s k=b))=false:=by
   rw[Bool.and_eq_false_iff,decide_eq_false_iff_not,decide_eq_false_iff_not];by_cases h1:k<s.size
   ·exact .inr λh=>hq ⟨h1,h⟩
   ·exact .inl (by omega)
  rw[this,cnF,trimL,<-hm,leadB_no hq]
theorem p_trimR1(s:BA)(b:Int)(h:s.size<9223372036854775807):zco_s s b=some (trimR s b):=by
 unfold zco_s zco_p0;rw[qDe (λx:BA=>∃k:Nat,x=s.extract 0 k/\k<=s.size/\backB s b k=backB s b s.size) (λx=>x.size) (λ_=>trimR s b) ?_ ⟨s.size,(all_of s).symm,by omega,rfl⟩]
 ·rfl
 rintro _ ⟨k,rfl,hk,hm⟩
 unfold zco_p0_step;have hz:(s.extract 0 k).size=k:=by rw[ByteArray.size_extract];omega
 simp only[hz];cases k with
 | zero =>
  right;refine(qAa (λh=>by simp at h) _).trans ?_;refine(qAa (λh=>by simp at h) _).trans ?_;rw[trimR,<-hm];rfl
 | succ n =>
  have hb:bAt (s.extract 0 (n+1)) (((n+1:Nat):Int) - 1)=bAt s n:=by
   rw[bAt_extract s 0 (n+1) _ (by omega) (by omega)];congr 1
   omega
  rw[hb];have e0:decide ((0:Int)<((n+1:Nat):Int))=true:=by simp only[decide_eq_true_eq];omega
  rw[e0];by_cases hq:bAt s n=b
  ·left;refine⟨s.extract 0 n,?_,⟨n,rfl,by omega,by rw[<-hm];show _=backB s b (n+1);rw[backB,if_pos hq]⟩,by rw[ByteArray.size_extract];omega,tV⟩;refine(qAa (λ_=>by unfold qAc;omega) _).trans ?_;refine(qAa (λ_=>by omega) _).trans ?_;have:(true && decide (bAt s n=b))=true:=by simp[hq]
   rw[this,cnT];refine(qAa (by unfold qAc;omega) _).trans ?_;refine(qAa (by omega) _).trans ?_;rw[show Int.toNat (((n+1:Nat):Int) - 1)=n by omega,ByteArray.extract_extract];congr 3
   omega
  ·right;refine(qAa (λ_=>by unfold qAc;omega) _).trans ?_;refine(qAa (λ_=>by omega) _).trans ?_;have:(true && decide (bAt s n=b))=false:=by simp[hq]
   rw[this,cnF,trimR,<-hm,backB,if_neg hq]
theorem p_trimL(s:BA):zcl_s s (⟨#[48]⟩:BA)=some (trimL s 48):=by
 unfold zcl_s;have h1:decide ((⟨#[48]⟩:BA)=(⟨#[]⟩:BA))=false:=by decide
 rw[h1,Bool.or_false];by_cases he:s=⟨#[]⟩
 ·rw[deT he,cnT];congr 1
  have:=eq_none.1 he;unfold trimL;rw[he];refine(eq_none.2 ?_).symm;rw[ByteArray.size_extract];have:(⟨#[]⟩:BA).size=0:=rfl;omega
 ·rw[deF he,cnF];refine(qAa (λ_=>by decide) _).trans ?_;have h2:(decide (((⟨#[48]⟩:BA).size:Int)=1) && decide (bAt (⟨#[48]⟩:BA) 0<128))=true:=by decide
  rw[h2,cnT];refine(qAa (by decide) _).trans ?_;rw[show bAt (⟨#[48]⟩:BA) 0=48 by decide,p_trimL1];rfl
theorem p_trimR(s:BA)(h:s.size<9223372036854775807):zcm_s s (⟨#[48]⟩:BA)=some (trimR s 48):=by
 unfold zcm_s;have h1:decide ((⟨#[48]⟩:BA)=(⟨#[]⟩:BA))=false:=by decide
 rw[h1,Bool.or_false];by_cases he:s=⟨#[]⟩
 ·rw[deT he,cnT];congr 1
  have:=eq_none.1 he;unfold trimR;rw[he];refine(eq_none.2 ?_).symm;rw[ByteArray.size_extract];have:(⟨#[]⟩:BA).size=0:=rfl;omega
 ·rw[deF he,cnF];refine(qAa (λ_=>by decide) _).trans ?_;have h2:(decide (((⟨#[48]⟩:BA).size:Int)=1) && decide (bAt (⟨#[48]⟩:BA) 0<128))=true:=by decide
  rw[h2,cnT];refine(qAa (by decide) _).trans ?_;rw[show bAt (⟨#[48]⟩:BA) 0=48 by decide,p_trimR1 s 48 h];rfl
theorem p_cut(s p:BA):zck_s s p=some (cutPre s p,hasPre s p):=by
 unfold zck_s zad_s zae_s;rw[qAa (λh=>by have:=of_decide_eq_true h;omega)];have e:(decide ((p.size:Int)<=(s.size:Int)) && decide (s.extract 0 (Int.toNat (p.size:Int))=p))=hasPre s p:=by
  simp only[hasPre,Int.ofNat_le,Int.toNat_natCast]
 rw[e];simp only[obS];unfold cutPre;cases h:hasPre s p with
 | true =>
  have:=hasPre_le h;simp only[Bool.not_true,cnF,if_true];rw[qAa (by omega)];simp only[obS,Int.toNat_natCast]
 | false=>simp
def num(n:PNum):decimal_number:=⟨n.minus,n.int,n.digits,n.off,n.plain,n.down,n.exp⟩
theorem hasPre_45(s:BA):hasPre s (⟨#[45]⟩:BA)=decide (bAt s 0=45):=hasPre_one rfl
theorem hasPre_46(s:BA):hasPre s (⟨#[46]⟩:BA)=decide (bAt s 0=46):=hasPre_one rfl
theorem cut_45(s:BA):cutPre s (⟨#[45]⟩:BA)=s.extract (atA s) s.size:=by
 unfold cutPre atA;rw[hasPre_45];by_cases h:bAt s 0=45
 ·simp only[h,decide_true,if_true];rfl
 ·simp only[h,decide_false,if_false,Bool.false_eq_true,all_of]
theorem or32{b:Int}(h0:0<=b)(h1:b<=255):decide (qBr .u8 b 32=101)=(decide (b=101) || decide (b=69)):=by
 have key:∀n:Fin 256,decide (qBr .u8 (n.val:Int) 32=101)=(decide ((n.val:Int)=101) || decide ((n.val:Int)=69)):=by decide +kernel
 have:=key ⟨b.toNat,by omega⟩;simpa[Int.toNat_of_nonneg h0] using this
section
variable (s:BA) (hsz:s.size<4000000000000000000)
include hsz
theorem p_read0:zab_p0 (s.extract (atA s) s.size)=some (if badA s=true then .inl false else .inr (s.extract (atB s) s.size,s.extract (atA s) (atB s))):=by
 have hA:=atA_le s;have hAB:=atA_le_atB s;have hB:=atB_le s;have hr:runS (s.extract (atA s) s.size)=atB s - atA s:=runS_tail s (atA s);have hz:=qCe s (atA s);have hb0:=bAt_tail s (atA s) 0 (by omega);simp only[Int.add_zero] at hb0;unfold zab_p0;rw[p_run _ (by omega),obS];refine(qAa (λh _=>by have:=of_decide_eq_true h;omega) _).trans ?_;have hbad:badA s=(decide ((runS (s.extract (atA s) s.size):Int)=0) || decide (1<(runS (s.extract (atA s) s.size):Int)) && decide (bAt (s.extract (atA s) s.size) 0=48)):=by
  rw[hr,hb0];unfold badA;rw[Bool.and_comm];congr 1
  ·rw[decide_eq_decide];omega
  ·congr 1
   rw[decide_eq_decide];omega
 rw[<-hbad];cases hbd:badA s with
 | true=>rfl
 | false =>
  simp only[cnF];refine(qAa (by omega) _).trans ?_;refine(qAa (by omega) _).trans ?_;rw[hr,Int.toNat_natCast,head_tail,qHe,show atA s+(atB s - atA s)=atB s by omega,show min (atB s) s.size=atB s by omega];rfl
theorem p_read1:zab_p1 (s.extract (atB s) s.size) (⟨#[]⟩:BA) true=some (if(dotS s && decide (atK s=atB s+1))=true then .inl false else .inr (s.extract (atC s) s.size,fracS s,!dotS s)):=by
 have hb0:=bAt_tail s (atB s) 0 (by omega);simp only[Int.add_zero] at hb0;have hdot:decide (bAt (s.extract (atB s) s.size) 0=46)=dotS s:=by rw[hb0];rfl
 have hz:=qCe s (atB s);unfold zab_p1;rw[p_cut,obS];simp only[hasPre_46,hdot];cases hd:dotS s with
 | false=>simp[fracS,atC,hd]
 | true =>
  have hBl:=atB_lt hd;have hKl:=atK_le hd;have hKg:=atK_ge s;have hcp:cutPre (s.extract (atB s) s.size) ⟨#[46]⟩=s.extract (atB s+1) s.size:=by
   unfold cutPre;rw[hasPre_46,hdot,hd];exact qHe s (atB s) 1
  have hr:runS (s.extract (atB s+1) s.size)=atK s - (atB s+1):=runS_tail s (atB s+1);have hz1:=qCe s (atB s+1);simp only[hcp,cnT];rw[p_run _ (by omega),obS];have hq:decide ((runS (s.extract (atB s+1) s.size):Int)=0)=decide (atK s=atB s+1):=by rw[hr,decide_eq_decide];omega
  rw[hq];cases hk:decide (atK s=atB s+1) with
  | true=>rfl
  | false =>
   simp only[cnF];refine(qAa (by omega) _).trans ?_;refine(qAa (by omega) _).trans ?_;rw[hr,Int.toNat_natCast,head_tail,qHe,show atB s+1+(atK s - (atB s+1))=atK s by omega,show min (atK s) s.size=atK s by omega];simp[fracS,atC,hd]
theorem p_read3(he:expS s=true):zab_p3 (s.extract (atE s) s.size)=some (if badE s=true then .inl false else .inr ((⟨#[]⟩:BA),false,(qFu s).exp)):=by
 have hEl:=atE_le he;have hFl:=atF_le he;have hFg:=atF_ge s;have hr:runS (s.extract (atE s) s.size)=atF s - atE s:=runS_tail s (atE s);have hz2:=qCe s (atE s);have hne2:=tail_none s (atE s);unfold zab_p3;by_cases hn:s.extract (atE s) s.size=⟨#[]⟩
 ·have:badE s=true:=by simp[badE,he,hne2.1 hn]
  rw[deT hn,this];rfl
 ·rw[deF hn,cnF,p_run _ (by omega),obS,hr,hz2];have hle:¬s.size<=atE s:=λh=>hn (hne2.2 h)
  have hbe:(!decide (((atF s - atE s:Nat):Int)=((s.size - atE s:Nat):Int)))=badE s:=by
   unfold badE;rw[he,Bool.true_and,deF hle,Bool.false_or,<-decide_not,decide_eq_decide];omega
  rw[hbe];cases hb:badE s with
  | true=>rfl
  | false =>
   simp only[cnF];rw[p_trimL,obS];simp[qFu,he,expT]
theorem p_read2(pl:Bool):zab_p2 (s.extract (atC s) s.size) pl false (⟨#[]⟩:BA)=some (if badE s=true then .inl (false,expS s && decide (bAt s (atC s+1)=45)) else .inr (if expS s=true then⟨#[]⟩ else s.extract (atC s) s.size,pl && !expS s,expS s && decide (bAt s (atC s+1)=45),(qFu s).exp)):=by
 have hC:=atC_le s;have hb0:=bAt_tail s (atC s) 0 (by omega);simp only[Int.add_zero] at hb0;have hz:=qCe s (atC s);have hrg:=qC4 s (atC s);have hne:=tail_none s (atC s);have hexp:(!decide (s.extract (atC s) s.size=⟨#[]⟩) && decide (qBr .u8 (bAt (s.extract (atC s) s.size) 0) 32=101))=expS s:=by
  unfold expS;rw[hb0];by_cases he:s.size<=atC s
  ·have:bAt s (atC s) = -1:=qBl (by omega);simp[hne.2 he,this]
  ·have hn:¬s.extract (atC s) s.size=⟨#[]⟩:=λe=>he (hne.1 e)
   have h0:0<=bAt s (atC s):=bAt_nn (by omega) (by omega);rw[or32 h0 hrg.2];simp[hn]
 unfold zab_p2;refine(qAa (λh=>by
  have:¬s.size<=atC s:=λh'=>by simp[hne.2 h'] at h
  omega) _).trans ?_
 rw[hexp];cases he:expS s with
 | false=>simp[qFu,he,badE]
 | true =>
  have hCl:=atC_lt he;have hEl:=atE_le he;have hb1:=bAt_tail s (atC s+1) 0 (by omega);simp only[Int.add_zero] at hb1;have hz1:=qCe s (atC s+1);have hne1:=tail_none s (atC s+1);have htt:(s.extract (atC s) s.size).extract 1 (s.extract (atC s) s.size).size=s.extract (atC s+1) s.size:=qHe s (atC s) 1;simp only[cnT];refine(qAa (by omega) _).trans ?_;simp only[htt];refine(qAa (λh=>by
   have:¬s.size<=atC s+1:=λh'=>by simp[hne1.2 h'] at h
   omega) _).trans ?_
  refine(qAa (λ_ h=>by
   have:¬s.size<=atC s+1:=λh'=>by simp[hne1.2 h'] at h
   omega) _).trans ?_
  have hsg:(!decide (s.extract (atC s+1) s.size=⟨#[]⟩) && (decide (bAt (s.extract (atC s+1) s.size) 0=43) || decide (bAt (s.extract (atC s+1) s.size) 0=45)))=sgnS s:=by
   unfold sgnS;rw[hb1];by_cases h:s.size<=atC s+1
   ·have:bAt s ((atC s+1:Nat):Int) = -1:=qBl (by omega);have h2:bAt s ((atC s:Int)+1) = -1:=by rw[<-this];rfl
    simp[hne1.2 h,h2]
   ·have hn:¬s.extract (atC s+1) s.size=⟨#[]⟩:=λe=>h (hne1.1 e)
    simp[hn]
  rw[hsg];cases hs:sgnS s with
  | false =>
   have hnd:¬bAt s ((atC s:Int)+1)=45:=λe=>by simp[sgnS,e] at hs
   have hE:s.extract (atC s+1) s.size=s.extract (atE s) s.size:=by simp[atE,hs]
   simp only[cnF];rw[hE,p_read3 s hsz he,obS];cases badE s <;> simp[hnd]
  | true =>
   have hsl:=sgn_lt hs;have hE:(s.extract (atC s+1) s.size).extract 1 (s.extract (atC s+1) s.size).size=s.extract (atE s) s.size:=by rw[qHe];simp[atE,hs]
   have hb1':bAt (s.extract (atC s+1) s.size) 0=bAt s ((atC s:Int)+1):=hb1;simp only[cnT];refine(qAa (by omega) _).trans ?_;refine(qAa (by omega) _).trans ?_;rw[hE,p_read3 s hsz he,obS,hb1'];cases badE s <;> simp
theorem p_read4:zab_p4 (if expS s=true then⟨#[]⟩ else s.extract (atC s) s.size) (fracS s) (s.extract (atA s) (atB s)) (expS s && decide (bAt s (atC s+1)=45)) (qFu s).exp=some (expS s || decide (s.size<=atC s),(qFu s).digits,(qFu s).off,(qFu s).down):=by
 have hne:=tail_none s (atC s);have hi:(s.extract (atA s) (atB s)).size<=s.size:=by rw[ByteArray.size_extract];omega
 have hfr:(fracS s).size<=s.size:=by
  unfold fracS;split
  ·rw[ByteArray.size_extract];omega
  ·exact Nat.zero_le _
 have hap:(s.extract (atA s) (atB s)++fracS s).size=(s.extract (atA s) (atB s)).size+(fracS s).size:=ByteArray.size_append;have htl:(trimL (s.extract (atA s) (atB s)++fracS s) 48).size<=(s.extract (atA s) (atB s)++fracS s).size:=by rw[trimL,ByteArray.size_extract];omega
 have hrest:decide ((if expS s=true then⟨#[]⟩ else s.extract (atC s) s.size)=(⟨#[]⟩:BA))=(expS s || decide (s.size<=atC s)):=by
  cases he:expS s
  ·simp[hne]
  ·simp
 have hdn:(qFu s).down=(expS s && decide (bAt s (atC s+1)=45) && !decide ((qFu s).exp=⟨#[]⟩)):=by
  cases he:expS s
  ·simp[qFu,he]
  ·simp[qFu,he]
 unfold zab_p4;refine(qAa (by omega) _).trans ?_;rw[p_trimL,obS];refine(qAa (by unfold qAc;omega) _).trans ?_;refine(qAa (by unfold qAc;omega) _).trans ?_;rw[p_trimR _ (by omega),obS,hrest,hdn];cases decide ((qFu s).exp=⟨#[]⟩) <;> simp[qFu]
theorem p_readA(m:Bool)(hm:m=decide (bAt s 0=45)):((zab_p0 (s.extract (atA s) s.size)).bind λo3=>(Sum.elim (λ(o3_0:Bool) =>
   some ((⟨m,(⟨#[]⟩:BA),(⟨#[]⟩:BA),(0:Int),true,false,(⟨#[]⟩:BA)⟩:decimal_number),o3_0)) (λ(o3_1:BA × BA) =>
   (zab_p1 o3_1.1 (⟨#[]⟩:BA) true).bind λo6=>(Sum.elim (λ(o6_0:Bool) =>
    some ((⟨m,o3_1.2,(⟨#[]⟩:BA),(0:Int),true,false,(⟨#[]⟩:BA)⟩:decimal_number),o6_0)) (λ(o6_1:BA × BA × Bool) =>
    (zab_p2 o6_1.1 o6_1.2.2 false (⟨#[]⟩:BA)).bind λo11=>(Sum.elim (λ(o11_0:Bool × Bool) =>
     some ((⟨m,o3_1.2,(⟨#[]⟩:BA),(0:Int),o6_1.2.2,o11_0.2,(⟨#[]⟩:BA)⟩:decimal_number),o11_0.1)) (λ(o11_1:BA × Bool × Bool × BA) =>
     (zab_p4 o11_1.1 o6_1.2.1 o3_1.2 o11_1.2.2.1 o11_1.2.2.2).bind λo14 =>
     some ((⟨m,o3_1.2,o14.2.1,o14.2.2.1,o11_1.2.1,o14.2.2.2,o11_1.2.2.2⟩:decimal_number),o14.1))) o11)) o6)) o3)=some (num (qFt s),qB1 s):=by
 subst hm;rw[p_read0 s hsz,obS];cases hbd:badA s with
 | true =>
  have hro:qB1 s=false:=by simp[qB1,hbd]
  rw[progAll_1 hbd,hro];rfl
 | false =>
  simp only[Bool.false_eq_true,if_false,Sum.elim_inr];rw[p_read1 s hsz,obS];cases hdk:(dotS s && decide (atK s=atB s+1)) with
  | true =>
   have hro:qB1 s=false:=by simp only[qB1,hbd,hdk,Bool.not_true,Bool.not_false,Bool.and_false,Bool.false_and]
   rw[progAll_2 hbd hdk,hro];rfl
  | false =>
   simp only[Bool.false_eq_true,if_false,Sum.elim_inr];rw[p_read2 s hsz,obS];cases hbe:badE s with
   | true =>
    have hro:qB1 s=false:=by
     rw[<-progOk_eq];simp[progOk,hbe]
    rw[progAll_3 hbd hdk hbe,hro];rfl
   | false =>
    have hro:qB1 s=(expS s || decide (s.size<=atC s)):=by
     rw[<-progOk_eq];simp only[progOk,hbd,hdk,hbe,Bool.not_false,Bool.true_and]
    simp only[Bool.false_eq_true,if_false,Sum.elim_inr];rw[p_read4 s hsz,obS,progAll_4 hbd hdk hbe,hro];rfl
theorem p_read:zab_s s 0=some (num (qFt s),qB1 s):=by
 unfold zab_s;rw[deT rfl,cnT,p_cut,obS,hasPre_45,cut_45];exact p_readA s hsz _ rfl
end
end Go.Proofs.YtbokbmjcodoccabDoor
namespace Go.Proofs.YtbokbmjcodoccabDoor
open Go.Eng
theorem tdiv_neg(x:Int)(h:0<=x):Int.tdiv (-x) 10 = -(x / 10):=by
 rw[Int.neg_tdiv,Int.tdiv_eq_ediv_of_nonneg h]
def qEv(t:BA):Nat->Nat->Int->Option Int
 | 0,_,v=>some v
 | j+1,i,v=>if(9223372036854775808 - (bAt t (i:Int) - 48) % 256) / 10<v then none else qEv t j (i+1) (10*v+(bAt t (i:Int) - 48) % 256)
def qC9(s:BA):Int × Bool :=
 if qB1 s=true/\(qC1 s).plain=true then match qEv (qC1 s).text (qC1 s).text.size 0 0 with
  | none=>(0,false)
  | some u=>if(qC1 s).minus=true then(-u,true) else if u=9223372036854775808 then(0,false) else(u,true)
 else(0,false)
theorem wholeV_no{s:BA}(h:¬(qB1 s=true/\(qC1 s).plain=true)):qC9 s=(0,false):=if_neg h
theorem wholeV_yes{s:BA}(h:qB1 s=true/\(qC1 s).plain=true):qC9 s=match qEv (qC1 s).text (qC1 s).text.size 0 0 with
  | none=>(0,false)
  | some u=>if(qC1 s).minus=true then(-u,true) else if u=9223372036854775808 then(0,false) else(u,true):=if_pos h
theorem whole_pj(t:BA)(hs:t.size<=3000000):∀(j i:Nat) (v:Int),i+j=t.size->0<=v/\v<=9223372036854775808 ->
  (qEv t j i v=none/\qE5 v (t.size:Int) (i:Int) t=some (.inl (0,false))) \/
  (∃u:Int,qEv t j i v=some u/\(0<=u/\u<=9223372036854775808)/\qE5 v (t.size:Int) (i:Int) t=some (.inr u))
 | 0,i,v,h,hv=>by
  refine .inr ⟨v,rfl,hv,?_⟩;unfold qE5;refine qAf ?_;unfold qCa;dsimp only;rw[deF (by omega),cnF]
 | j+1,i,v,h,hv=>by
  obtain⟨d,hd⟩:∃d,d=(bAt t i - 48) % 256:=⟨_,rfl⟩;have hd2:0<=d/\d<256:=by omega
  have e1:(9223372036854775808 - d % 18446744073709551616) % 18446744073709551616=9223372036854775808 - d:=by omega
  have s1:qCa v (t.size:Int) (i:Int) t=if(9223372036854775808 - d) / 10<v then some (.inr (.inl (0,false))) else some (.inl (10*v+d,((i+1:Nat):Int))):=by
   unfold qCa;rw[<-hd,deT (by omega),cnT];refine(qAa (by omega) _).trans ?_;rw[e1];refine(qAa (by omega) _).trans ?_;by_cases hl:(9223372036854775808 - d) / 10<v
   ·rw[deT hl,cnT,if_pos hl]
   ·rw[deF hl,cnF,if_neg hl];refine(qAa (by unfold qAc;omega) _).trans ?_;rw[show(10*v % 18446744073709551616+d % 18446744073709551616) % 18446744073709551616=10*v+d by omega];rfl
  by_cases hl:(9223372036854775808 - d) / 10<v
  ·have hw:qEv t (j+1) i v=none:=by unfold qEv;rw[<-hd,if_pos hl]
   rw[if_pos hl] at s1;refine .inl ⟨hw,?_⟩;unfold qE5;exact qAf s1
  ·have hw:qEv t (j+1) i v=qEv t j (i+1) (10*v+d):=by rw[qEv,<-hd,if_neg hl]
   rw[if_neg hl] at s1;have ih:=whole_pj t hs j (i+1) (10*v+d) (by omega) (by omega);have w1:qE5 v (t.size:Int) (i:Int) t=qE5 (10*v+d) (t.size:Int) ((i+1:Nat):Int) t:=by
    unfold qE5;exact qAm s1
   rw[hw,w1];exact ih
theorem whole_j(s:BA)(hs:s.size<=3000000):zaa_s s=some (qC9 s):=by
 unfold zaa_s;rw[p_read s (by omega),obS];cases hr:qB1 s with
 | false =>
  rw[wholeV_no (by rw[hr];simp)];rfl
 | true =>
  rw[progAll_ok hr];have hp:(num (qFu s)).plain=(qC1 s).plain:=rfl;simp only[Bool.not_true,Bool.false_or];rw[hp];cases hpl:(qC1 s).plain with
  | false =>
   have hpl:(qC1 s).plain=false:=hpl;rw[wholeV_no (by rw[hpl];simp)];rfl
  | true =>
   have hpl:(qC1 s).plain=true:=hpl;rw[wholeV_yes ⟨hr,hpl⟩];generalize hrs:qC1 s=r at *
   simp only[Bool.not_true,cnF];have ht:(num (qFu s)).whole=r.text:=by rw[<-hrs];rfl
   have hm:(num (qFu s)).minus=r.minus:=by rw[<-hrs];rfl
   rw[ht,hm];have hz:r.text.size<=3000000:=by
    rw[<-hrs];show(s.extract _ _).size<=_;rw[ByteArray.size_extract];omega
   have et:r.text=r.text:=rfl;have em:r.minus=r.minus:=rfl;rw[et] at hz;have:=whole_pj r.text hz r.text.size 0 0 (by omega) (by omega);rw[show((0:Nat):Int)=0 from rfl] at this;rcases this with⟨h0,h1⟩ | ⟨u,h0,hu,h1⟩
   ·rw[h0];rw[h1];rfl
   ·rw[h0,h1,obS];simp only[Sum.elim_inr];cases r.minus with
    | true =>
     rw[if_pos rfl];simp only[Bool.not_true,Bool.false_and,cnF,cnT];unfold w64;rw[IntKind.wrap_i64];congr 2
     omega
    | false =>
     simp only[Bool.not_false,Bool.true_and,cnF];rw[if_neg (by decide)];by_cases h0:u=9223372036854775808
     ·rw[if_pos h0];rw[deT h0,cnT]
     ·rw[if_neg h0];rw[deF h0,cnF];unfold w64;rw[IntKind.wrap_i64];congr 2
      omega
theorem whole_pair(t:BA)(hs:t.size<=3000000):∀(j i:Nat) (v:Int),i+j=t.size->0<=v/\v<=9223372036854775808 ->
  (qEv t j i v=none/\qE5 v (t.size:Int) (i:Int) t=some (.inl (0,false))/\zbl_p0 (-v) (i:Int) t=some (.inl (0,false))) \/
  (∃u:Int,qEv t j i v=some u/\(0<=u/\u<=9223372036854775808)/\qE5 v (t.size:Int) (i:Int) t=some (.inr u)/\zbl_p0 (-v) (i:Int) t=some (.inr (-u)))
 | 0,i,v,h,hv=>by
  refine .inr ⟨v,rfl,hv,?_,?_⟩
  ·unfold qE5;refine qAf ?_;unfold qCa;dsimp only;rw[deF (by omega),cnF]
  ·unfold zbl_p0;refine qAf ?_;unfold qEd;dsimp only;rw[deF (by omega),cnF]
 | j+1,i,v,h,hv=>by
  obtain⟨d,hd⟩:∃d,d=(bAt t i - 48) % 256:=⟨_,rfl⟩;have hd2:0<=d/\d<256:=by omega
  have hq:Int.tdiv (-9223372036854775808+d) 10 = -((9223372036854775808 - d) / 10):=by
   rw[show(-9223372036854775808+d) = -(9223372036854775808 - d) by omega];exact tdiv_neg _ (by omega)
  have e1:(9223372036854775808 - d % 18446744073709551616) % 18446744073709551616=9223372036854775808 - d:=by omega
  have s1:qCa v (t.size:Int) (i:Int) t=if(9223372036854775808 - d) / 10<v then some (.inr (.inl (0,false))) else some (.inl (10*v+d,((i+1:Nat):Int))):=by
   unfold qCa;rw[<-hd,deT (by omega),cnT];refine(qAa (by omega) _).trans ?_;rw[e1];refine(qAa (by omega) _).trans ?_;by_cases hl:(9223372036854775808 - d) / 10<v
   ·rw[deT hl,cnT,if_pos hl]
   ·rw[deF hl,cnF,if_neg hl];refine(qAa (by unfold qAc;omega) _).trans ?_;rw[show(10*v % 18446744073709551616+d % 18446744073709551616) % 18446744073709551616=10*v+d by omega];rfl
  have s2:qEd (-v) (i:Int) t=if(9223372036854775808 - d) / 10<v then some (.inr (.inl (0,false))) else some (.inl (-(10*v+d),((i+1:Nat):Int))):=by
   unfold qEd;rw[<-hd,deT (by omega),cnT];refine(qAa (by omega) _).trans ?_;refine(qAa (by unfold qAc;omega) _).trans ?_;refine(qAa (by unfold qAc;omega) _).trans ?_;refine(qAa ⟨by decide,by unfold qAc;omega⟩ _).trans ?_;rw[hq];by_cases hl:(9223372036854775808 - d) / 10<v
   ·rw[deT (by omega),cnT,if_pos hl]
   ·rw[deF (by omega),cnF,if_neg hl];refine(qAa (by unfold qAc;omega) _).trans ?_;refine(qAa (by unfold qAc;omega) _).trans ?_;refine(qAa (by unfold qAc;omega) _).trans ?_;rw[show 10 * -v - d = -(10*v+d) by omega];rfl
  by_cases hl:(9223372036854775808 - d) / 10<v
  ·have hw:qEv t (j+1) i v=none:=by unfold qEv;rw[<-hd,if_pos hl]
   rw[if_pos hl] at s1 s2;refine .inl ⟨hw,?_,?_⟩
   ·unfold qE5;exact qAf s1
   ·unfold zbl_p0;exact qAf s2
  ·have hw:qEv t (j+1) i v=qEv t j (i+1) (10*v+d):=by rw[qEv,<-hd,if_neg hl]
   rw[if_neg hl] at s1 s2;have ih:=whole_pair t hs j (i+1) (10*v+d) (by omega) (by omega);have w1:qE5 v (t.size:Int) (i:Int) t=qE5 (10*v+d) (t.size:Int) ((i+1:Nat):Int) t:=by
    unfold qE5;exact qAm s1
   have w2:zbl_p0 (-v) (i:Int) t=zbl_p0 (-(10*v+d)) ((i+1:Nat):Int) t:=by
    unfold zbl_p0;exact qAm s2
   rw[hw,w1,w2];exact ih
theorem whole_is(s:BA)(hs:s.size<=3000000):zaa_s s=some (qC9 s)/\zbl_s s=some (qC9 s):=by
 unfold zaa_s zbl_s;rw[p_read s (by omega),p_Read s (by omega),obS,obS];cases hr:qB1 s with
 | false =>
  rw[wholeV_no (by rw[hr];simp)];exact⟨rfl,rfl⟩
 | true =>
  rw[progAll_ok hr,readAll_ok hr];have hp:(num (qFu s)).plain=(rnum (qC1 s)).plain:=rfl;simp only[Bool.not_true,Bool.false_or];rw[hp];cases hpl:(rnum (qC1 s)).plain with
  | false =>
   have hpl:(qC1 s).plain=false:=hpl;rw[wholeV_no (by rw[hpl];simp)];exact⟨rfl,rfl⟩
  | true =>
   have hpl:(qC1 s).plain=true:=hpl;rw[wholeV_yes ⟨hr,hpl⟩];generalize hrs:qC1 s=r at *
   simp only[Bool.not_true,cnF];have ht:(num (qFu s)).whole=r.text:=by rw[<-hrs];rfl
   have hm:(num (qFu s)).minus=r.minus:=by rw[<-hrs];rfl
   rw[ht,hm];have hz:(rnum r).text.size<=3000000:=by
    rw[<-hrs];show(s.extract _ _).size<=_;rw[ByteArray.size_extract];omega
   have et:(rnum r).text=r.text:=rfl;have em:(rnum r).minus=r.minus:=rfl;rw[et] at hz;rw[et,em];have:=whole_pair r.text hz r.text.size 0 0 (by omega) (by omega);rw[show(-0:Int)=0 from rfl,show((0:Nat):Int)=0 from rfl] at this;rcases this with⟨h0,h1,h2⟩ | ⟨u,h0,hu,h1,h2⟩
   ·rw[h0];exact⟨by rw[h1];rfl,by rw[h2];rfl⟩
   ·rw[h0,h1,h2,obS,obS];simp only[Sum.elim_inr];cases r.minus with
    | true =>
     rw[if_pos rfl];refine⟨?_,rfl⟩;simp only[Bool.not_true,Bool.false_and,cnF,cnT];unfold w64;rw[IntKind.wrap_i64];congr 2
     omega
    | false =>
     simp only[Bool.not_false,Bool.true_and,cnF];rw[if_neg (by decide)];by_cases h0:u=9223372036854775808
     ·rw[if_pos h0];refine⟨?_,?_⟩
      ·rw[deT h0,cnT]
      ·rw[deT (by omega),cnT]
     ·rw[if_neg h0];refine⟨?_,?_⟩
      ·rw[deF h0,cnF];unfold w64;rw[IntKind.wrap_i64];congr 2
       omega
      ·rw[deF (by omega),cnF];refine(qAa (by unfold qAc;omega) _).trans ?_;rw[show 0 - -u=u by omega]
instance memDec (s:BA):(l:List BA)->Decidable (s∈l)
 | []=>isFalse (by simp)
 | x::r=>if h:s=x then isTrue (by simp[h]) else match memDec s r with
  | isTrue h2=>isTrue (List.mem_cons_of_mem _ h2)
  | isFalse h2=>isFalse (by simp[h,h2])
theorem p_among(s:BA)(l:List BA)(hl:l.length<=2000000):zbs_s l s=some (decide (s∈l)):=by
 have key:∀(j i:Nat),i+j=l.length->zbs_p0 s (i:Int) l=some (if s∈l.drop i then .inl true else .inr ()):=by
  intro j;induction j with
  | zero =>
   intro i hi;rw[List.drop_eq_nil_of_le (by omega),if_neg (by simp)];unfold zbs_p0;refine qAf ?_;unfold qEe;rw[deF (by omega),cnF]
  | succ j ih =>
   intro i hi;have hlt:i<l.length:=by omega
   have hd:l.drop i=l[i]::l.drop (i+1):=List.drop_eq_getElem_cons hlt;have hg:l.getD i (⟨#[]⟩:BA)=l[i]:=by rw[List.getD_eq_getElem?_getD,List.getElem?_eq_getElem hlt];rfl
   have hst:qEe s (i:Int) l=if l[i]=s then some (.inr (.inl true)) else some (.inl ((i+1:Nat):Int)):=by
    unfold qEe;rw[deT (by omega),cnT,qAa (by omega),qAa (by omega)];simp only[Int.toNat_natCast];have hg':l.getD i (ET.dft .str)=l[i]:=hg;simp only[hg'];by_cases h:l[i]=s
    ·rw[if_pos h,deT h,cnT]
    ·rw[if_neg h,deF h,cnF];exact qAa (by unfold qAc;omega) _
   unfold zbs_p0;by_cases h:l[i]=s
   ·rw[if_pos h] at hst;rw[qAf hst,if_pos (by rw[hd,h];exact List.mem_cons_self)]
   ·rw[if_neg h] at hst;rw[qAm hst];have:=ih (i+1) (by omega);unfold zbs_p0 at this;rw[this];congr 1
    have:(s∈l.drop i)=(s∈l.drop (i+1)):=by
     rw[hd,List.mem_cons];exact propext ⟨λh'=>h'.resolve_left (λe=>h e.symm),.inr⟩
    simp only[this]
 have:=key l.length 0 (by omega);rw[List.drop_zero,show((0:Nat):Int)=0 from rfl] at this;unfold zbs_s;rw[this,obS];by_cases h:s∈l
 ·rw[if_pos h,deT h];rfl
 ·rw[if_neg h,deF h];rfl
structure NmR (obj:Bool) (nm:MapC) (names:List BA):Prop where
 some_:nm.isSome=obj
 mem:∀s,obj=true->(0<mget nm s↔s∈names)
theorem mfind_mset(l:List (BA × Int))(s t:BA)(x:Int):mfind (mset l s x) t=if t=s then some x else mfind l t:=by
 induction l with
 | nil =>
  show(bif decide (t=s) then some x else none)=_;by_cases h:t=s
  ·rw[if_pos h,deT h];rfl
  ·rw[if_neg h,deF h];rfl
 | cons y r ih =>
  unfold mset;by_cases hs:s=y.1
  ·rw[deT hs,cnT];show(bif decide (t=s) then some x else mfind r t)=_;by_cases h:t=s
   ·rw[if_pos h,deT h];rfl
   ·rw[if_neg h,deF h,cnF];show mfind r t=(bif decide (t=y.1) then some y.2 else mfind r t);rw[deF (by rw[<-hs];exact h),cnF]
  ·rw[deF hs,cnF];unfold mfind;rw[ih];by_cases hy:t=y.1
   ·rw[deT hy,cnT,cnT,if_neg (by rw[hy];exact λh=>hs h.symm)]
   ·rw[deF hy,cnF,cnF]
theorem NmR.put{obj:Bool}{nm:MapC}{names:List BA}(h:NmR obj nm names)(s:BA):NmR obj (mput nm s 1) (names++[s]):=by
 cases nm with
 | none =>
  refine⟨h.some_,λt ht=>?_⟩;have:=h.some_;rw[ht] at this;cases this
 | some l =>
  refine⟨h.some_,λt ht=>?_⟩;have h2:=h.mem t ht;show 0<(mfind (mset l s 1) t).getD 0↔_;rw[mfind_mset,List.mem_append,List.mem_singleton];by_cases hts:t=s
  ·rw[if_pos hts];exact⟨λ_=>.inr hts,λ_=>by decide⟩
  ·rw[if_neg hts];exact⟨λh=>.inl (h2.1 h),λh=>h2.2 (h.resolve_right hts)⟩
inductive Rd (O:Type)
 | ok (b:Nat) (x:O)
 | bad (c:Int) (b:Nat)
def qC0(c:Int):Bool:=decide (c=32) || decide (c=9) || decide (c=10) || decide (c=13)
theorem qCn{t:BA}{a:Nat}(h:qC0 (bAt t a)=true):a<t.size:=by
 unfold qC0 at h;simp only[Bool.or_eq_true,decide_eq_true_eq] at h;have:=(qEn (s:=t) (i:=a) (by omega)).2;omega
def skipN(t:BA):Nat->Nat->Nat
 | 0,a=>a
 | n+1,a=>if qC0 (bAt t (a:Int))=true then skipN t n (a+1) else a
@[irreducible] def qAl (t:BA) (a:Nat):Nat:=skipN t (t.size - a) a
theorem skipS_yes{t:BA}{a:Nat}(h:qC0 (bAt t a)=true):qAl t a=qAl t (a+1):=by
 have:=qCn h;unfold qAl;rw[show t.size - a=(t.size - (a+1))+1 by omega];show(if qC0 (bAt t (a:Int))=true then _ else _)=_;rw[if_pos h]
theorem skipS_no{t:BA}{a:Nat}(h:qC0 (bAt t a)=false):qAl t a=a:=by
 unfold qAl;cases t.size - a with
 | zero=>rfl
 | succ n =>
  show(if qC0 (bAt t (a:Int))=true then _ else _)=_;rw[if_neg (by rw[h];decide)]
theorem qBy(t:BA)(a:Nat):a<=qAl t a:=by
 by_cases h:qC0 (bAt t a)=true
 ·rw[skipS_yes h];have:=qBy t (a+1);omega
 ·rw[skipS_no (by simpa using h)];exact Nat.le_refl _
termination_by t.size - a
decreasing_by have:=qCn h;omega
theorem qBg(t:BA)(a:Nat)(ha:a<=t.size):qAl t a<=t.size:=by
 by_cases h:qC0 (bAt t a)=true
 ·rw[skipS_yes h];exact qBg t (a+1) (by have:=qCn h;omega)
 ·rw[skipS_no (by simpa using h)];exact ha
termination_by t.size - a
decreasing_by have:=qCn h;omega
def digR(t:BA)(a:Nat):Rd Unit:=if qCj t a=a then .bad 31 a else .ok (qCj t a) ()
def litR(t:BA)(w:List Int)(a:Nat):Rd Unit :=
 match w with
 | []=>.ok a ()
 | c::w=>if bAt t a=c then litR t w (a+1) else .bad 31 a
def hexS(c:Int):Int:=if 48<=c/\c<=57 then c - 48 else if 97<=c/\c<=102 then c - 97+10 else if 65<=c/\c<=70 then c - 65+10 else -1
def qDq(half:Bool)(i:Nat)(u d:Int):Prop:=d<0\/(half=true/\(i=0/\d≠13\/i=1/\d<12))\/(half=false/\i=1/\u=13/\12<=d)
instance (half:Bool) (i:Nat) (u d:Int):Decidable (qDq half i u d):=by unfold qDq;exact inferInstance
def qFp(t:BA)(half:Bool)(from_:Nat):Nat->Nat->Nat->Int->Rd Int
 | 0,_,a,u=>.ok a u
 | m+1,i,a,u=>if bAt t a<0 then .bad 31 t.size else if qDq half i u (hexS (bAt t a)) then .bad 33 from_ else qFp t half from_ m (i+1) (a+1) (16*u+hexS (bAt t a))
def pairR(t:BA)(from_:Nat)(a:Nat)(u:Int):Rd Int :=
 if bAt t a<0 then .bad 31 t.size
 else if bAt t a≠92 then .bad 33 from_
 else if bAt t (a+1:Nat)<0 then .bad 31 t.size
 else if bAt t (a+1:Nat)≠117 then .bad 33 from_
 else match qFp t true from_ 4 0 (a+2) 0 with
  | .bad c b=>.bad c b
  | .ok b w=>.ok b (65536+1024*(u - 55296)+w - 56320)
def saidS(c:Int):Int:=if c=34\/c=92\/c=47 then c else if c=98 then 8 else if c=102 then 12 else if c=110 then 10 else if c=114 then 13 else if c=116 then 9 else -1
def escR(t:BA)(a:Nat):Rd Int :=
 if bAt t (a+1:Nat)<0 then .bad 31 t.size
 else if bAt t (a+1:Nat)=117 then
  match qFp t false a 4 0 (a+2) 0 with
  | .bad c b=>.bad c b
  | .ok b u=>if u<55296\/57343<u then .ok b u else pairR t a b u
 else if saidS (bAt t (a+1:Nat))<0 then .bad 33 a
 else .ok (a+2) (saidS (bAt t (a+1:Nat)))
def utfL(u:Int):List Int :=
 if u<128 then [u] else if u<2048 then [192+u / 64,128+u % 64] else if u<65536 then [224+u / 4096,128+u / 64 % 64,128+u % 64] else [240+u / 262144,128+u / 4096 % 64,128+u / 64 % 64,128+u % 64]
def quoR(t:BA):Nat->Nat->List Int->Rd (List Int)
 | 0,a,_=>.bad 31 a
 | n+1,a,acc =>
  if bAt t a<32 then .bad 31 a
  else if bAt t a=34 then .ok (a+1) acc
  else if bAt t a=92 then
   match escR t a with
   | .bad c b=>.bad c b
   | .ok b u=>quoR t n b (acc++utfL u)
  else if bAt t a<128 then quoR t n (a+1) (acc++[bAt t a])
  else if seqK t a=0 then quoR t n (a+seqW t a) (acc++qAw (t.extract a (a+seqW t a)))
  else .bad (seqK t a) (if seqK t a=31 then t.size else a)
def signS(t:BA)(a:Nat):Nat:=if bAt t a=45 then a+1 else a
def zeroR(t:BA)(a:Nat):Rd Unit:=if bAt t a=48 then .ok (a+1) () else digR t a
def dotR(t:BA)(a:Nat):Rd Unit:=if bAt t a=46 then digR t (a+1) else .ok a ()
def powR(t:BA)(a:Nat):Rd Unit :=
 if bAt t a=101\/bAt t a=69 then digR t (if bAt t (a+1:Nat)=43\/bAt t (a+1:Nat)=45 then a+2 else a+1) else .ok a ()
def numR(t:BA)(a:Nat):Rd Unit :=
 match zeroR t (signS t a) with
 | .bad c b=>.bad c b
 | .ok b _ =>
  match dotR t b with
  | .bad c b=>.bad c b
  | .ok b _=>powR t b
def nd0(k:Int)(x:BA)(w:Bool)(i:Int)(n:Int):Eng.Node:=⟨k,(⟨#[]⟩:BA),x,w,i,n⟩
noncomputable def qFw(t:BA)(a:Nat):Rd (List Eng.Node) :=
 if bAt t a=34 then match quoR t (t.size+1) (a+1) [] with
  | .bad c b=>.bad c b
  | .ok b l=>.ok b [nd0 5 (qAq l) false 0 0]
 else if bAt t a=45\/(48<=bAt t a/\bAt t a<=57) then match numR t a with
  | .bad c b=>.bad c b
  | .ok b _=>.ok b [nd0 4 (t.extract a b) (qC9 (t.extract a b)).2 (qC9 (t.extract a b)).1 0]
 else if bAt t a=110 then match litR t [110,117,108,108] a with
  | .bad c b=>.bad c b
  | .ok b _=>.ok b [nd0 1 ⟨#[]⟩ false 0 0]
 else if bAt t a=102 then match litR t [102,97,108,115,101] a with
  | .bad c b=>.bad c b
  | .ok b _=>.ok b [nd0 2 ⟨#[]⟩ false 0 0]
 else if bAt t a=116 then match litR t [116,114,117,101] a with
  | .bad c b=>.bad c b
  | .ok b _=>.ok b [nd0 3 ⟨#[]⟩ false 0 0]
 else .bad 31 a
def qFx(k:BA):List Eng.Node->List Eng.Node
 | []=>[]
 | n::r=>⟨n.kind,k,n.text,n.whole,n.int,n.kids⟩::r
def qFq(t:BA)(val:Nat->Rd (List Eng.Node))(obj:Bool)(names:List BA)(a:Nat):Rd (BA × List Eng.Node) :=
 if obj then
  if bAt t a=34 then match quoR t (t.size+1) (a+1) [] with
   | .bad c b=>.bad c b
   | .ok b l =>
    if qAq l∈names then .bad 34 a
    else if bAt t (qAl t b)=58 then match val (qAl t (qAl t b+1)) with
     | .bad c b=>.bad c b
     | .ok b x=>.ok b (qAq l,qFx (qAq l) x)
    else .bad 31 (qAl t b)
  else .bad 31 a
 else match val a with
  | .bad c b=>.bad c b
  | .ok b x=>.ok b (⟨#[]⟩,x)
def qD2(obj:Bool):Int:=if obj then 125 else 93
def rowR(t:BA)(val:Nat->Rd (List Eng.Node))(obj:Bool):Nat->Nat->Nat->List Eng.Node->List BA->Rd (Nat × List Eng.Node)
 | 0,a,_,_,_=>.bad 31 a
 | m+1,a,k,acc,names =>
  match qFq t val obj names a with
  | .bad c b=>.bad c b
  | .ok b x =>
   if bAt t (qAl t b)=qD2 obj then .ok (qAl t b+1) (k+1,acc++x.2)
   else if bAt t (qAl t b)=44 then rowR t val obj m (qAl t (qAl t b+1)) (k+1) (acc++x.2) (names++[x.1])
   else .bad 31 (qAl t b)
def qGx(obj:Bool):Int:=if obj then 7 else 6
def boxR(t:BA)(val:Nat->Rd (List Eng.Node))(obj:Bool)(a:Nat):Rd (List Eng.Node) :=
 if bAt t (qAl t (a+1))=qD2 obj then .ok (qAl t (a+1)+1) [nd0 (qGx obj) ⟨#[]⟩ false 0 0]
 else match rowR t val obj (t.size+1) (qAl t (a+1)) 0 [] [] with
  | .bad c b=>.bad c b
  | .ok b x=>.ok b (nd0 (qGx obj) ⟨#[]⟩ false 0 x.1::x.2)
noncomputable def valR(t:BA):Nat->Nat->Rd (List Eng.Node)
 | 0,a=>if bAt t a=91\/bAt t a=123 then .bad 11 a else qFw t a
 | d+1,a=>if bAt t a=91\/bAt t a=123 then boxR t (valR t d) (decide (bAt t a=123)) a else qFw t a
noncomputable def readR(t:BA):Rd (List Eng.Node) :=
 match valR t 32 (qAl t 0) with
 | .bad c b=>.bad c b
 | .ok b l=>if qAl t b<t.size then .bad 31 (qAl t b) else .ok (qAl t b) l
theorem qA8{t:BA}{a:Nat}(h:0<=bAt t a):a<t.size:=by
 have:=(qEn h).2;omega
theorem qEh{t:BA}{a b:Nat}{x:Unit}(ha:a<=t.size)(h:digR t a=.ok b x):a<b/\b<=t.size/\b=qCj t a:=by
 unfold digR at h;have h1:=manyS_ge t a;have h2:=manyS_le t a ha;split at h
 ·cases h
 ·cases h;omega
theorem litR_adv{t:BA}:∀ {w:List Int} {a b:Nat} {x:Unit},(∀c∈w,0<=c)->litR t w a=.ok b x->b=a+w.length/\(w≠[]->b<=t.size)
 | [],a,b,x,_,h=>by
  cases h;exact⟨rfl,λh=>(h rfl).elim⟩
 | c::w,a,b,x,hc,h=>by
  unfold litR at h;split at h
  ·rename_i h1;have h2:=litR_adv (λc hc'=>hc c (List.mem_cons_of_mem _ hc')) h;have h3:=qA8 (t:=t) (a:=a) (by rw[h1];exact hc c List.mem_cons_self);refine⟨by rw[h2.1,List.length_cons];omega,λ_=>?_⟩;cases w with
   | nil=>rw[h2.1];exact h3
   | cons _ _=>exact h2.2 (by simp)
  ·cases h
theorem qFg(c:Int) : -1<=hexS c/\hexS c<=15:=by
 unfold hexS;repeat' split
 all_goals omega
theorem fourR_ok{t:BA}{half:Bool}{f a b:Nat}{u:Int}(h:qFp t half f 4 0 a 0=.ok b u) :
  b=a+4/\b<=t.size/\0<=u/\u<=65535/\(half=true->56320<=u/\u<=57343)/\(half=false->¬(56320<=u/\u<=57343)):=by
 have r0:=qFg (bAt t a);have r1:=qFg (bAt t (a+1:Nat));have r2:=qFg (bAt t (a+1+1:Nat));have r3:=qFg (bAt t (a+1+1+1:Nat));simp only[qFp] at h;split at h
 ·cases h
 split at h
 ·cases h
 rename_i n0 b0;split at h
 ·cases h
 split at h
 ·cases h
 rename_i n1 b1;split at h
 ·cases h
 split at h
 ·cases h
 rename_i n2 b2;split at h
 ·cases h
 split at h
 ·cases h
 rename_i n3 b3;have h3:=qA8 (t:=t) (a:=a+1+1+1) (by omega);simp only[Rd.ok.injEq] at h;obtain⟨rfl,rfl⟩:=h;unfold qDq at b0 b1 b2 b3;simp only[not_or] at b0 b1 b2 b3;refine⟨rfl,by omega,by omega,by omega,λhh=>?_,λhh=>?_⟩
 ·subst hh;simp only[true_and,Nat.zero_add] at b0 b1;omega
 ·subst hh;simp only[true_and,Nat.zero_add] at b0 b1;omega
theorem saidS_range(c:Int) : -1<=saidS c/\saidS c<=116:=by
 unfold saidS;repeat' split
 all_goals omega
def Code(u:Int):Prop:=0<=u/\u<=1114111/\¬(55296<=u/\u<=57343)
theorem escR_ok{t:BA}{a b:Nat}{u:Int}(h:escR t a=.ok b u):a<b/\b<=t.size/\Code u:=by
 unfold escR at h;have hr:=saidS_range (bAt t (a+1:Nat));split at h
 ·cases h
 ·rename_i h0;have hl:=qA8 (t:=t) (a:=a+1) (by omega);split at h
  ·split at h
   ·cases h
   ·rename_i b' u' hf;have h4:=fourR_ok hf;have h5:=h4.2.2.2.2.2 rfl;split at h
    ·cases h;exact⟨by omega,h4.2.1,by unfold Code;omega⟩
    ·unfold pairR at h;repeat' split at h
     all_goals first | (cases h;done) | skip
     rename_i hw;have h6:=fourR_ok hw;have h7:=h6.2.2.2.2.1 rfl;cases h;exact⟨by omega,h6.2.1,by unfold Code;omega⟩
  ·split at h
   ·cases h
   ·cases h;exact⟨by omega,by omega,by unfold Code;omega⟩
theorem utfL_range{u:Int}(h:Code u):∀x∈utfL u,0<=x/\x<256:=by
 unfold Code at h;unfold utfL;intro x hx;repeat' split at hx
 all_goals
  simp only[List.mem_cons,List.not_mem_nil,or_false] at hx;omega
theorem utfL_len(u:Int):1<=(utfL u).length/\(utfL u).length<=4:=by
 unfold utfL;repeat' split
 all_goals simp
theorem bytesL_range'(s:BA):∀x∈qAw s,0<=x/\x<256:=by
 intro x hx;unfold qAw at hx;rw[List.mem_map] at hx;obtain⟨b,_,rfl⟩:=hx;have:=b.toNat_lt;omega
theorem bytesL_of'{l:List Int}(h:∀x∈l,0<=x/\x<256):qAw (qAq l)=l:=by
 rw[bytesI_eq];unfold qAw;simp only[List.map_map];conv=>rhs;rw[<-List.map_id l]
 refine List.map_congr_left λx hx=>?_
 have:=h x hx;simp only[Function.comp,id];rw[UInt8.toNat_ofNat',Nat.mod_eq_of_lt (by omega)];omega
theorem quoR_ok{t:BA}:∀ {n a b:Nat} {acc l:List Int},quoR t n a acc=.ok b l->(∀x∈acc,0<=x/\x<256)->a<b/\b<=t.size/\(∀x∈l,0<=x/\x<256)/\l.length<=acc.length+4*(b - a)
 | 0,a,b,acc,l,h,_=>by cases h
 | n+1,a,b,acc,l,h,hacc=>by
  unfold quoR at h;split at h
  ·cases h
  ·rename_i h0;have ha:=qA8 (t:=t) (a:=a) (by omega);split at h
   ·cases h;exact⟨by omega,by omega,hacc,by omega⟩
   ·split at h
    ·split at h
     ·cases h
     ·rename_i b' u he;have h1:=escR_ok he;have h2:=quoR_ok h (by
       intro x hx;rcases List.mem_append.1 hx with hx | hx
       ·exact hacc x hx
       ·exact utfL_range h1.2.2 x hx)
      have h3:=utfL_len u;rw[List.length_append] at h2;exact⟨by omega,h2.2.1,h2.2.2.1,by omega⟩
    ·split at h
     ·have hb:=qC4 t a;have h2:=quoR_ok h (by
       intro x hx;rcases List.mem_append.1 hx with hx | hx
       ·exact hacc x hx
       ·rw[List.mem_singleton.1 hx];omega)
      rw[List.length_append,List.length_singleton] at h2;exact⟨by omega,h2.2.1,h2.2.2.1,by omega⟩
     ·split at h
      ·rename_i hk;have hw:=seqW_in ha (by have:=by8_in ha;omega) hk;have h2:=quoR_ok h (by
        intro x hx;rcases List.mem_append.1 hx with hx | hx
        ·exact hacc x hx
        ·exact bytesL_range' _ x hx)
       have h3:(qAw (t.extract a (a+seqW t a))).length<=4:=by
        unfold qAw;rw[List.length_map,Array.length_toList];show(t.extract a (a+seqW t a)).size<=4;rw[ByteArray.size_extract];omega
       rw[List.length_append] at h2;exact⟨by omega,h2.2.1,h2.2.2.1,by omega⟩
      ·cases h
theorem qA5{O:Type}{c:Bool}{p:Prop}[Decidable p](h:c=true↔p)(x y:O):(bif c then x else y)=if p then x else y:=by
 by_cases hp:p
 ·rw[if_pos hp,h.2 hp,cnT]
 ·rw[if_neg hp];cases c with
  | false=>rfl
  | true=>exact(hp (h.1 rfl)).elim
def badG(c:Int)(b:Int):qHi:=⟨0,[],⟨#[]⟩,c,b⟩
theorem r_at(t:BA)(a:Nat):qDn t (a:Int)=some (bAt t a):=by
 rw[(byteAt_some t a (by omega)).1];by_cases h:(t.size:Int)<=a
 ·rw[if_pos h,qBl (by omega)]
 ·rw[if_neg h]
theorem blank_cond(t:BA)(a:Nat):((decide ((a:Int)<(t.size:Int))) && ((((decide ((bAt t a)=(32:Int))) || (decide ((bAt t a)=(9:Int)))) || (decide ((bAt t a)=(10:Int)))) || (decide ((bAt t a)=(13:Int)))))=qC0 (bAt t a):=by
 by_cases h:a<t.size
 ·rw[deT (by omega),Bool.true_and];rfl
 ·rw[deF (by omega),Bool.false_and,qBl (by omega)];rfl
theorem r_skip_step(t:BA)(a:Nat)(hs:t.size<=3000000):qF7 t (a:Int)=some (if qC0 (bAt t a)=true then .inl ((a+1:Nat):Int) else .inr (a:Int)):=by
 unfold qF7;have h:(decide ((a:Int)<(t.size:Int)))=true->0<=(a:Int)/\(a:Int)<t.size:=λh=>⟨by omega,of_decide_eq_true h⟩
 rw[qAa h,qAa (λ_=>h),qAa (λ_=>h),qAa (λ_=>h),blank_cond];cases hb:qC0 (bAt t a) with
 | true =>
  have:=qCn hb;rw[cnT,if_pos rfl,qAa (by unfold qAc;omega)];rfl
 | false=>rw[cnF,if_neg (by simp)]
theorem r_skip0(t:BA)(hs:t.size<=3000000)(a:Nat):zcg_p0 t (a:Int)=some (qAl t a:Int):=by
 have hst:=r_skip_step t a hs;unfold zcg_p0;by_cases h:qC0 (bAt t a)=true
 ·rw[if_pos h] at hst;rw[qAm hst,skipS_yes h];exact r_skip0 t hs (a+1)
 ·rw[if_neg h] at hst;rw[qAf hst,skipS_no (by simpa using h)]
termination_by t.size - a
decreasing_by have:=qCn h;omega
theorem r_skip(t:BA)(hs:t.size<=3000000)(a:Nat):zcg_s t (a:Int)=some (qAl t a:Int):=by
 unfold zcg_s;rw[r_skip0 t hs];rfl
theorem dig_cond(t:BA)(a:Nat):(((decide ((a:Int)<(t.size:Int))) && (decide ((48:Int)<=(bAt t a)))) && (decide ((bAt t a)<=(57:Int))))=digS t a:=by
 by_cases h:a<t.size
 ·rw[deT (by omega),Bool.true_and];rfl
 ·rw[deF (by omega),Bool.false_and,Bool.false_and];unfold digS;rw[qBl (by omega)];rfl
theorem r_dig0(t:BA)(hs:t.size<=3000000)(a:Nat):zbv_p0 t (a:Int)=some (qCj t a:Int):=by
 have hst:qF5 t (a:Int)=some (if digS t a=true then .inl ((a+1:Nat):Int) else .inr (a:Int)):=by
  unfold qF5;have h:(decide ((a:Int)<(t.size:Int)))=true->0<=(a:Int)/\(a:Int)<t.size:=λh=>⟨by omega,of_decide_eq_true h⟩
  rw[qAa h,qAa (λh2=>h (by simp only[Bool.and_eq_true] at h2;exact h2.1)),dig_cond];cases hb:digS t a with
  | true =>
   have:=qFm hb;rw[cnT,if_pos rfl,qAa (by unfold qAc;omega)];rfl
  | false=>rw[cnF,if_neg (by simp)]
 unfold zbv_p0;by_cases h:digS t a=true
 ·rw[if_pos h] at hst;rw[qAm hst,qDr h];exact r_dig0 t hs (a+1)
 ·rw[if_neg h] at hst;rw[qAf hst,qE9 (by simpa using h)]
termination_by t.size - a
decreasing_by have:=qFm h;omega
def gotU(r:Rd Unit):qHi:=match r with
 | .bad c b=>badG c b
 | .ok b _=>⟨(b:Int),[],⟨#[]⟩,0,0⟩
theorem r_dig(t:BA)(hs:t.size<=3000000)(a:Nat):zbv_s t (a:Int)=some (gotU (digR t a)):=by
 unfold zbv_s digR;rw[r_dig0 t hs,obS];by_cases h:qCj t a=a
 ·rw[if_pos h,deT (by omega),cnT];rfl
 ·rw[if_neg h,deF (by omega),cnF];rfl
theorem qDp{t:BA}{a b:Nat}{c:Int}(h:digR t a=.bad c b):c=31:=by
 unfold digR at h;split at h
 ·cases h;rfl
 ·cases h
noncomputable def numG(t:BA)(f:Nat)(r:Rd Unit):Int × BA × Int × Int × (List Eng.Node):=match r with
 | .bad c b=>(0,⟨#[]⟩,c,b,[])
 | .ok b _=>((b:Int),⟨#[]⟩,0,0,[nd0 4 (t.extract f b) (qC9 (t.extract f b)).2 (qC9 (t.extract f b)).1 0])
theorem wholeV_is(s:BA)(hs:s.size<=3000000):zbl_s s=some (qC9 s)/\zaa_s s=some (qC9 s):=by
 exact(whole_is s hs).symm
theorem ext_le(t:BA)(a b:Nat)(hs:t.size<=3000000):(t.extract a b).size<=3000000:=by
 rw[ByteArray.size_extract];omega
theorem r_num4(t:BA)(hs:t.size<=3000000){f b:Nat}(h1:f<=b)(h2:b<=t.size):qF6 t (f:Int) (b:Int)=some (⟨#[]⟩,0,0,[nd0 4 (t.extract f b) (qC9 (t.extract f b)).2 (qC9 (t.extract f b)).1 0]):=by
 unfold qF6;rw[qAa (by omega),Int.toNat_natCast,Int.toNat_natCast,(wholeV_is _ (ext_le t f b hs)).1,obS,qAa (by omega)];rfl
theorem r_num3(t:BA)(hs:t.size<=3000000)(a:Nat):qGv t (a:Int)=some (match digR t a with
  | .bad c b=>.inl (0,⟨#[]⟩,c,(b:Int),[])
  | .ok b _=>.inr (b:Int)):=by
 unfold qGv;rw[r_dig t hs,obS];cases h:digR t a with
 | bad c b =>
  have:=qDp h;subst this;rfl
 | ok b x=>rfl
theorem r_num34(t:BA)(hs:t.size<=3000000){f a:Nat}(h1:f<=a)(h2:a<=t.size) :
  ((qGv t (a:Int)).bind λo7=>(Sum.elim (λ(o7_0:Int × BA × Int × Int × (List Eng.Node)) =>
    some (o7_0.1,o7_0.2.1,o7_0.2.2.1,o7_0.2.2.2.1,o7_0.2.2.2.2)) (λ(o7_1:Int) =>
    (qF6 t (f:Int) o7_1).bind λo9 =>
    some (o7_1,o9.1,o9.2.1,o9.2.2.1,o9.2.2.2))) o7)=some (numG t f (digR t a)):=by
 rw[r_num3 t hs,obS];cases h:digR t a with
 | bad c b=>rfl
 | ok b x =>
  have:=qEh h2 h;simp only[Sum.elim_inr];rw[r_num4 t hs (by omega) this.2.1];rfl
theorem r_num2(t:BA)(hs:t.size<=3000000){f a:Nat}(h1:f<=a)(h2:a<=t.size):zcc_p2 t (f:Int) (a:Int)=some (numG t f (powR t a)):=by
 unfold zcc_p2 powR;have e1:(a:Int)+1=((a+1:Nat):Int):=by omega
 have e2:((a+1:Nat):Int)+1=((a+2:Nat):Int):=by omega
 have body:∀(h:0<=bAt t a),(gd (qAc ((a+1:Nat):Int)) <|
   (qDn t ((a+1:Nat):Int)).bind λr5 =>
   bif decide (r5=(43:Int)) then(
    gd (qAc ((a+2:Nat):Int)) <|
    (qGv t ((a+2:Nat):Int)).bind λo7=>(Sum.elim (λ(o7_0:Int × BA × Int × Int × (List Eng.Node)) =>
     some (o7_0.1,o7_0.2.1,o7_0.2.2.1,o7_0.2.2.2.1,o7_0.2.2.2.2)) (λ(o7_1:Int) =>
     (qF6 t (f:Int) o7_1).bind λo9 =>
     some (o7_1,o9.1,o9.2.1,o9.2.2.1,o9.2.2.2))) o7)
   else(
    (qDn t ((a+1:Nat):Int)).bind λr10 =>
    bif decide (r10=(45:Int)) then(
     gd (qAc ((a+2:Nat):Int)) <|
     (qGv t ((a+2:Nat):Int)).bind λo11=>(Sum.elim (λ(o11_0:Int × BA × Int × Int × (List Eng.Node)) =>
      some (o11_0.1,o11_0.2.1,o11_0.2.2.1,o11_0.2.2.2.1,o11_0.2.2.2.2)) (λ(o11_1:Int) =>
      (qF6 t (f:Int) o11_1).bind λo12 =>
      some (o11_1,o12.1,o12.2.1,o12.2.2.1,o12.2.2.2))) o11)
    else(
     (qGv t ((a+1:Nat):Int)).bind λo13=>(Sum.elim (λ(o13_0:Int × BA × Int × Int × (List Eng.Node)) =>
      some (o13_0.1,o13_0.2.1,o13_0.2.2.1,o13_0.2.2.2.1,o13_0.2.2.2.2)) (λ(o13_1:Int) =>
      (qF6 t (f:Int) o13_1).bind λo14 =>
      some (o13_1,o14.1,o14.2.1,o14.2.2.1,o14.2.2.2))) o13)))=some (numG t f (digR t (if bAt t (a+1:Nat)=43\/bAt t (a+1:Nat)=45 then a+2 else a+1))):=by
  intro h;have ha:=qA8 h;rw[qAa (by unfold qAc;omega),r_at,obS];by_cases h3:bAt t (a+1:Nat)=43
  ·have hb:=qA8 (t:=t) (a:=a+1) (by omega);rw[deT h3,cnT,if_pos (.inl h3),qAa (by unfold qAc;omega)];exact r_num34 t hs (by omega) (by omega)
  ·rw[deF h3,cnF,obS];by_cases h4:bAt t (a+1:Nat)=45
   ·have hb:=qA8 (t:=t) (a:=a+1) (by omega);rw[deT h4,cnT,if_pos (.inr h4),qAa (by unfold qAc;omega)];exact r_num34 t hs (by omega) (by omega)
   ·rw[deF h4,cnF,if_neg (by omega)];exact r_num34 t hs (by omega) (by omega)
 rw[r_at,obS,e1,e2];by_cases h3:bAt t a=101
 ·rw[deT h3,cnT,if_pos (.inl h3)];exact body (by omega)
 ·rw[deF h3,cnF,obS];by_cases h4:bAt t a=69
  ·rw[deT h4,cnT,if_pos (.inr h4)];exact body (by omega)
  ·rw[deF h4,cnF,if_neg (by omega),r_num4 t hs h1 h2];rfl
theorem r_num1(t:BA)(hs:t.size<=3000000){f a:Nat}(h1:f<=a)(h2:a<=t.size):zcc_p1 t (f:Int) (a:Int)=some (numG t f (match dotR t a with
  | .bad c b=>.bad c b
  | .ok b _=>powR t b)):=by
 unfold zcc_p1 dotR;rw[r_at,obS,show(a:Int)+1=((a+1:Nat):Int) by omega];by_cases h3:bAt t a=46
 ·have hb:=qA8 (t:=t) (a:=a) (by omega);rw[deT h3,cnT,if_pos h3,qAa (by unfold qAc;omega),r_dig t hs,obS];cases h:digR t (a+1) with
  | bad c b =>
   have:=qDp h;subst this;rfl
  | ok b x =>
   have:=qEh (by omega) h;show(bif(!decide ((0:Int)=0)) then _ else _)=_;rw[deT rfl,Bool.not_true,cnF];show((zcc_p2 t (f:Int) (b:Int)).bind _)=_;rw[r_num2 t hs (by omega) this.2.1];rfl
 ·rw[deF h3,cnF,if_neg h3,r_num2 t hs h1 h2];rfl
theorem r_num0(t:BA)(hs:t.size<=3000000){f a:Nat}(h1:f<=a)(h2:a<=t.size):zcc_p0 t (f:Int) (a:Int)=some (numG t f (match zeroR t a with
  | .bad c b=>.bad c b
  | .ok b _=>match dotR t b with
   | .bad c b=>.bad c b
   | .ok b _=>powR t b)):=by
 unfold zcc_p0 zeroR;rw[r_at,obS,show(a:Int)+1=((a+1:Nat):Int) by omega];by_cases h3:bAt t a=48
 ·have hb:=qA8 (t:=t) (a:=a) (by omega);rw[deT h3,cnT,if_pos h3,qAa (by unfold qAc;omega),r_num1 t hs (by omega) (by omega)];rfl
 ·rw[deF h3,cnF,if_neg h3,r_dig t hs,obS];cases h:digR t a with
  | bad c b =>
   have:=qDp h;subst this;rfl
  | ok b x =>
   have:=qEh (by omega) h;show(bif(!decide ((0:Int)=0)) then _ else _)=_;rw[deT rfl,Bool.not_true,cnF];show((zcc_p1 t (f:Int) (b:Int)).bind _)=_;rw[r_num1 t hs (by omega) this.2.1];rfl
noncomputable def numG'(t:BA)(f:Nat)(r:Rd Unit):qHi:=match r with
 | .bad c b=>badG c b
 | .ok b _=>⟨(b:Int),[nd0 4 (t.extract f b) (qC9 (t.extract f b)).2 (qC9 (t.extract f b)).1 0],⟨#[]⟩,0,0⟩
theorem r_num(t:BA)(hs:t.size<=3000000){a:Nat}(ha:a<t.size):zcc_s t (a:Int)=some (numG' t a (numR t a)):=by
 unfold zcc_s numR signS;rw[qAa (by omega),show(a:Int)+1=((a+1:Nat):Int) by omega];have key:∀r:Rd Unit,(⟨(numG t a r).1,(numG t a r).2.2.2.2,(numG t a r).2.1,(numG t a r).2.2.1,(numG t a r).2.2.2.1⟩:qHi)=numG' t a r:=λr=>by cases r <;> rfl
 by_cases h3:bAt t a=45
 ·rw[deT h3,cnT,if_pos h3,qAa (by unfold qAc;omega),r_num0 t hs (by omega) (by omega),obS,key] <;> rfl
 ·rw[deF h3,cnF,if_neg h3,r_num0 t hs (by omega) (by omega),obS,key] <;> rfl
theorem bytesL_cons{s:BA}{i:Nat}(h:i<s.size):(qAw s).drop i=bAt s i::(qAw s).drop (i+1):=by
 have hl:i<(qAw s).length:=by simp only[qAw,List.length_map,Array.length_toList];exact h
 rw[List.drop_eq_getElem_cons hl];congr 1
 rw[bAt_in h];simp only[qAw,List.getElem_map];rfl
theorem r_lit0(t:BA)(hs:t.size<=3000000)(w:BA)(hw:w.size<=10)(a:Nat)(ha:a<=3000000):∀(j i:Nat),i+j=w.size->zcb_p0 t (a:Int) w (i:Int)=some (match litR t ((qAw w).drop i) (a+i) with
  | .bad c b=>.inl (0,⟨#[]⟩,c,(b:Int),[])
  | .ok _ _=>.inr ())
 | 0,i,h=>by
  rw[List.drop_eq_nil_of_le (by simp only[qAw,List.length_map,Array.length_toList];show w.size<=i;omega)];unfold zcb_p0;refine qAf ?_;unfold qEg;rw[deF (by omega),cnF];rfl
 | j+1,i,h=>by
  have hb:=qC4 w i;rw[bytesL_cons (by omega)];unfold litR;have hst:qEg t (a:Int) w (i:Int)=some (if bAt t (a+i:Nat)=bAt w i then .inl ((i+1:Nat):Int) else .inr (.inl (0,⟨#[]⟩,31,((a+i:Nat):Int),[]))):=by
   unfold qEg;rw[deT (by omega),cnT,qAa (by unfold qAc;omega),qAa (by omega),qAa (by unfold qAc;omega),show(a:Int)+(i:Int)=((a+i:Nat):Int) by omega,r_at,obS];by_cases h2:bAt t (a+i:Nat)=bAt w i
   ·rw[deT h2,Bool.not_true,cnF,if_pos h2,qAa (by unfold qAc;omega)];rfl
   ·rw[deF h2,Bool.not_false,cnT,if_neg h2,qAa (by unfold qAc;omega)];rfl
  by_cases h2:bAt t (a+i:Nat)=bAt w i
  ·rw[if_pos h2] at hst ⊢;have:=r_lit0 t hs w hw a ha j (i+1) (by omega);unfold zcb_p0 at this ⊢;rw[qAm hst,this];rfl
  ·rw[if_neg h2] at hst ⊢;unfold zcb_p0;rw[qAf hst]
theorem litR_code{t:BA}:∀ {w:List Int} {a b:Nat} {c:Int},litR t w a=.bad c b->c=31
 | [],_,_,_,h=>by cases h
 | _::w,a,b,c,h=>by
  unfold litR at h;split at h
  ·exact litR_code h
  ·cases h;rfl
def litG(k:Int)(r:Rd Unit):qHi:=match r with
 | .bad c b=>badG c b
 | .ok b _=>⟨(b:Int),[nd0 k ⟨#[]⟩ false 0 0],⟨#[]⟩,0,0⟩
theorem r_lit(t:BA)(hs:t.size<=3000000)(w:BA)(hw:w.size<=10)(a:Nat)(ha:a<=3000000)(k:Int):zcb_s t (a:Int) w k=some (litG k (litR t (qAw w) a)):=by
 unfold zcb_s;have:=r_lit0 t hs w hw a ha w.size 0 (by omega);rw[show((0:Nat):Int)=0 from rfl,List.drop_zero,Nat.add_zero] at this;rw[this,obS];cases h:litR t (qAw w) a with
 | bad c b=>rfl
 | ok b x =>
  have h2:=(litR_adv (λc hc=>(bytesL_range' w c hc).1) h).1;have h3:(qAw w).length=w.size:=by simp[qAw]
  simp only[Sum.elim_inr];rw[qAa (by unfold qAc;omega)];show some _=some (⟨(b:Int),_,_,_,_⟩:qHi);rw[show(b:Int)=(a:Int)+(w.size:Int) by omega];rfl
theorem r_hex(c:Int)(h : -1<=c/\c<=255):zbz_s c=some (hexS c):=by
 unfold zbz_s hexS;rw[qA5 (p:=48<=c/\c<=57) (by simp),qA5 (p:=97<=c/\c<=102) (by simp),qA5 (p:=65<=c/\c<=70) (by simp)];split
 ·rw[qAa (by unfold qAc;omega)]
 ·split
  ·rw[qAa (by unfold qAc;omega),qAa (by unfold qAc;omega)]
  ·split
   ·rw[qAa (by unfold qAc;omega),qAa (by unfold qAc;omega)]
   ·rfl
theorem qCh{x:Int}(h:0<=x/\x<256):x % 256=x:=by omega
theorem r_Utf(u:Int)(h:0<=u/\u<=2000000):zbr_s u=some (qAq (utfL u)):=by
 unfold zbr_s utfL;by_cases h1:u<128
 ·rw[deT h1,cnT,if_pos h1,qCh (by omega)]
 ·rw[deF h1,cnF,if_neg h1];by_cases h2:u<2048
  ·rw[deT h2,cnT,if_pos h2,qAa (by omega),qAa (by unfold qAc;omega),qAa (by omega),qAa (by unfold qAc;omega),qCh (by omega),qCh (by omega)]
  ·rw[deF h2,cnF,if_neg h2];by_cases h3:u<65536
   ·rw[deT h3,cnT,if_pos h3,qAa (by omega),qAa (by unfold qAc;omega),qAa (by omega),qAa (by omega),qAa (by unfold qAc;omega),qAa (by omega),qAa (by unfold qAc;omega),qCh (by omega),qCh (by omega),qCh (by omega)]
   ·rw[deF h3,cnF,if_neg h3,qAa (by omega),qAa (by unfold qAc;omega),qAa (by omega),qAa (by omega),qAa (by unfold qAc;omega),qAa (by omega),qAa (by omega),qAa (by unfold qAc;omega),qAa (by omega),qAa (by unfold qAc;omega),qCh (by omega),qCh (by omega),qCh (by omega),qCh (by omega)]
def halfI(h:Bool):Int:=if h then 2 else 0
theorem r_four2(f u d:Int)(bad:Bool)(hu:0<=u/\u<=1000000)(hd : -1<=d/\d<=15):zby_p2 f u d bad=some (if bad=true then .inl (0,0,⟨#[]⟩,33,f,[]) else .inr (16*u+d)):=by
 unfold zby_p2;cases bad with
 | true=>rfl
 | false =>
  rw[cnF,if_neg (by simp),qAa (by unfold qAc;omega),qAa (by unfold qAc;omega)]
theorem r_four1(hf:Bool)(f u:Int)(i:Nat)(d:Int)(bad:Bool)(hu:0<=u/\u<=1000000)(hd : -1<=d/\d<=15) :
  zby_p1 (halfI hf) f u (i:Int) d bad=some (if bad=true\/(hf=false/\i=1/\u=13/\12<=d) then .inl (0,0,⟨#[]⟩,33,f,[]) else .inr (16*u+d)):=by
 unfold zby_p1;rw[qA5 (p:=hf=false/\i=1/\u=13/\12<=d) (by
  simp only[Bool.and_eq_true,decide_eq_true_eq];have:halfI hf=0↔hf=false:=by cases hf <;> simp[halfI]
  rw[this];constructor
  ·rintro ⟨⟨⟨h1,h2⟩,h3⟩,h4⟩
   exact⟨h1,by omega,h3,h4⟩
  ·rintro ⟨h1,h2,h3,h4⟩
   exact⟨⟨⟨h1,by omega⟩,h3⟩,h4⟩)]
 rw[r_four2 f u d true hu hd,r_four2 f u d bad hu hd,obS,obS];by_cases h:hf=false/\i=1/\u=13/\12<=d
 ·rw[if_pos h,if_pos (show true=true from rfl),if_pos (.inr h)];rfl
 ·rw[if_neg h];cases bad with
  | true=>rfl
  | false =>
   rw[if_neg (by simp),if_neg (by simpa using h)];rfl
theorem r_four0(t:BA)(hs:t.size<=3000000)(hf:Bool)(f a:Nat)(ha:a<=3000000):∀(m i:Nat) (u:Int),i+m=4->0<=u/\u<16 ^ i->zby_p0 t (a:Int) (halfI hf) (f:Int) u (i:Int)=some (match qFp t hf f m i (a+i) u with
  | .bad c b=>.inl (0,0,⟨#[]⟩,c,(b:Int),[])
  | .ok _ w=>.inr w)
 | 0,i,u,h,hu=>by
  unfold zby_p0;refine qAf ?_;unfold qEf;rw[deF (by omega),cnF];rfl
 | m+1,i,u,h,hu=>by
  have hb:=qC4 t (a+i:Nat);have hd:=qFg (bAt t (a+i:Nat));have hp:(16:Int) ^ i<=16 ^ 3:=by
   have:i=0\/i=1\/i=2\/i=3:=by omega
   rcases this with h | h | h | h <;> subst h <;> decide
  have hp':(16:Int) ^ (i+1)=16 ^ i*16:=Int.pow_succ 16 i;have hst:qEf t (a:Int) (halfI hf) (f:Int) u (i:Int)=some (if bAt t (a+i:Nat)<0 then .inr (.inl (0,0,⟨#[]⟩,31,(t.size:Int),[])) else if qDq hf i u (hexS (bAt t (a+i:Nat))) then .inr (.inl (0,0,⟨#[]⟩,33,(f:Int),[])) else .inl (16*u+hexS (bAt t (a+i:Nat)),((i+1:Nat):Int))):=by
   unfold qEf;rw[deT (by omega),cnT,qAa (by unfold qAc;omega),show(a:Int)+(i:Int)=((a+i:Nat):Int) by omega,r_at,obS];by_cases h1:bAt t (a+i:Nat)<0
   ·rw[deT h1,cnT,if_pos h1];rfl
   ·rw[deF h1,cnF,if_neg h1,r_hex _ hb,obS];generalize hexS (bAt t (a+i:Nat))=d at *
    rw[r_four1 hf f u i d true (by omega) hd,r_four1 hf f u i d (decide (d<0)) (by omega) hd,obS,obS];rw[qA5 (p:=hf=true/\(i=0/\d≠13\/i=1/\d<12)) (by
     simp only[Bool.and_eq_true,Bool.or_eq_true,Bool.not_eq_true',decide_eq_true_eq,decide_eq_false_iff_not];have:halfI hf=2↔hf=true:=by cases hf <;> simp[halfI]
     rw[this];have e0:((i:Int)=0)↔i=0:=by omega
     have e1:((i:Int)=1)↔i=1:=by omega
     rw[e0,e1])]
    by_cases h2:hf=true/\(i=0/\d≠13\/i=1/\d<12)
    ·rw[if_pos h2,if_pos (.inl rfl),if_pos (by unfold qDq;exact .inr (.inl h2))];rfl
    ·rw[if_neg h2];by_cases h3:qDq hf i u d
     ·rw[if_pos h3,if_pos (by
       unfold qDq at h3;rcases h3 with h3 | h3 | h3
       ·exact .inl (deT h3)
       ·exact(h2 h3).elim
       ·exact .inr h3)]
      rfl
     ·rw[if_neg h3,if_neg (by
       unfold qDq at h3;rintro (h4 | h4)
       ·exact h3 (.inl (of_decide_eq_true h4))
       ·exact h3 (.inr (.inr h4)))]
      simp only[Sum.elim_inr];rw[qAa (by unfold qAc;omega)];rfl
  unfold qFp;by_cases h1:bAt t (a+i:Nat)<0
  ·rw[if_pos h1] at hst ⊢;unfold zby_p0;rw[qAf hst]
  ·rw[if_neg h1] at hst ⊢;by_cases h3:qDq hf i u (hexS (bAt t (a+i:Nat)))
   ·rw[if_pos h3] at hst ⊢;unfold zby_p0;rw[qAf hst]
   ·rw[if_neg h3] at hst ⊢;have h0:0<=hexS (bAt t (a+i:Nat)):=by
     unfold qDq at h3;simp only[not_or] at h3;omega
    have:=r_four0 t hs hf f a ha m (i+1) (16*u+hexS (bAt t (a+i:Nat))) (by omega) (by omega);unfold zby_p0 at this ⊢;rw[qAm hst];exact this
def fourG(r:Rd Int):Int × qHi:=match r with
 | .bad c b=>(0,badG c b)
 | .ok b u=>(u,⟨(b:Int),[],⟨#[]⟩,0,0⟩)
theorem r_four(t:BA)(hs:t.size<=3000000)(hf:Bool)(f a:Nat)(ha:a<=3000000):zby_s t (a:Int) (halfI hf) (f:Int)=some (fourG (qFp t hf f 4 0 a 0)):=by
 unfold zby_s;have:=r_four0 t hs hf f a ha 4 0 0 rfl (by decide);rw[show((0:Nat):Int)=0 from rfl,Nat.add_zero] at this;rw[this,obS];cases h:qFp t hf f 4 0 a 0 with
 | bad c b=>rfl
 | ok b u =>
  have h2:=(fourR_ok h).1;simp only[Sum.elim_inr];rw[qAa (by unfold qAc;omega)];show some (u,(⟨(a:Int)+4,_,_,_,_⟩:qHi))=some (u,⟨(b:Int),_,_,_,_⟩);rw[show(b:Int)=(a:Int)+4 by omega]
theorem r_fourF(t:BA)(hs:t.size<=3000000)(f a:Nat)(ha:a<=3000000):zby_s t (a:Int) 0 (f:Int)=some (fourG (qFp t false f 4 0 a 0)):=r_four t hs false f a ha
theorem r_fourT(t:BA)(hs:t.size<=3000000)(f a:Nat)(ha:a<=3000000):zby_s t (a:Int) 2 (f:Int)=some (fourG (qFp t true f 4 0 a 0)):=r_four t hs true f a ha
theorem qG8{t:BA}{hf:Bool}{f:Nat}:∀ {m i a b:Nat} {u c:Int},qFp t hf f m i a u=.bad c b->c=31\/c=33
 | 0,_,_,_,_,_,h=>by cases h
 | m+1,i,a,b,u,c,h=>by
  unfold qFp at h;split at h
  ·cases h;exact .inl rfl
  ·split at h
   ·cases h;exact .inr rfl
   ·exact qG8 h
def saysG{O:Type}(f:O->BA)(g:qHi)(r:Rd O):Prop:=match r with
 | .bad c b=>g.code=c/\g.bad=(b:Int)/\c≠0
 | .ok b u=>g=⟨(b:Int),[],f u,0,0⟩
theorem r_esc1(t:BA)(hs:t.size<=3000000)(f a:Nat)(ha:a<=3000000):zbw_p1 t (f:Int) 0 (a:Int)=some (
  if bAt t a<0 then .inl (0,⟨#[]⟩,31,(t.size:Int),[])
  else if bAt t a≠92 then .inl (0,⟨#[]⟩,33,(f:Int),[])
  else if bAt t (a+1:Nat)<0 then .inl (0,⟨#[]⟩,31,(t.size:Int),[])
  else if bAt t (a+1:Nat)≠117 then .inl (0,⟨#[]⟩,33,(f:Int),[])
  else .inr ()):=by
 have hst:∀i:Nat,i<2->qCv t (f:Int) (i:Int) (a:Int)=some (if bAt t (a+i:Nat)<0 then .inr (.inl (0,⟨#[]⟩,31,(t.size:Int),[]))
   else if(i=0/\bAt t (a+i:Nat)≠92)\/(i=1/\bAt t (a+i:Nat)≠117) then .inr (.inl (0,⟨#[]⟩,33,(f:Int),[])) else .inl ((i+1:Nat):Int)):=by
  intro i hi;unfold qCv;rw[deT (by omega),cnT,qAa (by unfold qAc;omega),show(a:Int)+(i:Int)=((a+i:Nat):Int) by omega,r_at,obS];by_cases h1:bAt t (a+i:Nat)<0
  ·rw[deT h1,cnT,if_pos h1];rfl
  ·rw[deF h1,cnF,if_neg h1,qA5 (p:=(i=0/\bAt t (a+i:Nat)≠92)\/(i=1/\bAt t (a+i:Nat)≠117)) (by
    simp only[Bool.and_eq_true,Bool.or_eq_true,Bool.not_eq_true',decide_eq_true_eq,decide_eq_false_iff_not];have e0:((i:Int)=0)↔i=0:=by omega
    have e1:((i:Int)=1)↔i=1:=by omega
    rw[e0,e1])]
   split
   ·rfl
   ·rw[qAa (by unfold qAc;omega)];rfl
 have h0:=hst 0 (by decide);have h1:=hst 1 (by decide);rw[show((0:Nat):Int)=0 from rfl,Nat.add_zero] at h0;have e1:∀ {i:Int} {x},qCv t (f:Int) i (a:Int)=some (.inr x)->zbw_p1 t (f:Int) i (a:Int)=some x:=λh=>qAf h
 have e2:∀ {i j:Int},qCv t (f:Int) i (a:Int)=some (.inl j)->zbw_p1 t (f:Int) i (a:Int)=zbw_p1 t (f:Int) j (a:Int):=λh=>qAm h
 by_cases c0:bAt t a<0
 ·rw[if_pos c0] at h0 ⊢;rw[e1 h0]
 ·rw[if_neg c0] at h0 ⊢;by_cases c1:bAt t a≠92
  ·rw[if_pos (.inl ⟨rfl,c1⟩)] at h0;rw[e1 h0,if_pos c1]
  ·rw[if_neg (by omega)] at h0;rw[e2 h0,if_neg c1,Nat.zero_add];by_cases c2:bAt t (a+1:Nat)<0
   ·rw[if_pos c2] at h1 ⊢;rw[e1 h1]
   ·rw[if_neg c2] at h1 ⊢;by_cases c3:bAt t (a+1:Nat)≠117
    ·rw[if_pos (.inr ⟨rfl,c3⟩)] at h1;rw[e1 h1,if_pos c3]
    ·rw[if_neg (by omega)] at h1;rw[e2 h1,if_neg c3];refine e1 ?_;unfold qCv;rfl
theorem r_esc0(t:BA)(hs:t.size<=3000000)(f:Nat)(hf:f<t.size)(c:Int)(hc:c=bAt t (f+1:Nat))(h0:0<=c)(x:Bool)(hx:x=true↔c=34\/c=92\/c=47) :
  ∃o,zbw_p0 t (f:Int) c (-1) c x=some o /\
   (c=117->∃g:qHi,o=.inr (g.at_,g.s,g.code,g.bad,g.l)/\saysG (λu=>qAq (utfL u)) g (escR t f)) /\
   (c≠117->o=.inl (saidS c)):=by
 unfold zbw_p0 saidS;by_cases hx1:c=34\/c=92\/c=47
 ·rw[hx.2 hx1,cnT,if_pos hx1];exact⟨_,rfl,λh=>by omega,λ_=>rfl⟩
 ·have:x=false:=by
   cases x with
   | false=>rfl
   | true=>exact(hx1 (hx.1 rfl)).elim
  rw[this,cnF,if_neg hx1];by_cases h1:c=98
  ·rw[deT h1,cnT,if_pos h1];exact⟨_,rfl,λh=>by omega,λ_=>rfl⟩
  rw[deF h1,cnF,if_neg h1];by_cases h2:c=102
  ·rw[deT h2,cnT,if_pos h2];exact⟨_,rfl,λh=>by omega,λ_=>rfl⟩
  rw[deF h2,cnF,if_neg h2];by_cases h3:c=110
  ·rw[deT h3,cnT,if_pos h3];exact⟨_,rfl,λh=>by omega,λ_=>rfl⟩
  rw[deF h3,cnF,if_neg h3];by_cases h4:c=114
  ·rw[deT h4,cnT,if_pos h4];exact⟨_,rfl,λh=>by omega,λ_=>rfl⟩
  rw[deF h4,cnF,if_neg h4];by_cases h5:c=116
  ·rw[deT h5,cnT,if_pos h5];exact⟨_,rfl,λh=>by omega,λ_=>rfl⟩
  rw[deF h5,cnF,if_neg h5];by_cases h6:c=117
  ·rw[deT h6,cnT];have hl:=qA8 (t:=t) (a:=f+1) (by omega);rw[qAa (by unfold qAc;omega),show(f:Int)+2=((f+2:Nat):Int) by omega,r_fourF t hs f (f+2) (by omega),obS];unfold escR;rw[if_neg (show ¬bAt t (f+1:Nat)<0 by omega),if_pos (show bAt t (f+1:Nat)=117 by omega)];cases h7:qFp t false f 4 0 (f+2) 0 with
   | bad k b =>
    have hk:=qG8 h7;show ∃o,(bif(((!decide (k=0)) || decide ((0:Int)<55296)) || decide ((57343:Int)<0)) then _ else _)=_/\_
    rw[deF (show ¬k=0 by omega),Bool.not_false,Bool.true_or,Bool.true_or,cnT];show ∃o,((zbr_s 0).bind _)=_/\_;rw[r_Utf 0 (by decide),obS];exact⟨_,rfl,λ_=>⟨⟨0,[],qAq (utfL 0),k,(b:Int)⟩,rfl,rfl,rfl,by omega⟩,λh=>(h h6).elim⟩
   | ok b u =>
    have h8:=fourR_ok h7;show ∃o,(bif(((!decide ((0:Int)=0)) || decide (u<55296)) || decide (57343<u)) then _ else _)=_/\_
    rw[qA5 (p:=u<55296\/57343<u) (by simp)];dsimp only [fourG];by_cases h9:u<55296\/57343<u
    ·rw[if_pos h9,r_Utf u (by omega),obS,if_pos h9];exact⟨_,rfl,λ_=>⟨⟨(b:Int),[],qAq (utfL u),0,0⟩,rfl,rfl⟩,λh=>(h h6).elim⟩
    ·rw[if_neg h9,if_neg h9,r_esc1 t hs f b (by omega),obS];unfold pairR;by_cases c0:bAt t b<0
     ·rw[if_pos c0,if_pos c0];exact⟨_,rfl,λ_=>⟨badG 31 t.size,rfl,rfl,rfl,by decide⟩,λh=>(h h6).elim⟩
     rw[if_neg c0,if_neg c0];by_cases c1:bAt t b≠92
     ·rw[if_pos c1,if_pos c1];exact⟨_,rfl,λ_=>⟨badG 33 f,rfl,rfl,rfl,by decide⟩,λh=>(h h6).elim⟩
     rw[if_neg c1,if_neg c1];by_cases c2:bAt t (b+1:Nat)<0
     ·rw[if_pos c2,if_pos c2];exact⟨_,rfl,λ_=>⟨badG 31 t.size,rfl,rfl,rfl,by decide⟩,λh=>(h h6).elim⟩
     rw[if_neg c2,if_neg c2];by_cases c3:bAt t (b+1:Nat)≠117
     ·rw[if_pos c3,if_pos c3];exact⟨_,rfl,λ_=>⟨badG 33 f,rfl,rfl,rfl,by decide⟩,λh=>(h h6).elim⟩
     rw[if_neg c3,if_neg c3];have hl2:=qA8 (t:=t) (a:=b+1) (by omega);simp only[Sum.elim_inr];rw[qAa (by unfold qAc;omega),show(b:Int)+2=((b+2:Nat):Int) by omega,r_fourT t hs f (b+2) (by omega),obS];have h10:=h8.2.2.2.2.2 rfl;cases h11:qFp t true f 4 0 (b+2) 0 with
     | bad k e =>
      have hk:=qG8 h11;simp only[fourG,badG];rw[qAa (by unfold qAc;omega),qAa (by unfold qAc;omega),qAa (by unfold qAc;omega),qAa (by unfold qAc;omega),qAa (by unfold qAc;omega),r_Utf _ (by omega),obS];exact⟨_,rfl,λ_=>⟨⟨0,[],_,k,(e:Int)⟩,rfl,rfl,rfl,by omega⟩,λh=>(h h6).elim⟩
     | ok e w =>
      have h12:=fourR_ok h11;have h13:=h12.2.2.2.2.1 rfl;simp only[fourG];rw[qAa (by unfold qAc;omega),qAa (by unfold qAc;omega),qAa (by unfold qAc;omega),qAa (by unfold qAc;omega),qAa (by unfold qAc;omega),r_Utf _ (by omega),obS];exact⟨_,rfl,λ_=>⟨⟨(e:Int),[],_,0,0⟩,rfl,rfl⟩,λh=>(h h6).elim⟩
  ·rw[deF h6,cnF];exact⟨_,rfl,λh=>(h6 h).elim,λ_=>by repeat' (first | rfl | (rw[if_neg (by assumption)]))⟩
theorem utfL_low{c:Int}(h:0<=c/\c<128):utfL c=[c]:=by unfold utfL;rw[if_pos h.2]
theorem r_esc2(t:BA)(f:Nat)(hf:f<=3000000)(s:Int)(hs : -1<=s/\s<=116):zbw_p2 (f:Int) s=some (if s<0 then(0,⟨#[]⟩,33,(f:Int),[]) else(((f+2:Nat):Int),qAq [s],0,0,[])):=by
 unfold zbw_p2;by_cases h:s<0
 ·rw[deT h,cnT,if_pos h];rfl
 ·rw[deF h,cnF,if_neg h,qAa (by unfold qAc;omega),qCh (by omega)];rfl
theorem r_esc(t:BA)(hs:t.size<=3000000)(f:Nat)(hf:f<t.size):∃g,zbw_s t (f:Int)=some g/\saysG (λu=>qAq (utfL u)) g (escR t f):=by
 unfold zbw_s;rw[qAa (by unfold qAc;omega),show(f:Int)+1=((f+1:Nat):Int) by omega,r_at,obS];have hr:=qC4 t (f+1:Nat);by_cases h1:bAt t (f+1:Nat) = -1
 ·rw[deT h1,cnT];refine⟨_,rfl,?_⟩;unfold escR;rw[if_pos (by omega)];exact⟨rfl,rfl,by decide⟩
 ·rw[deF h1,cnF];have fin:∀(x:Bool),(x=true↔bAt t (f+1:Nat)=34\/bAt t (f+1:Nat)=92\/bAt t (f+1:Nat)=47)->∃g,((zbw_p0 t (f:Int) (bAt t (f+1:Nat)) (-1:Int) (bAt t (f+1:Nat)) x).bind λo20=>(Sum.elim (λ(o20_0:Int) =>
    (zbw_p2 (f:Int) o20_0).bind λo22 =>
    some (⟨o22.1,o22.2.2.2.2,o22.2.1,o22.2.2.1,o22.2.2.2.1⟩:qHi)) (λ(o20_1:Int × BA × Int × Int × (List Eng.Node)) =>
    some (⟨o20_1.1,o20_1.2.2.2.2,o20_1.2.1,o20_1.2.2.1,o20_1.2.2.2.1⟩:qHi))) o20)=some g/\saysG (λu=>qAq (utfL u)) g (escR t f):=by
   intro x hx;obtain⟨o,ho,h2,h3⟩:=r_esc0 t hs f hf _ rfl (by omega) x hx;rw[ho,obS];by_cases h4:bAt t (f+1:Nat)=117
   ·obtain⟨g,rfl,hg⟩:=h2 h4;exact⟨g,rfl,hg⟩
   ·rw[h3 h4];have hsr:=saidS_range (bAt t (f+1:Nat));simp only[Sum.elim_inl];rw[r_esc2 t f (by omega) _ hsr,obS];unfold escR;rw[if_neg (show ¬bAt t (f+1:Nat)<0 by omega),if_neg h4];by_cases h5:saidS (bAt t (f+1:Nat))<0
    ·rw[if_pos h5,if_pos h5];exact⟨_,rfl,rfl,rfl,by decide⟩
    ·rw[if_neg h5,if_neg h5];refine⟨_,rfl,?_⟩;show _=(⟨((f+2:Nat):Int),[],qAq (utfL (saidS (bAt t (f+1:Nat)))),0,0⟩:qHi);rw[utfL_low (c:=saidS (bAt t (f+1:Nat))) (by omega)]
  by_cases h2:bAt t (f+1:Nat)=34
  ·rw[deT h2,cnT];exact fin true ⟨λ_=>.inl h2,λ_=>rfl⟩
  ·rw[deF h2,cnF];by_cases h3:bAt t (f+1:Nat)=92
   ·rw[deT h3,cnT];exact fin true ⟨λ_=>.inr (.inl h3),λ_=>rfl⟩
   ·rw[deF h3,cnF];exact fin _ (by rw[decide_eq_true_eq];omega)
theorem escR_code{t:BA}{a b:Nat}{c:Int}(h:escR t a=.bad c b):c=31\/c=33:=by
 unfold escR at h;split at h
 ·cases h;exact .inl rfl
 ·split at h
  ·split at h
   ·rename_i h2;cases h;exact qG8 h2
   ·split at h
    ·cases h
    ·unfold pairR at h;split at h
     ·cases h;exact .inl rfl
     ·split at h
      ·cases h;exact .inr rfl
      ·split at h
       ·cases h;exact .inl rfl
       ·split at h
        ·cases h;exact .inr rfl
        ·split at h
         ·rename_i h2;cases h;exact qG8 h2
         ·cases h
  ·split at h
   ·cases h;exact .inr rfl
   ·cases h
def saysQ(g:Int × BA × Int × Int × List Eng.Node)(r:Rd (List Int)):Prop:=match r with
 | .bad c b=>g.2.2.1=c/\g.2.2.2.1=(b:Int)/\c≠0
 | .ok b l=>g=((b:Int),qAq l,0,0,[])
theorem r_quo1(b:List Int)(s:BA)(hb:b.length<=12000000)(hs:s.size<=3000000):zcd_p1 b s 0=some (.inr (b++qAw s)):=by
 unfold zcd_p1;rw[deT rfl,Bool.not_true,cnF,qAa (by omega)]
theorem r_quo1b(b:List Int)(s:BA){c:Int}(hc:c≠0):zcd_p1 b s c=some (.inl ()):=by
 unfold zcd_p1;rw[deF hc,Bool.not_false,cnT]
theorem one_byte{t:BA}{a:Nat}(ha:a<t.size):qAw (t.extract a (a+1))=[bAt t a]:=by
 have h1:(qAw (t.extract a (a+1))).length=1:=by
  unfold qAw;rw[List.length_map,Array.length_toList];show(t.extract a (a+1)).size=1;rw[ByteArray.size_extract];omega
 have h2:=bytesL_cons (s:=t.extract a (a+1)) (i:=0) (by rw[ByteArray.size_extract];omega);rw[List.drop_zero] at h2;rw[h2] at h1 ⊢;rw[show((0:Nat):Int)=0 from rfl,bAt_extract t a (a+1) 0 (by omega) (by omega)];rw[List.length_cons] at h1;have:(qAw (t.extract a (a+1))).drop (0+1)=[]:=List.eq_nil_of_length_eq_zero (by omega);rw[this];congr 2
theorem r_quo0(t:BA)(hs:t.size<=3000000):∀(n a:Nat) (acc:List Int),t.size - a<n->a<=t.size->acc.length<=4*a->∃g,zcd_p0 t (a:Int) acc=some g/\saysQ g (quoR t n a acc)
 | 0,a,acc,h,_,_=>by omega
 | n+1,a,acc,h,ha,hacc=>by
  have hst:∀ {x},qBq t (a:Int) acc=some (.inr x)->zcd_p0 t (a:Int) acc=some x:=λh=>qAf h
  have hnx:∀ {b:Nat} {acc':List Int},qBq t (a:Int) acc=some (.inl ((b:Int),acc'))->zcd_p0 t (a:Int) acc=zcd_p0 t (b:Int) acc':=λh=>qAm h
  have hb:=qC4 t a;unfold quoR;by_cases h1:bAt t a<32
  ·rw[if_pos h1];refine⟨(0,⟨#[]⟩,31,(a:Int),[]),hst ?_,?_⟩
   ·unfold qBq;rw[r_at,obS,deT h1,cnT];rfl
   ·exact⟨rfl,rfl,by decide⟩
  ·have hl:=qA8 (t:=t) (a:=a) (by omega);rw[if_neg h1];by_cases h2:bAt t a=34
   ·rw[if_pos h2];refine⟨(((a+1:Nat):Int),qAq acc,0,0,[]),hst ?_,?_⟩
    ·unfold qBq;rw[r_at,obS,deF h1,cnF,deT h2,cnT,qAa (by unfold qAc;omega)];rfl
    ·rfl
   ·rw[if_neg h2];by_cases h3:bAt t a=92
    ·rw[if_pos h3];obtain⟨g,hg,hg2⟩:=r_esc t hs a hl;cases h4:escR t a with
     | bad c b =>
      rw[h4] at hg2;obtain⟨e1,e2,e3⟩:=hg2;refine⟨(g.at_,g.s,g.code,g.bad,g.l),hst ?_,?_⟩
      ·unfold qBq;rw[r_at,obS,deF h1,cnF,deF h2,cnF,deT h3,cnT,hg,obS,r_quo1b _ _ (by rw[e1];exact e3)];rfl
      ·exact⟨e1,e2,e3⟩
     | ok b u =>
      rw[h4] at hg2;have hg2:g=⟨(b:Int),[],qAq (utfL u),0,0⟩:=hg2;have h5:=escR_ok h4;have h6:=utfL_len u;have hsz:(qAq (utfL u)).size<=4:=by
       rw[bytesI_eq];show((utfL u).map _).toArray.size<=4;simp only[List.size_toArray,List.length_map];exact h6.2
      dsimp only;rw[hnx (b:=b) (acc':=acc++utfL u) (by
       unfold qBq;rw[r_at,obS,deF h1,cnF,deF h2,cnF,deT h3,cnT,hg,obS,hg2];dsimp only;rw[r_quo1 _ _ (by omega) (by omega),bytesL_of' (utfL_range h5.2.2)];rfl)]
      exact r_quo0 t hs n b (acc++utfL u) (by omega) (by omega) (by rw[List.length_append];omega)
    ·rw[if_neg h3];by_cases h4:bAt t a<128
     ·rw[if_pos h4,hnx (b:=a+1) (acc':=acc++[bAt t a]) (by
       unfold qBq;rw[r_at,obS,deF h1,cnF,deF h2,cnF,deF h3,cnF,deT h4,cnT,qAa (by unfold qAc;omega),qAa (by unfold qAc;omega),qAa (by omega),show(a:Int)+1=((a+1:Nat):Int) by omega,Int.toNat_natCast,Int.toNat_natCast,r_quo1 _ _ (by omega) (ext_le t a (a+1) hs),one_byte hl];rfl)]
      exact r_quo0 t hs n (a+1) (acc++[bAt t a]) (by omega) (by omega) (by rw[List.length_append,List.length_singleton];omega)
     ·rw[if_neg h4];have h8:128<=by8 t a:=by have:=by8_in hl;omega
      have hq:=p_seq hl hs h8;have hkc:=seqK_cases t a;by_cases h5:seqK t a=0
      ·have hw:=seqW_in hl h8 h5;rw[if_pos h5] at hq ⊢;rw[hnx (b:=a+seqW t a) (acc':=acc++qAw (t.extract a (a+seqW t a))) (by
        unfold qBq;rw[r_at,obS,deF h1,cnF,deF h2,cnF,deF h3,cnF,deF h4,cnF,hq,obS];dsimp only;rw[r_quo1 _ _ (by omega) (ext_le t a _ hs)];rfl)]
       have h9:(qAw (t.extract a (a+seqW t a))).length<=4:=by
        unfold qAw;rw[List.length_map,Array.length_toList];show(t.extract a (a+seqW t a)).size<=4;rw[ByteArray.size_extract];omega
       exact r_quo0 t hs n (a+seqW t a) _ (by omega) (by omega) (by rw[List.length_append];omega)
      ·rw[if_neg h5] at hq ⊢;refine⟨(0,⟨#[]⟩,seqK t a,if seqK t a=31 then(t.size:Int) else(a:Int),[]),hst ?_,?_⟩
       ·unfold qBq;rw[r_at,obS,deF h1,cnF,deF h2,cnF,deF h3,cnF,deF h4,cnF,hq,obS];dsimp only;rw[r_quo1b _ _ h5];rfl
       ·refine⟨rfl,?_,h5⟩;show(if seqK t a=31 then(t.size:Int) else(a:Int))=_;split <;> rfl
theorem r_quo(t:BA)(hs:t.size<=3000000)(a:Nat)(ha:a<=t.size):∃g,zcd_s t (a:Int)=some g/\saysG qAq g (quoR t (t.size+1) a []):=by
 obtain⟨g,h1,h2⟩:=r_quo0 t hs (t.size+1) a [] (by omega) ha (by simp);unfold zcd_s;rw[h1,obS];refine⟨_,rfl,?_⟩;cases h:quoR t (t.size+1) a [] with
 | bad c b =>
  rw[h] at h2;exact h2
 | ok b l =>
  rw[h] at h2;have h2:g=((b:Int),qAq l,0,0,[]):=h2;rw[h2];rfl
theorem quoR_code{t:BA}:∀ {n a b:Nat} {acc:List Int} {c:Int},quoR t n a acc=.bad c b->c=31\/c=32\/c=33
 | 0,_,_,_,_,h=>by cases h;exact .inl rfl
 | n+1,a,b,acc,c,h=>by
  unfold quoR at h;split at h
  ·cases h;exact .inl rfl
  ·split at h
   ·cases h
   ·split at h
    ·split at h
     ·rename_i h2;cases h;rcases escR_code h2 with h3 | h3
      ·exact .inl h3
      ·exact .inr (.inr h3)
     ·exact quoR_code h
    ·split at h
     ·exact quoR_code h
     ·split at h
      ·exact quoR_code h
      ·rename_i h5;have:=seqK_cases t a;simp only[Rd.bad.injEq] at h;omega
end Go.Proofs.YtbokbmjcodoccabDoor
