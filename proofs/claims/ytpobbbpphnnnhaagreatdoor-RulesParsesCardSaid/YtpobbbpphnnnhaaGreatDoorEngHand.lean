/-
  Texts of a claim.
-/
import Derived.Test.YtpobbbpphnnnhaaGreatDoorPRuleR
import Derived.Test.YtpobbbpphnnnhaaGreatDoorEngPan
namespace Go.Proofs.YtpobbbpphnnnhaaGreatDoor
open Go.Eng
set_option linter.unusedVariables false
set_option linter.unusedSimpArgs false
section
variable {t:BA} (hs:t.size≤1024) (o:Int) (out:RNl)
include hs
omit hs in
theorem v_path_stop (a bd e:Int) (he:e≠0) (l:List BA):zci_p0 t a o e bd out l=some (t,a,o,e,bd,out,l):=by
 unfold zci_p0;refine qAi ?_;unfold qDr zci_p1;dsimp only;rw [deF he,cnF,qAb (fun h=>by cases h)];rfl
theorem v_path0:∀(n:Nat) (a:Nat) (l:List BA),a≤t.size→t.size+1 - a≤n→l.length≤a→∃l',zci_p0 t (a:Int) o 0 0 out l=some (match pathN t n a l with
  | .bad c b=>(t,(b:Int),o,c,(b:Int),out,l')
  | .ok b l2=>(t,(b:Int),o,0,0,out,l2))
 | 0,a,l,ha,hn,hl=>by omega
 | n+1,a,l,ha,hn,hl=>by
  have h1:=qB6 t a;have h2:=qA6 t a ha;unfold pathN;by_cases hd:bAt t (qAq t a:Int)=46
  ·have h3:=bNN (by omega) hd;rw [if_pos hd];have hst:qDr t (a:Int) o 0 0 out l=some (match qE4 t false (qAq t a+1) with
     | .bad c b=>.inl (t,(b:Int),o,c,(b:Int),out,l++[⟨#[]⟩])
     | .ok b w=>.inl (t,(b:Int),o,0,0,out,l++[w])):=by
    unfold qDr zci_p1 zci_p2;rw [deT rfl,cnT,qC7 hs,obS];dsimp only;rw [deT h3,Bool.and_true,qAb (fun _=>by omega),hd,deT rfl,Bool.and_true,cnT,qAb (by unfold qAf; omega),show ((qAq t a:Nat):Int)+1=((qAq t a+1:Nat):Int) by omega,v_part hs o 0 out false _ (by omega),obS];rw [qAb (by simp only [List.length_cons,List.length_nil]; omega)];cases hp:qE4 t false (qAq t a+1) <;> rfl
   cases hp:qE4 t false (qAq t a+1) with
   | bad c b =>
    rw [hp] at hst;have hc:=(partS_bad (by omega) hp).1;refine ⟨l++[(⟨#[]⟩:BA)],(qAr hst).trans ?_⟩;exact v_path_stop (t:=t) o out (b:Int) (b:Int) c (by rw [hc]; decide) (l++[(⟨#[]⟩:BA)])
   | ok b w =>
    have h4:=qDd (by omega) hp;rw [hp] at hst;obtain ⟨l',hl'⟩:=v_path0 n b (l++[w]) h4.2 (by omega) (by simp; omega);exact ⟨l',(qAr hst).trans hl'⟩
  ·rw [if_neg hd];refine ⟨[],qAi ?_⟩;unfold qDr zci_p1;dsimp only;rw [deT rfl,cnT,qC7 hs,obS];dsimp only;rw [qAb (fun h=>by simp only [Bool.true_and,decide_eq_true_eq] at h; omega),deF hd,Bool.and_false,cnF];rfl
theorem v_path (a:Nat) (ha:a≤t.size):∃l',zci_s ⟨t,(a:Int),out,o,0,0⟩=some (match qFb t a with
  | .bad c b=>(⟨t,(b:Int),out,o,c,(b:Int)⟩,l')
  | .ok b l=>(⟨t,(b:Int),out,o,0,0⟩,l)):=by
 unfold zci_s qFb;rw [v_part hs o 0 out true a ha,obS];cases hp:qE4 t true a with
 | bad c b =>
  have hc:=(partS_bad ha hp).1;dsimp only;rw [v_path_stop (t:=t) o out (b:Int) (b:Int) c (by rw [hc]; decide)];exact ⟨_,rfl⟩
 | ok b w =>
  have h4:=qDd ha hp;dsimp only;obtain ⟨l',hl'⟩:=v_path0 hs o out (t.size+1 - b) b [w] h4.2 (Nat.le_refl _) (by simp; omega);refine ⟨l',?_⟩;rw [hl',obS];cases hq:pathN t (t.size+1 - b) b [w] <;> rfl
theorem v_sign (i:Nat) (hi:i<t.size):zck_s ⟨t,(i:Int),out,o,0,0⟩=some (match opS t i with
  | some (op,n)=>(op,(n:Int))
  | none=>(0,0)):=by
 have hz:(t.extract i t.size).size=t.size - i:=qBa (Nat.le_refl _);have hb0:bAt (t.extract i t.size) 0=bAt t (i:Int):=by
  rw [qA8 t i t.size 0 (by omega) (by omega)];congr 1
 have core:∀two:BA,(∀c d:UInt8,decide (two=(⟨#[c,d]⟩:BA))=decide (bAt t (i:Int)=(c.toNat:Int)∧bAt t (i+1:Nat)=(d.toNat:Int)))→zck_p0 (t.extract i t.size) two t (i:Int) o 0 0 out=some (match opS t i with
   | some (op,n)=>(op,(n:Int))
   | none=>(0,0)):=fun two h2=>by
  unfold zck_p0 opS;rw [v_word hs o 0 0 out i (by omega),obS,if_neg (by omega),show (⟨#[99,111,110,116,97,105,110,115]⟩:BA)=bCont from rfl,(h2 33 61).trans (show _=decide (bAt t (i:Int)=33∧bAt t (i+1:Nat)=61) from rfl),(h2 60 61).trans (show _=decide (bAt t (i:Int)=60∧bAt t (i+1:Nat)=61) from rfl),(h2 62 61).trans (show _=decide (bAt t (i:Int)=62∧bAt t (i+1:Nat)=61) from rfl),hb0,qAb (by omega),qAb (by omega),qAb (by omega)];by_cases w:qA5 t i=bCont
  ·rw [deT w,cnT,if_pos w]; rfl
  rw [deF w,cnF,if_neg w];by_cases c0:bAt t (i:Int)=33∧bAt t (i+1:Nat)=61
  ·rw [if_pos c0,deT c0]; rfl
  rw [if_neg c0,deF c0,cnF];by_cases c1:bAt t (i:Int)=60∧bAt t (i+1:Nat)=61
  ·rw [if_pos c1,deT c1]; rfl
  rw [if_neg c1,deF c1,cnF];by_cases c2:bAt t (i:Int)=62∧bAt t (i+1:Nat)=61
  ·rw [if_pos c2,deT c2]; rfl
  rw [if_neg c2,deF c2,cnF];by_cases c3:bAt t (i:Int)=61
  ·rw [if_pos c3,deT c3]; rfl
  rw [if_neg c3,deF c3,cnF];by_cases c4:bAt t (i:Int)=60
  ·rw [if_pos c4,deT c4]; rfl
  rw [if_neg c4,deF c4,cnF];by_cases c5:bAt t (i:Int)=62
  ·rw [if_pos c5,deT c5]; rfl
  rw [if_neg c5,deF c5]; rfl
 unfold zck_s;dsimp only;rw [qAb (by omega),Int.toNat_natCast,hz];by_cases h1:i+1<t.size
 ·rw [deT (by omega),cnT,qAb (by omega),core _ (fun c d=>?_),obS];have:=pre_two (t:=t) (i:=i) (c:=c) (d:=d) (by omega);have e1:(⟨#[c,d]⟩:BA).size=2:=rfl;rw [e1,hz,deT (show ((2:Nat):Int)≤((t.size - i:Nat):Int) by omega),Bool.true_and] at this;exact this
 ·rw [deF (by omega),cnF,core _ (fun c d=>?_),obS];rw [deF (fun h=>by have h5:(0:Nat)=2:=congrArg ByteArray.size h; omega),deF (fun h=>by have:=bNN (by omega) h.2; omega)]
theorem v_numch (a:Nat):qF7 (a:Int) t=some (if qDj (bAt t a)=true then .inl ((a+1:Nat):Int) else .inr (a:Int)):=by
 unfold qF7;have h:(decide ((a:Int)<(t.size:Int)))=true→0≤(a:Int)∧(a:Int)<t.size:=fun h=>⟨by omega,of_decide_eq_true h⟩
 rw [qAb h,v_digit,obS];rcases Nat.lt_or_ge a t.size with hlt | hge
 ·rw [deT (by omega),cnT,qAb (fun _=>by omega),qAb (fun _=>by omega),qAb (fun _=>by omega),qAb (fun _=>by omega),qAb (fun _=>by omega),qAb (by unfold qAf; omega)];rw [show (((((qBu (bAt t (a:Int)) || (decide ((bAt t (a:Int))=(43:Int)))) || (decide ((bAt t (a:Int))=(45:Int)))) || (decide ((bAt t (a:Int))=(46:Int)))) || (decide ((bAt t (a:Int))=(101:Int)))) || (decide ((bAt t (a:Int))=(69:Int))))=qDj (bAt t (a:Int)) from rfl]
  cases qDj (bAt t (a:Int)) <;> rfl
 ·rw [deF (by omega),cnF,qBm (by omega)];rfl
theorem v_value (a:Nat) (ha:a≤t.size) (only:Bool):∃k' s',zcn_s ⟨t,(a:Int),out,o,0,0⟩ only=some (match valS t only a with
  | .bad c b=>(⟨t,(b:Int),out,o,c,(b:Int)⟩,k',s')
  | .ok b z=>(⟨t,(b:Int),out,o,0,0⟩,z.1,z.2)):=by
 have h2:=qA6 t a ha;unfold zcn_s valS;rw [qC7 hs,obS];dsimp only;generalize qAq t a=i at *
 by_cases hi:t.size≤i
 ·rw [if_pos hi,deF (by omega),Bool.not_false,cnT,qE7 _ rfl];exact ⟨_,_,rfl⟩
 ·rw [if_neg hi,deT (by omega),Bool.not_true,cnF,qAb (by omega),v_word hs o 0 0 out i h2,obS];by_cases h34:bAt t (i:Int)=34
  ·rw [if_pos h34,deT h34,cnT,v_text hs o 0 out i (by omega) h34,obS];cases h:strS t i with
   | ok b w=>exact ⟨0,⟨#[]⟩,rfl⟩
   | bad c b=>obtain ⟨rfl,rfl⟩:=strS_bad h; exact ⟨_,_,rfl⟩
  ·rw [if_neg h34,deF h34,cnF];cases only with
   | true =>
    rw [cnT,if_pos rfl,qE7 _ rfl];exact ⟨_,_,rfl⟩
   | false =>
    rw [cnF,if_neg (by simp),v_digit,obS];by_cases hn:qBu (bAt t (i:Int))=true∨bAt t (i:Int)=45
    ·rw [if_pos hn,show (qBu (bAt t (i:Int)) || decide (bAt t (i:Int)=45))=true by simpa using hn,cnT]
     have g3:=qFs (t:=t) qCn i;have g4:=qDx (t:=t) qCn i h2;have hz:(t.extract i (rnS qDj t i)).size=rnS qDj t i - i:=qBa g4;unfold zcf_s zcf_p0;dsimp only;rw [qFt qCn (v_numch hs),obS,qAb (by omega),Int.toNat_natCast,Int.toNat_natCast,r_Valid _ (by omega),obS];cases hv:qB1 (t.extract i (rnS qDj t i)) with
     | false =>
      rw [Bool.not_false,cnT,qE7 _ rfl,if_neg (by simp)];exact ⟨_,_,rfl⟩
     | true =>
      rw [Bool.not_true,cnF,if_pos rfl];exact ⟨0,⟨#[]⟩,rfl⟩
    ·have wi:∀w:BA,qA5 t i=w→i+w.size≤t.size:=fun w hw=>qCc h2 hw
     rw [if_neg hn,show (qBu (bAt t (i:Int)) || decide (bAt t (i:Int)=45))=false by simpa using hn,cnF,show (⟨#[116,114,117,101]⟩:BA)=bTrue from rfl,show (⟨#[102,97,108,115,101]⟩:BA)=bFalse from rfl,show (⟨#[110,117,108,108]⟩:BA)=bNull from rfl]
     by_cases w1:qA5 t i=bTrue
     ·rw [if_pos w1,deT w1,cnT,qAb (by unfold qAf; omega)];exact ⟨0,⟨#[]⟩,rfl⟩
     ·rw [if_neg w1,deF w1,cnF];by_cases w2:qA5 t i=bFalse
      ·rw [if_pos w2,deT w2,cnT,qAb (by unfold qAf; omega)];exact ⟨0,⟨#[]⟩,rfl⟩
      ·rw [if_neg w2,deF w2,cnF];by_cases w3:qA5 t i=bNull
       ·rw [if_pos w3,deT w3,cnT,qAb (by unfold qAf; omega)];exact ⟨0,⟨#[]⟩,rfl⟩
       ·rw [if_neg w3,deF w3,cnF,qE7 _ rfl];exact ⟨_,_,rfl⟩
omit hs in
theorem v_node (r:qHl) (n:qHq) (h:r.out.length≤2000):zce_s r n=some (⟨r.text,r.at_,r.out++[(n.op,n.a,n.b,n.path,n.value,n.text,())],r.open_,r.err,r.bad⟩,(r.out.length:Int)):=by
 unfold zce_s;rw [qAb (by simp only [List.length_cons,List.length_nil]; omega),qAb (by simp only [List.length_append,List.length_cons,List.length_nil]; unfold qAf; omega)];congr 2
 simp
end
def RR (t:BA) (o:Nat) (K:Nat) (res:Rd (RNl × Int)) (z:qHl × Int):Prop :=
 match res with
 | .ok b x=>z=(⟨t,(b:Int),x.1,(o:Int),0,0⟩,x.2)
 | .bad c b=>c≠0∧b≤t.size∧z.1.text=t∧z.1.err=c∧z.1.bad=(b:Int)∧z.1.open_=(o:Int)∧0≤z.1.at_∧z.1.at_+(o:Int)≤1100∧z.1.out.length+4*o≤K
section
variable {t:BA} (hs:t.size≤1024)
include hs
theorem v_test {a o:Nat} {out:RNl} (ha:a≤t.size) (ho:o≤32) (hl:out.length≤a):∃z,zcl_s ⟨t,(a:Int),out,(o:Int),0,0⟩=some z∧RR t o 1190 (testS t a out) z:=by
 unfold zcl_s testS;obtain ⟨l',h1⟩:=v_path hs (o:Int) out a ha;rw [h1,obS];cases hp:qFb t a with
 | bad c b =>
  obtain ⟨rfl,hb⟩:=pathS_bad ha hp;exact ⟨_,rfl,by decide,hb,rfl,rfl,rfl,rfl,by show (0:Int)≤(b:Int); omega,by show (b:Int)+_≤_; omega,by show out.length+_≤_; omega⟩
 | ok b l =>
  obtain ⟨q1,q2,q3⟩:=pathS_adv ha hp;dsimp only;rw [deT rfl,Bool.not_true,cnF,qC7 hs,obS,q3];dsimp only;by_cases hi:b<t.size
  ·rw [deT hi,Bool.not_true,cnF,v_sign hs _ _ b hi,obS];cases hop:opS t b with
   | none =>
    dsimp only;rw [deT rfl,cnT,qE7 _ rfl];exact ⟨_,rfl,by decide,q2,rfl,rfl,rfl,rfl,by show (0:Int)≤(b:Int); omega,by show (b:Int)+_≤_; omega,by show out.length+_≤_; omega⟩
   | some x =>
    obtain ⟨op,n⟩:=x;have h6:=opS_adv hop;have hop0:op≠0:=by
     unfold opS at hop
     (repeat' split at hop) <;> first | (cases hop; done) | (cases hop; decide)
    dsimp only;rw [deF hop0,cnF,qAb (by unfold qAf; omega),show (b:Int)+(n:Int)=((b+n:Nat):Int) by omega];obtain ⟨k',s',h7⟩:=v_value hs (o:Int) out (b+n) h6.2 (decide (op=11));rw [h7,obS];cases hv:valS t (decide (op=11)) (b+n) with
    | bad c b' =>
     obtain ⟨rfl,hb'⟩:=valS_bad h6.2 hv;dsimp only;rw [v_node _ _ (by show out.length≤_; omega)];exact ⟨_,rfl,by decide,hb',rfl,rfl,rfl,rfl,by show (0:Int)≤(b':Int); omega,by show (b':Int)+_≤_; omega,by simp only [List.length_append,List.length_cons,List.length_nil]; omega⟩
    | ok b' z =>
     dsimp only;rw [v_node _ _ (by show out.length≤_; omega)];exact ⟨_,rfl,rfl⟩
  ·have hop:opS t b=none:=by unfold opS; rw [if_pos (by omega)]
   rw [deF hi,Bool.not_false,cnT,qE7 _ rfl,hop];exact ⟨_,rfl,by decide,q2,rfl,rfl,rfl,rfl,by show (0:Int)≤(b:Int); omega,by show (b:Int)+_≤_; omega,by show out.length+_≤_; omega⟩
end
end Go.Proofs.YtpobbbpphnnnhaaGreatDoor
namespace Go.Proofs.YtpobbbpphnnnhaaGreatDoor
open Go.Eng
set_option linter.unusedVariables false
set_option linter.unusedSimpArgs false
theorem kind_sgn {t:BA} {i:Nat} {c:Int} (hc:isSgn c=true) (hb:bAt t (i:Int)=c):qCk t i=4:=by
 have hc0:0≤c∧isLet c=false∧qBu c=false∧c≠34:=by
  simp only [isSgn,Bool.or_eq_true,decide_eq_true_eq] at hc;rcases hc with (((((((rfl | rfl) | rfl) | rfl) | rfl) | rfl) | rfl) | rfl) <;> decide
 have h3:=bNN hc0.1 hb;unfold qCk;rw [if_neg (by omega),hb,hc0.2.1,hc0.2.2.1,if_neg (by simp),if_neg (by simp),if_neg hc0.2.2.2,if_pos hc]
section
variable {t:BA} (hs:t.size≤1024) (o:Int) (out:RNl)
include hs
theorem u_oper0 (i:Nat) (hi:i≤t.size) (hb:qAq t i=i) (hw:qA5 t i≠bCont):zbh_p0 6 0 t (i:Int) o out Eng.opT=some (match opS t i with
  | some (op,n)=>.inl (op,t,((i+n:Nat):Int),o,out)
  | none=>.inr (t,(i:Int),o,out)):=by
 let C:Nat→Prop:=fun j=>qCk t i=4∧((decide (((Eng.opT.getD j (ET.dft .tag)).text.size:Int)≤((t.extract i t.size).size:Int)) && decide ((t.extract i t.size).extract 0 (Int.toNat ((Eng.opT.getD j (ET.dft .tag)).text.size:Int))=(Eng.opT.getD j (ET.dft .tag)).text))=true)
 have hy:∀j:Nat,j<6→C j→qC3 6 (j:Int) t (i:Int) o out Eng.opT=some (.inr (.inl ((Eng.opT.getD j (ET.dft .tag)).num,t,((i+(Eng.opT.getD j (ET.dft .tag)).text.size:Nat):Int),o,out))):=fun j hj hc=>by
  unfold qC3;rw [u_oper1 hs o out i hi hb j hj,if_pos hc];rfl
 have hn:∀j:Nat,j<6→¬C j→qC3 6 (j:Int) t (i:Int) o out Eng.opT=some (.inl (((j+1:Nat):Int),t,(i:Int),o,out)):=fun j hj hc=>by
  unfold qC3;rw [u_oper1 hs o out i hi hb j hj,if_neg hc];rfl
 have c0:C 0↔(bAt t (i:Int)=33∧bAt t (i+1:Nat)=61):=by
  show (_∧((decide (((⟨#[33,61]⟩:BA).size:Int)≤_) && decide ((t.extract i t.size).extract 0 (Int.toNat ((⟨#[33,61]⟩:BA).size:Int))=⟨#[33,61]⟩))=true))↔_;rw [pre_two hi,decide_eq_true_iff];exact ⟨fun h=>h.2,fun h=>⟨kind_sgn rfl h.1,h⟩⟩
 have c1:C 1↔(bAt t (i:Int)=60∧bAt t (i+1:Nat)=61):=by
  show (_∧((decide (((⟨#[60,61]⟩:BA).size:Int)≤_) && decide ((t.extract i t.size).extract 0 (Int.toNat ((⟨#[60,61]⟩:BA).size:Int))=⟨#[60,61]⟩))=true))↔_;rw [pre_two hi,decide_eq_true_iff];exact ⟨fun h=>h.2,fun h=>⟨kind_sgn rfl h.1,h⟩⟩
 have c2:C 2↔(bAt t (i:Int)=62∧bAt t (i+1:Nat)=61):=by
  show (_∧((decide (((⟨#[62,61]⟩:BA).size:Int)≤_) && decide ((t.extract i t.size).extract 0 (Int.toNat ((⟨#[62,61]⟩:BA).size:Int))=⟨#[62,61]⟩))=true))↔_;rw [pre_two hi,decide_eq_true_iff];exact ⟨fun h=>h.2,fun h=>⟨kind_sgn rfl h.1,h⟩⟩
 have c3:C 3↔bAt t (i:Int)=61:=by
  show (_∧((decide (((⟨#[61]⟩:BA).size:Int)≤_) && decide ((t.extract i t.size).extract 0 (Int.toNat ((⟨#[61]⟩:BA).size:Int))=⟨#[61]⟩))=true))↔_;rw [pre_one hi,decide_eq_true_iff];exact ⟨fun h=>h.2,fun h=>⟨kind_sgn rfl h,h⟩⟩
 have c4:C 4↔bAt t (i:Int)=60:=by
  show (_∧((decide (((⟨#[60]⟩:BA).size:Int)≤_) && decide ((t.extract i t.size).extract 0 (Int.toNat ((⟨#[60]⟩:BA).size:Int))=⟨#[60]⟩))=true))↔_;rw [pre_one hi,decide_eq_true_iff];exact ⟨fun h=>h.2,fun h=>⟨kind_sgn rfl h,h⟩⟩
 have c5:C 5↔bAt t (i:Int)=62:=by
  show (_∧((decide (((⟨#[62]⟩:BA).size:Int)≤_) && decide ((t.extract i t.size).extract 0 (Int.toNat ((⟨#[62]⟩:BA).size:Int))=⟨#[62]⟩))=true))↔_;rw [pre_one hi,decide_eq_true_iff];exact ⟨fun h=>h.2,fun h=>⟨kind_sgn rfl h,h⟩⟩
 have hend:qC3 6 ((6:Nat):Int) t (i:Int) o out Eng.opT=some (.inr (.inr (t,(i:Int),o,out))):=rfl;have hsz:∀c:Int,0≤c→bAt t (i:Int)=c→¬t.size≤i:=fun c hc h=>by have:=bNN hc h; omega
 unfold zbh_p0 opS;by_cases d0:C 0
 ·rw [if_neg (hsz 33 (by decide) (c0.1 d0).1),if_neg hw,if_pos (c0.1 d0)];exact qAi (hy 0 (by omega) d0)
 refine (qAr (hn 0 (by omega) d0)).trans ?_;by_cases d1:C 1
 ·rw [if_neg (hsz 60 (by decide) (c1.1 d1).1),if_neg hw,if_neg (fun h=>d0 (c0.2 h)),if_pos (c1.1 d1)];exact qAi (hy 1 (by omega) d1)
 refine (qAr (hn 1 (by omega) d1)).trans ?_;by_cases d2:C 2
 ·rw [if_neg (hsz 62 (by decide) (c2.1 d2).1),if_neg hw,if_neg (fun h=>d0 (c0.2 h)),if_neg (fun h=>d1 (c1.2 h)),if_pos (c2.1 d2)];exact qAi (hy 2 (by omega) d2)
 refine (qAr (hn 2 (by omega) d2)).trans ?_;by_cases d3:C 3
 ·rw [if_neg (hsz 61 (by decide) (c3.1 d3)),if_neg hw,if_neg (fun h=>d0 (c0.2 h)),if_neg (fun h=>d1 (c1.2 h)),if_neg (fun h=>d2 (c2.2 h)),if_pos (c3.1 d3)];exact qAi (hy 3 (by omega) d3)
 refine (qAr (hn 3 (by omega) d3)).trans ?_;by_cases d4:C 4
 ·rw [if_neg (hsz 60 (by decide) (c4.1 d4)),if_neg hw,if_neg (fun h=>d0 (c0.2 h)),if_neg (fun h=>d1 (c1.2 h)),if_neg (fun h=>d2 (c2.2 h)),if_neg (fun h=>d3 (c3.2 h)),if_pos (c4.1 d4)];exact qAi (hy 4 (by omega) d4)
 refine (qAr (hn 4 (by omega) d4)).trans ?_;by_cases d5:C 5
 ·rw [if_neg (hsz 62 (by decide) (c5.1 d5)),if_neg hw,if_neg (fun h=>d0 (c0.2 h)),if_neg (fun h=>d1 (c1.2 h)),if_neg (fun h=>d2 (c2.2 h)),if_neg (fun h=>d3 (c3.2 h)),if_neg (fun h=>d4 (c4.2 h)),if_pos (c5.1 d5)];exact qAi (hy 5 (by omega) d5)
 refine (qAr (hn 5 (by omega) d5)).trans ?_;rw [show (if t.size≤i then none else if qA5 t i=bCont then some (11,8) else if bAt t (i:Int)=33∧bAt t (i+1:Nat)=61 then some (6,2) else if bAt t (i:Int)=60∧bAt t (i+1:Nat)=61 then some (8,2) else if bAt t (i:Int)=62∧bAt t (i+1:Nat)=61 then some (10,2) else if bAt t (i:Int)=61 then some (5,1) else if bAt t (i:Int)=60 then some (7,1) else if bAt t (i:Int)=62 then some (9,1) else none:Option (Int × Nat))=none from by
  rw [if_neg hw,if_neg (fun h=>d0 (c0.2 h)),if_neg (fun h=>d1 (c1.2 h)),if_neg (fun h=>d2 (c2.2 h)),if_neg (fun h=>d3 (c3.2 h)),if_neg (fun h=>d4 (c4.2 h)),if_neg (fun h=>d5 (c5.2 h))];split <;> rfl]
 exact qAi hend
theorem u_oper (i:Nat) (hi:i≤t.size) (hb:qAq t i=i):zbh_s ⟨t,(i:Int),o,out⟩=some (match opS t i with
  | some (op,n)=>.inl (⟨t,((i+n:Nat):Int),o,out⟩,op)
  | none=>.inr (29,.agg #[.int .i64 180,.int .i64 (i:Int)])):=by
 unfold zbh_s;have hk:=u_keyw hs o out i hi (w:=bCont) (by decide) (by decide);rw [hb] at hk;rw [show (⟨#[99,111,110,116,97,105,110,115]⟩:BA)=bCont from rfl,hk,obS];by_cases hw:qA5 t i=bCont
 ·have h3:=qCc hi hw;have e:bCont.size=8:=rfl;rw [if_pos hw];unfold opS;rw [if_neg (by omega),if_pos hw];rfl
 ·rw [if_neg hw];dsimp only;rw [cnF,show (Eng.opT.length:Int)=6 from rfl,u_oper0 hs o out i hi hb hw,obS];cases opS t i with
  | none=>rfl
  | some x=>obtain ⟨op,n⟩:=x; rfl
theorem u_value (a:Nat) (ha:a≤t.size) (op x y:Int) (l:List BA):zbq_s ⟨t,(a:Int),o,out⟩ ⟨op,x,y,l,0,⟨#[]⟩⟩=some (match valS t (decide (op=11)) a with
  | .bad c b=>.inr (29,.agg #[.int .i64 c,.int .i64 (b:Int)])
  | .ok b z=>.inl (⟨t,(b:Int),o,out⟩,⟨op,x,y,l,z.1,z.2⟩)):=by
 have h2:=qA6 t a ha;have hb:=skip_idem t a;unfold zbq_s valS;rw [u_nextk hs o out a ha,obS];dsimp only;generalize qAq t a=i at *
 have kw:zbq_p0 false t (i:Int) o 0 (⟨#[]⟩:BA) out=some (if qA5 t i=bTrue then .inl (t,((i+4:Nat):Int),o,3,⟨#[]⟩,out) else if qA5 t i=bFalse then .inl (t,((i+5:Nat):Int),o,2,⟨#[]⟩,out) else if qA5 t i=bNull then .inl (t,((i+4:Nat):Int),o,1,⟨#[]⟩,out) else .inr (29,.agg #[.int .i64 180,.int .i64 (i:Int)])):=by
  have k1:=u_keyw hs o out i h2 (w:=bTrue) (by decide) (by decide);have k2:=u_keyw hs o out i h2 (w:=bFalse) (by decide) (by decide);have k3:=u_keyw hs o out i h2 (w:=bNull) (by decide) (by decide);rw [hb] at k1 k2 k3;unfold zbq_p0;rw [cnF,show (⟨#[116,114,117,101]⟩:BA)=bTrue from rfl,show (⟨#[102,97,108,115,101]⟩:BA)=bFalse from rfl,show (⟨#[110,117,108,108]⟩:BA)=bNull from rfl,k1,obS];by_cases w1:qA5 t i=bTrue
  ·rw [if_pos w1,if_pos w1]; rfl
  ·rw [if_neg w1,if_neg w1];dsimp only;rw [cnF,k2,obS];by_cases w2:qA5 t i=bFalse
   ·rw [if_pos w2,if_pos w2]; rfl
   ·rw [if_neg w2,if_neg w2];dsimp only;rw [cnF,k3,obS];by_cases w3:qA5 t i=bNull
    ·rw [if_pos w3,if_pos w3]; rfl
    ·rw [if_neg w3,if_neg w3]; rfl
 have num:i<t.size→zbq_p0 true t (i:Int) o 0 (⟨#[]⟩:BA) out=some (if qB1 (t.extract i (rnS qDj t i))=true then .inl (t,((rnS qDj t i:Nat):Int),o,4,t.extract i (rnS qDj t i),out) else .inr (29,.agg #[.int .i64 180,.int .i64 (i:Int)])):=fun hi=>by
  have g3:=qFs (t:=t) qCn i;have g4:=qDx (t:=t) qCn i h2;have hz:(t.extract i (rnS qDj t i)).size=rnS qDj t i - i:=qBa g4;unfold zbq_p0;rw [cnT,u_run2 hs o out i h2,obS,p_Valid _ (by omega),obS];cases hv:qB1 (t.extract i (rnS qDj t i)) with
  | false=>rfl
  | true =>
   rw [Bool.not_true,cnF,if_pos rfl];unfold zbq_p1;rw [qAb (by unfold qAf; omega),obS,show (i:Int)+((t.extract i (rnS qDj t i)).size:Int)=((rnS qDj t i:Nat):Int) by omega]
 by_cases hi:t.size≤i
 ·have hk:qCk t i=0:=by unfold qCk; rw [if_pos hi]
  have wo:∀w:BA,0<w.size→qA5 t i≠w:=fun w hw h=>by rw [word_out hi] at h; subst h; exact absurd hw (by decide)
  rw [hk,if_pos hi,deF (by decide),cnF];cases decide (op=11) with
  | true=>rfl
  | false =>
   rw [cnF,deF (by decide),cnF,qAb (fun h=>by cases h),deF (by decide),Bool.false_and,kw,obS,if_neg (wo _ (by decide)),if_neg (wo _ (by decide)),if_neg (wo _ (by decide))];rfl
 ·rw [if_neg hi];by_cases h34:bAt t (i:Int)=34
  ·have hk:qCk t i=3:=by
    unfold qCk;rw [if_neg hi,h34,if_neg (by decide),if_neg (by decide),if_pos rfl]
   rw [hk,if_pos h34,deT rfl,cnT,u_quoted hs o out i (by omega) h34,obS];cases strS t i <;> rfl
  ·have hk3:¬qCk t i=3:=by
    unfold qCk;rw [if_neg hi]
    (repeat' split) <;> first | decide | (rename_i h; exact (h34 h).elim)
   rw [if_neg h34,deF hk3,cnF];cases hop:decide (op=11) with
   | true =>
    rw [cnT,if_pos rfl];rfl
   | false =>
    rw [cnF,if_neg (by simp)];by_cases hn:qBu (bAt t (i:Int))=true∨bAt t (i:Int)=45
    ·rw [if_pos hn];have fin:∀z:Option ((BA × Int × Int × Int × BA × RNl) ⊕ PV),z=some (if qB1 (t.extract i (rnS qDj t i))=true then .inl (t,((rnS qDj t i:Nat):Int),o,4,t.extract i (rnS qDj t i),out) else .inr (29,.agg #[.int .i64 180,.int .i64 (i:Int)])) →
       (z.bind fun o74=>(Sum.elim (fun (o74_0:BA × Int × Int × Int × BA × RNl)=>some (Sum.inl ((⟨o74_0.1,o74_0.2.1,o74_0.2.2.1,o74_0.2.2.2.2.2⟩:rules_parser),(⟨op,x,y,l,o74_0.2.2.2.1,o74_0.2.2.2.2.1⟩:qHq)))) (fun (o74_1:PV)=>some (.inr o74_1))) o74)=some (match (if qB1 (t.extract i (rnS qDj t i))=true then Rd.ok (rnS qDj t i) ((4:Int),t.extract i (rnS qDj t i)) else .bad 180 i) with
      | .bad c b=>.inr (29,.agg #[.int .i64 c,.int .i64 (b:Int)])
      | .ok b z=>.inl (⟨t,(b:Int),o,out⟩,⟨op,x,y,l,z.1,z.2⟩)):=fun z hz=>by
      rw [hz,obS];split <;> rfl
     by_cases hk2:qCk t i=2
     ·rw [deT hk2,cnT];exact fin _ (num (by omega))
     ·have h45:bAt t (i:Int)=45:=by
       rcases hn with hn | hn
       ·exfalso;refine hk2 ?_;unfold qCk;rw [if_neg hi,if_neg (by
         simp only [isLet,qBu,Bool.or_eq_true,Bool.and_eq_true,decide_eq_true_eq] at hn ⊢;omega),if_pos hn]
       ·exact hn
      have hk4:=kind_sgn (c:=45) rfl h45;rw [deF hk2,cnF,qAb (fun _=>by omega),deT hk4,h45];exact fin _ (num (by omega))
    ·rw [if_neg hn];have hk2:¬qCk t i=2:=by
      unfold qCk;rw [if_neg hi]
      (repeat' split) <;> first | decide | (rename_i h; exact (hn (.inl h)).elim)
     rw [deF hk2,cnF,qAb (fun _=>by omega),deF (fun h=>hn (.inr h)),Bool.and_false,kw,obS];by_cases w1:qA5 t i=bTrue
     ·rw [if_pos w1,if_pos w1]; rfl
     ·rw [if_neg w1,if_neg w1];by_cases w2:qA5 t i=bFalse
      ·rw [if_pos w2,if_pos w2]; rfl
      ·rw [if_neg w2,if_neg w2];by_cases w3:qA5 t i=bNull
       ·rw [if_pos w3,if_pos w3]; rfl
       ·rw [if_neg w3,if_neg w3]; rfl
omit hs in
theorem u_node (a:Nat) (n:qHq) (h:out.length≤2000):zbg_s ⟨t,(a:Int),o,out⟩ n=some (⟨t,(a:Int),o,out++[(n.op,n.a,n.b,n.path,n.value,n.text,())]⟩,(out.length:Int)):=by
 unfold zbg_s;dsimp only;rw [qAb (by simp only [List.length_cons,List.length_nil]; omega),qAb (by simp only [List.length_append,List.length_cons,List.length_nil]; unfold qAf; omega)];congr 2
 simp
end
end Go.Proofs.YtpobbbpphnnnhaaGreatDoor
namespace Go.Eng
open Go.RowKit
set_option linter.unusedVariables false
theorem bag_alone {X X':Nat→Prop} {w0 w0' w w':World} {ρ:Nat→Value} {hp:List SB} {i:Nat} {ks:List NK} {e:Nat} {l:List (NT ks)} (h:HpSat X' w0' w ρ hp) (hi:hp[i]?=some (.bag ks e l)) (ht:qFv X w0)
  (hx:∀b,Excl X' w0' b→Excl X w0 b) (hk:∀b,b<w.heap.size→Excl X' w0' b→Same w w' b):HpSat X w0 w' (fun _=>ρ i) [.bag ks e l]:=by
 obtain ⟨u,rs,hv,hb0⟩:=h.sat i _ hi;have hb:=hb0.keep (w':=w') (fun k hk'=>by rw [←hv] at hk'; exact hk k (h.fp_lt hi rfl hk').1 (h.fp_lt hi rfl hk').2) (fun a b=>qEu a b);have hs2:(SB.bag ks e l).sat X w0 w' (fun _=>ρ i) (ρ i):=⟨u,rs,hv,hb.exclude fun b _=>hx b⟩;refine ⟨fun j _=>h.ref i (List.getElem?_eq_some_iff.1 hi).1,fun j sb hj=>?_,fun j sb hj=>?_,fun j j' sb sb' b hne hj hj'=>?_,ht⟩
 ·cases j with
  | zero=>cases hj; exact hs2
  | succ j=>cases hj
 ·cases j with
  | zero=>cases hj; trivial
  | succ j=>cases hj
 ·cases j with
  | zero=>cases j' with
   | zero=>exact (hne rfl).elim
   | succ j'=>cases hj'
  | succ j=>cases hj
theorem mkC_nat {α β ρ:Type} (A:Dec α (List SV)) (B:Dec β (List SB)) (F:α→β→Option ρ) (V:α→β→ρ→SV) (H:α→β→ρ→List SB):natS (mkC A B F V H):=by
 intro args hp R k;unfold mkC;cases A.d args with
 | none=>rfl
 | some x =>
  cases B.d hp with
  | none=>rfl
  | some y =>
   simp only [obS];cases F x y <;> rfl
end Go.Eng
