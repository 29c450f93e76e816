/-
  Texts of a claim.
-/
import Derived.Test.YtpobbbpphnnnhaaGreatDoorPLexR
namespace Go.Proofs.YtpobbbpphnnnhaaGreatDoor
open Go.Eng
set_option linter.unusedVariables false
set_option linter.unusedSimpArgs false
theorem r_hex (c:Int) (h : -1≤c∧c≤255):zdd_s c=some (hexS c):=by
 unfold zdd_s hexS;rw [qCs (p:=48≤c∧c≤57) (by simp),qCs (p:=97≤c∧c≤102) (by simp),qCs (p:=65≤c∧c≤70) (by simp)];split
 ·rw [qAb (by unfold qAf; omega)]
 ·split
  ·rw [qAb (by unfold qAf; omega),qAb (by unfold qAf; omega)]
  ·split
   ·rw [qAb (by unfold qAf; omega),qAb (by unfold qAf; omega)]
   ·rfl
theorem qCr {x:Int} (h:0≤x∧x<256):x % 256=x:=by omega
theorem r_Utf (u:Int) (h:0≤u∧u≤2000000):zcx_s u=some (qBe (utfL u)):=by
 unfold zcx_s utfL;by_cases h1:u<128
 ·rw [deT h1,cnT,if_pos h1,qCr (by omega)]
 ·rw [deF h1,cnF,if_neg h1];by_cases h2:u<2048
  ·rw [deT h2,cnT,if_pos h2,qAb (by omega),qAb (by unfold qAf; omega),qAb (by omega),qAb (by unfold qAf; omega),qCr (by omega),qCr (by omega)]
  ·rw [deF h2,cnF,if_neg h2];by_cases h3:u<65536
   ·rw [deT h3,cnT,if_pos h3,qAb (by omega),qAb (by unfold qAf; omega),qAb (by omega),qAb (by omega),qAb (by unfold qAf; omega),qAb (by omega),qAb (by unfold qAf; omega),qCr (by omega),qCr (by omega),qCr (by omega)]
   ·rw [deF h3,cnF,if_neg h3,qAb (by omega),qAb (by unfold qAf; omega),qAb (by omega),qAb (by omega),qAb (by unfold qAf; omega),qAb (by omega),qAb (by omega),qAb (by unfold qAf; omega),qAb (by omega),qAb (by unfold qAf; omega),qCr (by omega),qCr (by omega),qCr (by omega),qCr (by omega)]
def halfI (h:Bool):Int:=if h then 2 else 0
theorem r_four2 (f u d:Int) (bad:Bool) (hu:0≤u∧u≤1000000) (hd : -1≤d∧d≤15):zdc_p2 f u d bad=some (if bad=true then .inl (0,0,⟨#[]⟩,33,f,[]) else .inr (16*u+d)):=by
 unfold zdc_p2;cases bad with
 | true=>rfl
 | false =>
  rw [cnF,if_neg (by simp),qAb (by unfold qAf; omega),qAb (by unfold qAf; omega)]
theorem r_four1 (hf:Bool) (f u:Int) (i:Nat) (d:Int) (bad:Bool) (hu:0≤u∧u≤1000000) (hd : -1≤d∧d≤15) :
  zdc_p1 (halfI hf) f u (i:Int) d bad=some (if bad=true∨(hf=false∧i=1∧u=13∧12≤d) then .inl (0,0,⟨#[]⟩,33,f,[]) else .inr (16*u+d)):=by
 unfold zdc_p1;rw [qCs (p:=hf=false∧i=1∧u=13∧12≤d) (by
  simp only [Bool.and_eq_true,decide_eq_true_eq];have:halfI hf=0↔hf=false:=by cases hf <;> simp [halfI]
  rw [this];constructor
  ·rintro ⟨⟨⟨h1,h2⟩,h3⟩,h4⟩
   exact ⟨h1,by omega,h3,h4⟩
  ·rintro ⟨h1,h2,h3,h4⟩
   exact ⟨⟨⟨h1,by omega⟩,h3⟩,h4⟩)]
 rw [r_four2 f u d true hu hd,r_four2 f u d bad hu hd,obS,obS];by_cases h:hf=false∧i=1∧u=13∧12≤d
 ·rw [if_pos h,if_pos (show true=true from rfl),if_pos (.inr h)];rfl
 ·rw [if_neg h];cases bad with
  | true=>rfl
  | false =>
   rw [if_neg (by simp),if_neg (by simpa using h)];rfl
theorem r_four0 (t:BA) (hs:t.size≤3000000) (hf:Bool) (f a:Nat) (ha:a≤3000000):∀(m i:Nat) (u:Int),i+m=4→0≤u∧u<16 ^ i→zdc_p0 t (a:Int) (halfI hf) (f:Int) u (i:Int)=some (match qFo t hf f m i (a+i) u with
  | .bad c b=>.inl (0,0,⟨#[]⟩,c,(b:Int),[])
  | .ok _ w=>.inr w)
 | 0,i,u,h,hu=>by
  unfold zdc_p0;refine qAi ?_;unfold qEn;rw [deF (by omega),cnF];rfl
 | m+1,i,u,h,hu=>by
  have hb:=qCv t (a+i:Nat);have hd:=qFf (bAt t (a+i:Nat));have hp:(16:Int) ^ i≤16 ^ 3:=by
   have:i=0∨i=1∨i=2∨i=3:=by omega
   rcases this with h | h | h | h <;> subst h <;> decide
  have hp':(16:Int) ^ (i+1)=16 ^ i*16:=Int.pow_succ 16 i;have hst:qEn t (a:Int) (halfI hf) (f:Int) u (i:Int)=some (if bAt t (a+i:Nat)<0 then .inr (.inl (0,0,⟨#[]⟩,31,(t.size:Int),[])) else if qD0 hf i u (hexS (bAt t (a+i:Nat))) then .inr (.inl (0,0,⟨#[]⟩,33,(f:Int),[])) else .inl (16*u+hexS (bAt t (a+i:Nat)),((i+1:Nat):Int))):=by
   unfold qEn;rw [deT (by omega),cnT,qAb (by unfold qAf; omega),show (a:Int)+(i:Int)=((a+i:Nat):Int) by omega,r_at,obS];by_cases h1:bAt t (a+i:Nat)<0
   ·rw [deT h1,cnT,if_pos h1];rfl
   ·rw [deF h1,cnF,if_neg h1,r_hex _ hb,obS];generalize hexS (bAt t (a+i:Nat))=d at *
    rw [r_four1 hf f u i d true (by omega) hd,r_four1 hf f u i d (decide (d<0)) (by omega) hd,obS,obS];rw [qCs (p:=hf=true∧(i=0∧d≠13∨i=1∧d<12)) (by
     simp only [Bool.and_eq_true,Bool.or_eq_true,Bool.not_eq_true',decide_eq_true_eq,decide_eq_false_iff_not];have:halfI hf=2↔hf=true:=by cases hf <;> simp [halfI]
     rw [this];have e0:((i:Int)=0)↔i=0:=by omega
     have e1:((i:Int)=1)↔i=1:=by omega
     rw [e0,e1])]
    by_cases h2:hf=true∧(i=0∧d≠13∨i=1∧d<12)
    ·rw [if_pos h2,if_pos (.inl rfl),if_pos (by unfold qD0; exact .inr (.inl h2))];rfl
    ·rw [if_neg h2];by_cases h3:qD0 hf i u d
     ·rw [if_pos h3,if_pos (by
       unfold qD0 at h3;rcases h3 with h3 | h3 | h3
       ·exact .inl (deT h3)
       ·exact (h2 h3).elim
       ·exact .inr h3)]
      rfl
     ·rw [if_neg h3,if_neg (by
       unfold qD0 at h3;rintro (h4 | h4)
       ·exact h3 (.inl (of_decide_eq_true h4))
       ·exact h3 (.inr (.inr h4)))]
      simp only [Sum.elim_inr];rw [qAb (by unfold qAf; omega)];rfl
  unfold qFo;by_cases h1:bAt t (a+i:Nat)<0
  ·rw [if_pos h1] at hst ⊢;unfold zdc_p0;rw [qAi hst]
  ·rw [if_neg h1] at hst ⊢;by_cases h3:qD0 hf i u (hexS (bAt t (a+i:Nat)))
   ·rw [if_pos h3] at hst ⊢;unfold zdc_p0;rw [qAi hst]
   ·rw [if_neg h3] at hst ⊢;have h0:0≤hexS (bAt t (a+i:Nat)):=by
     unfold qD0 at h3;simp only [not_or] at h3;omega
    have:=r_four0 t hs hf f a ha m (i+1) (16*u+hexS (bAt t (a+i:Nat))) (by omega) (by omega);unfold zdc_p0 at this ⊢;rw [qAr hst];exact this
def fourG (r:Rd Int):Int × qHs:=match r with
 | .bad c b=>(0,badG c b)
 | .ok b u=>(u,⟨(b:Int),[],⟨#[]⟩,0,0⟩)
theorem r_four (t:BA) (hs:t.size≤3000000) (hf:Bool) (f a:Nat) (ha:a≤3000000):zdc_s t (a:Int) (halfI hf) (f:Int)=some (fourG (qFo t hf f 4 0 a 0)):=by
 unfold zdc_s;have:=r_four0 t hs hf f a ha 4 0 0 rfl (by decide);rw [show ((0:Nat):Int)=0 from rfl,Nat.add_zero] at this;rw [this,obS];cases h:qFo t hf f 4 0 a 0 with
 | bad c b=>rfl
 | ok b u =>
  have h2:=(fourR_ok h).1;simp only [Sum.elim_inr];rw [qAb (by unfold qAf; omega)];show some (u,(⟨(a:Int)+4,_,_,_,_⟩:qHs))=some (u,⟨(b:Int),_,_,_,_⟩);rw [show (b:Int)=(a:Int)+4 by omega]
theorem r_fourF (t:BA) (hs:t.size≤3000000) (f a:Nat) (ha:a≤3000000):zdc_s t (a:Int) 0 (f:Int)=some (fourG (qFo t false f 4 0 a 0)):=r_four t hs false f a ha
theorem r_fourT (t:BA) (hs:t.size≤3000000) (f a:Nat) (ha:a≤3000000):zdc_s t (a:Int) 2 (f:Int)=some (fourG (qFo t true f 4 0 a 0)):=r_four t hs true f a ha
theorem qG7 {t:BA} {hf:Bool} {f:Nat}:∀ {m i a b:Nat} {u c:Int},qFo t hf f m i a u=.bad c b→c=31∨c=33
 | 0,_,_,_,_,_,h=>by cases h
 | m+1,i,a,b,u,c,h=>by
  unfold qFo at h;split at h
  ·cases h; exact .inl rfl
  ·split at h
   ·cases h; exact .inr rfl
   ·exact qG7 h
def saysG {α:Type} (f:α→BA) (g:qHs) (r:Rd α):Prop:=match r with
 | .bad c b=>g.code=c∧g.bad=(b:Int)∧c≠0
 | .ok b u=>g=⟨(b:Int),[],f u,0,0⟩
theorem r_esc1 (t:BA) (hs:t.size≤3000000) (f a:Nat) (ha:a≤3000000):zda_p1 t (f:Int) 0 (a:Int)=some (
  if bAt t a<0 then .inl (0,⟨#[]⟩,31,(t.size:Int),[])
  else if bAt t a≠92 then .inl (0,⟨#[]⟩,33,(f:Int),[])
  else if bAt t (a+1:Nat)<0 then .inl (0,⟨#[]⟩,31,(t.size:Int),[])
  else if bAt t (a+1:Nat)≠117 then .inl (0,⟨#[]⟩,33,(f:Int),[])
  else .inr ()):=by
 have hst:∀i:Nat,i<2→qC4 t (f:Int) (i:Int) (a:Int)=some (if bAt t (a+i:Nat)<0 then .inr (.inl (0,⟨#[]⟩,31,(t.size:Int),[]))
   else if (i=0∧bAt t (a+i:Nat)≠92)∨(i=1∧bAt t (a+i:Nat)≠117) then .inr (.inl (0,⟨#[]⟩,33,(f:Int),[])) else .inl ((i+1:Nat):Int)):=by
  intro i hi;unfold qC4;rw [deT (by omega),cnT,qAb (by unfold qAf; omega),show (a:Int)+(i:Int)=((a+i:Nat):Int) by omega,r_at,obS];by_cases h1:bAt t (a+i:Nat)<0
  ·rw [deT h1,cnT,if_pos h1];rfl
  ·rw [deF h1,cnF,if_neg h1,qCs (p:=(i=0∧bAt t (a+i:Nat)≠92)∨(i=1∧bAt t (a+i:Nat)≠117)) (by
    simp only [Bool.and_eq_true,Bool.or_eq_true,Bool.not_eq_true',decide_eq_true_eq,decide_eq_false_iff_not];have e0:((i:Int)=0)↔i=0:=by omega
    have e1:((i:Int)=1)↔i=1:=by omega
    rw [e0,e1])]
   split
   ·rfl
   ·rw [qAb (by unfold qAf; omega)];rfl
 have h0:=hst 0 (by decide);have h1:=hst 1 (by decide);rw [show ((0:Nat):Int)=0 from rfl,Nat.add_zero] at h0;have e1:∀ {i:Int} {x},qC4 t (f:Int) i (a:Int)=some (.inr x)→zda_p1 t (f:Int) i (a:Int)=some x:=fun h=>qAi h
 have e2:∀ {i j:Int},qC4 t (f:Int) i (a:Int)=some (.inl j)→zda_p1 t (f:Int) i (a:Int)=zda_p1 t (f:Int) j (a:Int):=fun h=>qAr h
 by_cases c0:bAt t a<0
 ·rw [if_pos c0] at h0 ⊢;rw [e1 h0]
 ·rw [if_neg c0] at h0 ⊢;by_cases c1:bAt t a≠92
  ·rw [if_pos (.inl ⟨rfl,c1⟩)] at h0;rw [e1 h0,if_pos c1]
  ·rw [if_neg (by omega)] at h0;rw [e2 h0,if_neg c1,Nat.zero_add];by_cases c2:bAt t (a+1:Nat)<0
   ·rw [if_pos c2] at h1 ⊢;rw [e1 h1]
   ·rw [if_neg c2] at h1 ⊢;by_cases c3:bAt t (a+1:Nat)≠117
    ·rw [if_pos (.inr ⟨rfl,c3⟩)] at h1;rw [e1 h1,if_pos c3]
    ·rw [if_neg (by omega)] at h1;rw [e2 h1,if_neg c3];refine e1 ?_;unfold qC4;rfl
theorem r_esc0 (t:BA) (hs:t.size≤3000000) (f:Nat) (hf:f<t.size) (c:Int) (hc:c=bAt t (f+1:Nat)) (h0:0≤c) (x:Bool) (hx:x=true↔c=34∨c=92∨c=47) :
  ∃o,zda_p0 t (f:Int) c (-1) c x=some o ∧
   (c=117→∃g:qHs,o=.inr (g.at_,g.s,g.code,g.bad,g.l)∧saysG (fun u=>qBe (utfL u)) g (escR t f)) ∧
   (c≠117→o=.inl (saidS c)):=by
 unfold zda_p0 saidS;by_cases hx1:c=34∨c=92∨c=47
 ·rw [hx.2 hx1,cnT,if_pos hx1];exact ⟨_,rfl,fun h=>by omega,fun _=>rfl⟩
 ·have:x=false:=by
   cases x with
   | false=>rfl
   | true=>exact (hx1 (hx.1 rfl)).elim
  rw [this,cnF,if_neg hx1];by_cases h1:c=98
  ·rw [deT h1,cnT,if_pos h1];exact ⟨_,rfl,fun h=>by omega,fun _=>rfl⟩
  rw [deF h1,cnF,if_neg h1];by_cases h2:c=102
  ·rw [deT h2,cnT,if_pos h2];exact ⟨_,rfl,fun h=>by omega,fun _=>rfl⟩
  rw [deF h2,cnF,if_neg h2];by_cases h3:c=110
  ·rw [deT h3,cnT,if_pos h3];exact ⟨_,rfl,fun h=>by omega,fun _=>rfl⟩
  rw [deF h3,cnF,if_neg h3];by_cases h4:c=114
  ·rw [deT h4,cnT,if_pos h4];exact ⟨_,rfl,fun h=>by omega,fun _=>rfl⟩
  rw [deF h4,cnF,if_neg h4];by_cases h5:c=116
  ·rw [deT h5,cnT,if_pos h5];exact ⟨_,rfl,fun h=>by omega,fun _=>rfl⟩
  rw [deF h5,cnF,if_neg h5];by_cases h6:c=117
  ·rw [deT h6,cnT];have hl:=bAt_lt (t:=t) (a:=f+1) (by omega);rw [qAb (by unfold qAf; omega),show (f:Int)+2=((f+2:Nat):Int) by omega,r_fourF t hs f (f+2) (by omega),obS];unfold escR;rw [if_neg (show ¬bAt t (f+1:Nat)<0 by omega),if_pos (show bAt t (f+1:Nat)=117 by omega)];cases h7:qFo t false f 4 0 (f+2) 0 with
   | bad k b =>
    have hk:=qG7 h7;show ∃o,(bif (((!decide (k=0)) || decide ((0:Int)<55296)) || decide ((57343:Int)<0)) then _ else _)=_∧_
    rw [deF (show ¬k=0 by omega),Bool.not_false,Bool.true_or,Bool.true_or,cnT];show ∃o,((zcx_s 0).bind _)=_∧_;rw [r_Utf 0 (by decide),obS];exact ⟨_,rfl,fun _=>⟨⟨0,[],qBe (utfL 0),k,(b:Int)⟩,rfl,rfl,rfl,by omega⟩,fun h=>(h h6).elim⟩
   | ok b u =>
    have h8:=fourR_ok h7;show ∃o,(bif (((!decide ((0:Int)=0)) || decide (u<55296)) || decide (57343<u)) then _ else _)=_∧_
    rw [qCs (p:=u<55296∨57343<u) (by simp)];dsimp only [fourG];by_cases h9:u<55296∨57343<u
    ·rw [if_pos h9,r_Utf u (by omega),obS,if_pos h9];exact ⟨_,rfl,fun _=>⟨⟨(b:Int),[],qBe (utfL u),0,0⟩,rfl,rfl⟩,fun h=>(h h6).elim⟩
    ·rw [if_neg h9,if_neg h9,r_esc1 t hs f b (by omega),obS];unfold pairR;by_cases c0:bAt t b<0
     ·rw [if_pos c0,if_pos c0];exact ⟨_,rfl,fun _=>⟨badG 31 t.size,rfl,rfl,rfl,by decide⟩,fun h=>(h h6).elim⟩
     rw [if_neg c0,if_neg c0];by_cases c1:bAt t b≠92
     ·rw [if_pos c1,if_pos c1];exact ⟨_,rfl,fun _=>⟨badG 33 f,rfl,rfl,rfl,by decide⟩,fun h=>(h h6).elim⟩
     rw [if_neg c1,if_neg c1];by_cases c2:bAt t (b+1:Nat)<0
     ·rw [if_pos c2,if_pos c2];exact ⟨_,rfl,fun _=>⟨badG 31 t.size,rfl,rfl,rfl,by decide⟩,fun h=>(h h6).elim⟩
     rw [if_neg c2,if_neg c2];by_cases c3:bAt t (b+1:Nat)≠117
     ·rw [if_pos c3,if_pos c3];exact ⟨_,rfl,fun _=>⟨badG 33 f,rfl,rfl,rfl,by decide⟩,fun h=>(h h6).elim⟩
     rw [if_neg c3,if_neg c3];have hl2:=bAt_lt (t:=t) (a:=b+1) (by omega);simp only [Sum.elim_inr];rw [qAb (by unfold qAf; omega),show (b:Int)+2=((b+2:Nat):Int) by omega,r_fourT t hs f (b+2) (by omega),obS];have h10:=h8.2.2.2.2.2 rfl;cases h11:qFo t true f 4 0 (b+2) 0 with
     | bad k e =>
      have hk:=qG7 h11;simp only [fourG,badG];rw [qAb (by unfold qAf; omega),qAb (by unfold qAf; omega),qAb (by unfold qAf; omega),qAb (by unfold qAf; omega),qAb (by unfold qAf; omega),r_Utf _ (by omega),obS];exact ⟨_,rfl,fun _=>⟨⟨0,[],_,k,(e:Int)⟩,rfl,rfl,rfl,by omega⟩,fun h=>(h h6).elim⟩
     | ok e w =>
      have h12:=fourR_ok h11;have h13:=h12.2.2.2.2.1 rfl;simp only [fourG];rw [qAb (by unfold qAf; omega),qAb (by unfold qAf; omega),qAb (by unfold qAf; omega),qAb (by unfold qAf; omega),qAb (by unfold qAf; omega),r_Utf _ (by omega),obS];exact ⟨_,rfl,fun _=>⟨⟨(e:Int),[],_,0,0⟩,rfl,rfl⟩,fun h=>(h h6).elim⟩
  ·rw [deF h6,cnF];exact ⟨_,rfl,fun h=>(h6 h).elim,fun _=>by repeat' (first | rfl | (rw [if_neg (by assumption)]))⟩
theorem utfL_low {c:Int} (h:0≤c∧c<128):utfL c=[c]:=by unfold utfL; rw [if_pos h.2]
theorem r_esc2 (t:BA) (f:Nat) (hf:f≤3000000) (s:Int) (hs : -1≤s∧s≤116):zda_p2 (f:Int) s=some (if s<0 then (0,⟨#[]⟩,33,(f:Int),[]) else (((f+2:Nat):Int),qBe [s],0,0,[])):=by
 unfold zda_p2;by_cases h:s<0
 ·rw [deT h,cnT,if_pos h];rfl
 ·rw [deF h,cnF,if_neg h,qAb (by unfold qAf; omega),qCr (by omega)];rfl
theorem r_esc (t:BA) (hs:t.size≤3000000) (f:Nat) (hf:f<t.size):∃g,zda_s t (f:Int)=some g∧saysG (fun u=>qBe (utfL u)) g (escR t f):=by
 unfold zda_s;rw [qAb (by unfold qAf; omega),show (f:Int)+1=((f+1:Nat):Int) by omega,r_at,obS];have hr:=qCv t (f+1:Nat);by_cases h1:bAt t (f+1:Nat) = -1
 ·rw [deT h1,cnT];refine ⟨_,rfl,?_⟩;unfold escR;rw [if_pos (by omega)];exact ⟨rfl,rfl,by decide⟩
 ·rw [deF h1,cnF];have fin:∀(x:Bool),(x=true↔bAt t (f+1:Nat)=34∨bAt t (f+1:Nat)=92∨bAt t (f+1:Nat)=47)→∃g,((zda_p0 t (f:Int) (bAt t (f+1:Nat)) (-1:Int) (bAt t (f+1:Nat)) x).bind fun o20=>(Sum.elim (fun (o20_0:Int) =>
    (zda_p2 (f:Int) o20_0).bind fun o22 =>
    some (⟨o22.1,o22.2.2.2.2,o22.2.1,o22.2.2.1,o22.2.2.2.1⟩:qHs)) (fun (o20_1:Int × BA × Int × Int × (List Eng.Node)) =>
    some (⟨o20_1.1,o20_1.2.2.2.2,o20_1.2.1,o20_1.2.2.1,o20_1.2.2.2.1⟩:qHs))) o20)=some g∧saysG (fun u=>qBe (utfL u)) g (escR t f):=by
   intro x hx;obtain ⟨o,ho,h2,h3⟩:=r_esc0 t hs f hf _ rfl (by omega) x hx;rw [ho,obS];by_cases h4:bAt t (f+1:Nat)=117
   ·obtain ⟨g,rfl,hg⟩:=h2 h4;exact ⟨g,rfl,hg⟩
   ·rw [h3 h4];have hsr:=saidS_range (bAt t (f+1:Nat));simp only [Sum.elim_inl];rw [r_esc2 t f (by omega) _ hsr,obS];unfold escR;rw [if_neg (show ¬bAt t (f+1:Nat)<0 by omega),if_neg h4];by_cases h5:saidS (bAt t (f+1:Nat))<0
    ·rw [if_pos h5,if_pos h5];exact ⟨_,rfl,rfl,rfl,by decide⟩
    ·rw [if_neg h5,if_neg h5];refine ⟨_,rfl,?_⟩;show _=(⟨((f+2:Nat):Int),[],qBe (utfL (saidS (bAt t (f+1:Nat)))),0,0⟩:qHs);rw [utfL_low (c:=saidS (bAt t (f+1:Nat))) (by omega)]
  by_cases h2:bAt t (f+1:Nat)=34
  ·rw [deT h2,cnT];exact fin true ⟨fun _=>.inl h2,fun _=>rfl⟩
  ·rw [deF h2,cnF];by_cases h3:bAt t (f+1:Nat)=92
   ·rw [deT h3,cnT];exact fin true ⟨fun _=>.inr (.inl h3),fun _=>rfl⟩
   ·rw [deF h3,cnF];exact fin _ (by rw [decide_eq_true_eq]; omega)
theorem escR_code {t:BA} {a b:Nat} {c:Int} (h:escR t a=.bad c b):c=31∨c=33:=by
 unfold escR at h;split at h
 ·cases h; exact .inl rfl
 ·split at h
  ·split at h
   ·rename_i h2;cases h;exact qG7 h2
   ·split at h
    ·cases h
    ·unfold pairR at h;split at h
     ·cases h; exact .inl rfl
     ·split at h
      ·cases h; exact .inr rfl
      ·split at h
       ·cases h; exact .inl rfl
       ·split at h
        ·cases h; exact .inr rfl
        ·split at h
         ·rename_i h2;cases h;exact qG7 h2
         ·cases h
  ·split at h
   ·cases h; exact .inr rfl
   ·cases h
def saysQ (g:Int × BA × Int × Int × List Eng.Node) (r:Rd (List Int)):Prop:=match r with
 | .bad c b=>g.2.2.1=c∧g.2.2.2.1=(b:Int)∧c≠0
 | .ok b l=>g=((b:Int),qBe l,0,0,[])
theorem r_quo1 (b:List Int) (s:BA) (hb:b.length≤12000000) (hs:s.size≤3000000):zde_p1 b s 0=some (.inr (b++qB9 s)):=by
 unfold zde_p1;rw [deT rfl,Bool.not_true,cnF,qAb (by omega)]
theorem r_quo1b (b:List Int) (s:BA) {c:Int} (hc:c≠0):zde_p1 b s c=some (.inl ()):=by
 unfold zde_p1;rw [deF hc,Bool.not_false,cnT]
theorem one_byte {t:BA} {a:Nat} (ha:a<t.size):qB9 (t.extract a (a+1))=[bAt t a]:=by
 have h1:(qB9 (t.extract a (a+1))).length=1:=by
  unfold qB9;rw [List.length_map,Array.length_toList];show (t.extract a (a+1)).size=1;rw [ByteArray.size_extract];omega
 have h2:=bytesL_cons (s:=t.extract a (a+1)) (i:=0) (by rw [ByteArray.size_extract]; omega);rw [List.drop_zero] at h2;rw [h2] at h1 ⊢;rw [show ((0:Nat):Int)=0 from rfl,qA8 t a (a+1) 0 (by omega) (by omega)];rw [List.length_cons] at h1;have:(qB9 (t.extract a (a+1))).drop (0+1)=[]:=List.eq_nil_of_length_eq_zero (by omega);rw [this];congr 2
theorem r_quo0 (t:BA) (hs:t.size≤3000000):∀(n a:Nat) (acc:List Int),t.size - a<n→a≤t.size→acc.length≤4*a→∃g,zde_p0 t (a:Int) acc=some g∧saysQ g (quoR t n a acc)
 | 0,a,acc,h,_,_=>by omega
 | n+1,a,acc,h,ha,hacc=>by
  have hst:∀ {x},qBx t (a:Int) acc=some (.inr x)→zde_p0 t (a:Int) acc=some x:=fun h=>qAi h
  have hnx:∀ {b:Nat} {acc':List Int},qBx t (a:Int) acc=some (.inl ((b:Int),acc'))→zde_p0 t (a:Int) acc=zde_p0 t (b:Int) acc':=fun h=>qAr h
  have hb:=qCv t a;unfold quoR;by_cases h1:bAt t a<32
  ·rw [if_pos h1];refine ⟨(0,⟨#[]⟩,31,(a:Int),[]),hst ?_,?_⟩
   ·unfold qBx;rw [r_at,obS,deT h1,cnT];rfl
   ·exact ⟨rfl,rfl,by decide⟩
  ·have hl:=bAt_lt (t:=t) (a:=a) (by omega);rw [if_neg h1];by_cases h2:bAt t a=34
   ·rw [if_pos h2];refine ⟨(((a+1:Nat):Int),qBe acc,0,0,[]),hst ?_,?_⟩
    ·unfold qBx;rw [r_at,obS,deF h1,cnF,deT h2,cnT,qAb (by unfold qAf; omega)];rfl
    ·rfl
   ·rw [if_neg h2];by_cases h3:bAt t a=92
    ·rw [if_pos h3];obtain ⟨g,hg,hg2⟩:=r_esc t hs a hl;cases h4:escR t a with
     | bad c b =>
      rw [h4] at hg2;obtain ⟨e1,e2,e3⟩:=hg2;refine ⟨(g.at_,g.s,g.code,g.bad,g.l),hst ?_,?_⟩
      ·unfold qBx;rw [r_at,obS,deF h1,cnF,deF h2,cnF,deT h3,cnT,hg,obS,r_quo1b _ _ (by rw [e1]; exact e3)];rfl
      ·exact ⟨e1,e2,e3⟩
     | ok b u =>
      rw [h4] at hg2;have hg2:g=⟨(b:Int),[],qBe (utfL u),0,0⟩:=hg2;have h5:=escR_ok h4;have h6:=utfL_len u;have hsz:(qBe (utfL u)).size≤4:=by
       rw [bytesI_eq];show ((utfL u).map _).toArray.size≤4;simp only [List.size_toArray,List.length_map];exact h6.2
      dsimp only;rw [hnx (b:=b) (acc':=acc++utfL u) (by
       unfold qBx;rw [r_at,obS,deF h1,cnF,deF h2,cnF,deT h3,cnT,hg,obS,hg2];dsimp only;rw [r_quo1 _ _ (by omega) (by omega),bytesL_of' (utfL_range h5.2.2)];rfl)]
      exact r_quo0 t hs n b (acc++utfL u) (by omega) (by omega) (by rw [List.length_append]; omega)
    ·rw [if_neg h3];by_cases h4:bAt t a<128
     ·rw [if_pos h4,hnx (b:=a+1) (acc':=acc++[bAt t a]) (by
       unfold qBx;rw [r_at,obS,deF h1,cnF,deF h2,cnF,deF h3,cnF,deT h4,cnT,qAb (by unfold qAf; omega),qAb (by unfold qAf; omega),qAb (by omega),show (a:Int)+1=((a+1:Nat):Int) by omega,Int.toNat_natCast,Int.toNat_natCast,r_quo1 _ _ (by omega) (ext_le t a (a+1) hs),one_byte hl];rfl)]
      exact r_quo0 t hs n (a+1) (acc++[bAt t a]) (by omega) (by omega) (by rw [List.length_append,List.length_singleton]; omega)
     ·rw [if_neg h4];have h8:128≤by8 t a:=by have:=by8_in hl; omega
      have hq:=p_seq hl hs h8;have hkc:=seqK_cases t a;by_cases h5:seqK t a=0
      ·have hw:=seqW_in hl h8 h5;rw [if_pos h5] at hq ⊢;rw [hnx (b:=a+seqW t a) (acc':=acc++qB9 (t.extract a (a+seqW t a))) (by
        unfold qBx;rw [r_at,obS,deF h1,cnF,deF h2,cnF,deF h3,cnF,deF h4,cnF,hq,obS];dsimp only;rw [r_quo1 _ _ (by omega) (ext_le t a _ hs)];rfl)]
       have h9:(qB9 (t.extract a (a+seqW t a))).length≤4:=by
        unfold qB9;rw [List.length_map,Array.length_toList];show (t.extract a (a+seqW t a)).size≤4;rw [ByteArray.size_extract];omega
       exact r_quo0 t hs n (a+seqW t a) _ (by omega) (by omega) (by rw [List.length_append]; omega)
      ·rw [if_neg h5] at hq ⊢;refine ⟨(0,⟨#[]⟩,seqK t a,if seqK t a=31 then (t.size:Int) else (a:Int),[]),hst ?_,?_⟩
       ·unfold qBx;rw [r_at,obS,deF h1,cnF,deF h2,cnF,deF h3,cnF,deF h4,cnF,hq,obS];dsimp only;rw [r_quo1b _ _ h5];rfl
       ·refine ⟨rfl,?_,h5⟩;show (if seqK t a=31 then (t.size:Int) else (a:Int))=_;split <;> rfl
theorem r_quo (t:BA) (hs:t.size≤3000000) (a:Nat) (ha:a≤t.size):∃g,zde_s t (a:Int)=some g∧saysG qBe g (quoR t (t.size+1) a []):=by
 obtain ⟨g,h1,h2⟩:=r_quo0 t hs (t.size+1) a [] (by omega) ha (by simp);unfold zde_s;rw [h1,obS];refine ⟨_,rfl,?_⟩;cases h:quoR t (t.size+1) a [] with
 | bad c b =>
  rw [h] at h2;exact h2
 | ok b l =>
  rw [h] at h2;have h2:g=((b:Int),qBe l,0,0,[]):=h2;rw [h2];rfl
theorem quoR_code {t:BA}:∀ {n a b:Nat} {acc:List Int} {c:Int},quoR t n a acc=.bad c b→c=31∨c=32∨c=33
 | 0,_,_,_,_,h=>by cases h; exact .inl rfl
 | n+1,a,b,acc,c,h=>by
  unfold quoR at h;split at h
  ·cases h; exact .inl rfl
  ·split at h
   ·cases h
   ·split at h
    ·split at h
     ·rename_i h2;cases h;rcases escR_code h2 with h3 | h3
      ·exact .inl h3
      ·exact .inr (.inr h3)
     ·exact quoR_code h
    ·split at h
     ·exact quoR_code h
     ·split at h
      ·exact quoR_code h
      ·rename_i h5;have:=seqK_cases t a;simp only [Rd.bad.injEq] at h;omega
end Go.Proofs.YtpobbbpphnnnhaaGreatDoor
