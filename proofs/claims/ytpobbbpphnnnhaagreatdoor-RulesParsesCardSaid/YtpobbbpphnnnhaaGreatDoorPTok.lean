/-
  Texts of a claim.
-/
import Derived.Test.YtpobbbpphnnnhaaGreatDoorPLexQ
import Derived.Test.YtpobbbpphnnnhaaGreatDoorJP
namespace Go.Proofs.YtpobbbpphnnnhaaGreatDoor
open Go.Eng
set_option linter.unusedVariables false
set_option linter.unusedSimpArgs false
variable (st:Int) (out:List Eng.Node) (op:List Int) (nm:List (MapC × Unit)) (key:BA) (cd bd:Int)
def nextC (t:BA) (a:Nat):Int:=if a<t.size then bAt t a else 0
theorem p_next (t:BA) (a:Nat):zan_s ⟨t,(a:Int),st,out,op,nm,key,cd,bd⟩=some (nextC t a):=by
 unfold zan_s nextC;dsimp only;by_cases h:a<t.size
 ·rw [deT (by omega),cnT,qAb (by omega),if_pos h]
 ·rw [deF (by omega),cnF,if_neg h]
theorem p_odd (r:json_reader):zao_s r=some (⟨r.text,r.at_,r.state,r.out,r.open_,r.names,r.key,31,r.at_⟩,false):=rfl
theorem p_behind (r:json_reader):zai_s r=some ⟨r.text,r.at_,if r.open_.length=0 then 6 else 5,r.out,r.open_,r.names,r.key,r.code,r.bad⟩:=by
 unfold zai_s;by_cases h:r.open_.length=0
 ·rw [deT (by omega),cnT,if_pos h]
 ·rw [deF (by omega),cnF,if_neg h]
theorem p_blank0 (t:BA) (hs:t.size≤3000000) (a:Nat):zaj_p0 t (a:Int)=some (qAq t a:Int):=by
 have hst:qFx t (a:Int)=some (if qBr (bAt t a)=true then .inl ((a+1:Nat):Int) else .inr (a:Int)):=by
  unfold qFx;have h:(decide ((a:Int)<(t.size:Int)))=true→0≤(a:Int)∧(a:Int)<t.size:=fun h=>⟨by omega,of_decide_eq_true h⟩
  rw [qAb h,qAb (fun _=>h),qAb (fun _=>h),qAb (fun _=>h),blank_cond];cases hb:qBr (bAt t a) with
  | true =>
   have:=qBn hb;rw [cnT,if_pos rfl,qAb (by unfold qAf; omega)];rfl
  | false=>rw [cnF,if_neg (by simp)]
 unfold zaj_p0;by_cases h:qBr (bAt t a)=true
 ·rw [if_pos h] at hst;rw [qAr hst,qFu h];exact p_blank0 t hs (a+1)
 ·rw [if_neg h] at hst;rw [qAi hst,qFc (by simpa using h)]
termination_by t.size - a
decreasing_by have:=qBn h; omega
theorem p_blank (t:BA) (hs:t.size≤3000000) (a:Nat):zaj_s ⟨t,(a:Int),st,out,op,nm,key,cd,bd⟩=some ⟨t,(qAq t a:Int),st,out,op,nm,key,cd,bd⟩:=by
 unfold zaj_s;dsimp only;rw [p_blank0 t hs];rfl
theorem j_digit (c:Int) (h:0≤c∧c≤255):zah_s c=some (if hexS c<0 then (0,false) else (hexS c,true)):=by
 unfold zah_s hexS;rw [qCs (p:=48≤c∧c≤57) (by simp),qCs (p:=97≤c∧c≤102) (by simp),qCs (p:=65≤c∧c≤70) (by simp)];by_cases h1:48≤c∧c≤57
 ·rw [if_pos h1,if_pos h1,qCr (by omega),qAb (by unfold qCu; omega),if_neg (by omega)]
 ·rw [if_neg h1,if_neg h1];by_cases h2:97≤c∧c≤102
  ·rw [if_pos h2,if_pos h2,qCr (by omega),qAb (by unfold qCu; omega),qAb (by unfold qCu; omega),if_neg (by omega)]
  ·rw [if_neg h2,if_neg h2];by_cases h3:65≤c∧c≤70
   ·rw [if_pos h3,if_pos h3,qCr (by omega),qAb (by unfold qCu; omega),qAb (by unfold qCu; omega),if_neg (by omega)]
   ·rw [if_neg h3,if_neg h3,if_pos (by decide)]
theorem or_low {u d:Int} (hu:0≤u∧u≤100000) (hd:0≤d∧d<16):qBy .i32 (u*16) d=16*u+d:=by
 obtain ⟨n,rfl⟩:=Int.eq_ofNat_of_zero_le hu.1;obtain ⟨m,rfl⟩:=Int.eq_ofNat_of_zero_le hd.1;rw [show (n:Int)*16=((2 ^ 4*n:Nat):Int) by omega];have h1:(BitVec.ofInt 32 ((2 ^ 4*n:Nat):Int)).toNat=2 ^ 4*n:=by
  rw [BitVec.ofInt_natCast,BitVec.toNat_ofNat,Nat.mod_eq_of_lt (by omega)]
 have h2:(BitVec.ofInt 32 (m:Int)).toNat=m:=by
  rw [BitVec.ofInt_natCast,BitVec.toNat_ofNat,Nat.mod_eq_of_lt (by omega)]
 unfold qBy;show IntKind.i32.wrap ((BitVec.ofInt 32 ((2 ^ 4*n:Nat):Int) ||| BitVec.ofInt 32 (m:Int)).toNat:Int)=_
 have h3:=Nat.two_pow_add_eq_or_of_lt (i:=4) (b:=m) (by omega) n;rw [BitVec.toNat_or,h1,h2,←h3];unfold IntKind.wrap;have h4:(((2 ^ 4*n+m:Nat):Int) % (2 ^ IntKind.i32.bits:Int))=((2 ^ 4*n+m:Nat):Int):=by
  show (((2 ^ 4*n+m:Nat):Int) % 4294967296)=_;omega
 dsimp only;rw [h4,if_neg (by
  simp only [Bool.and_eq_true,decide_eq_true_eq,not_and];intro _;show ¬(((2 ^ 4*n+m:Nat):Int)≥2147483648);omega)]
 omega
theorem p_unit1 (t:BA) (a f:Int) (x:Bool):zat_p1 f x t a st key cd bd out op nm=some (if x=true then .inl (0,false,t,a,st,key,33,f,nm) else .inr ()):=by
 unfold zat_p1;cases x with
 | true=>rfl
 | false=>rfl
theorem p_unit0 (t:BA) (hs:t.size≤3000000) (low:Bool) (f a:Nat):∀(m i:Nat) (u:Int),i+m=4→a+i≤t.size→0≤u∧u<16 ^ i→∃e:Int,zat_p0 (f:Int) low u (i:Int) t ((a+i:Nat):Int) st key cd bd out op nm=some (match qFo t low f m i (a+i) u with
  | .bad c b=>.inl (0,false,t,e,st,key,c,(b:Int),nm)
  | .ok b w=>.inr (w,(b:Int)))
 | 0,i,u,h,ha,hu=>by
  refine ⟨0,?_⟩;unfold zat_p0;refine qAi ?_;show qCd (f:Int) low u (i:Int) t ((a+i:Nat):Int) st key cd bd out op nm=_;unfold qCd;rw [deF (by omega),cnF];rfl
 | m+1,i,u,h,ha,hu=>by
  have e1:∀ {x},qCd (f:Int) low u (i:Int) t ((a+i:Nat):Int) st key cd bd out op nm=some (.inr x)→zat_p0 (f:Int) low u (i:Int) t ((a+i:Nat):Int) st key cd bd out op nm=some x:=fun h=>qAi h
  have e2:∀ {u' i' a':Int},qCd (f:Int) low u (i:Int) t ((a+i:Nat):Int) st key cd bd out op nm=some (.inl (u',i',a'))→zat_p0 (f:Int) low u (i:Int) t ((a+i:Nat):Int) st key cd bd out op nm=zat_p0 (f:Int) low u' i' t a' st key cd bd out op nm:=fun h=>qAr h
  have hp:(16:Int) ^ i≤16 ^ 3:=by
   have:i=0∨i=1∨i=2∨i=3:=by omega
   rcases this with h | h | h | h <;> subst h <;> decide
  have hp':(16:Int) ^ (i+1)=16 ^ i*16:=Int.pow_succ 16 i;unfold qFo;by_cases h1:a+i=t.size
  ·have hb:bAt t (a+i:Nat) = -1:=qBm (by omega);rw [if_pos (by omega)];refine ⟨((a+i:Nat):Int),e1 ?_⟩;unfold qCd;rw [deT (by omega),cnT,deT (by omega),cnT,p_odd,obS];rw [h1]
  ·have hb:=bAt_nn (s:=t) (i:=(a+i:Nat)) (by omega) (by omega);have hb':=qCv t (a+i:Nat);have hd:=qFf (bAt t (a+i:Nat));rw [if_neg (by omega)];have hst:qCd (f:Int) low u (i:Int) t ((a+i:Nat):Int) st key cd bd out op nm=some (if qD0 low i u (hexS (bAt t (a+i:Nat))) then .inr (.inl (0,false,t,((a+i:Nat):Int),st,key,33,(f:Int),nm)) else .inl (16*u+hexS (bAt t (a+i:Nat)),((i+1:Nat):Int),((a+(i+1):Nat):Int))):=by
    unfold qCd;rw [deT (by omega),cnT,deF (by omega),cnF,qAb (by omega),j_digit _ (by omega),obS];generalize hexS (bAt t (a+i:Nat))=d at *
    have e0:decide ((i:Int)=0)=decide (i=0):=decide_eq_decide.2 (by omega);have e1:decide ((i:Int)=1)=decide (i=1):=decide_eq_decide.2 (by omega);have ec:(a+i:Nat)+(1:Int)=((a+(i+1):Nat):Int):=by omega
    by_cases h2:d<0
    ·rw [if_pos h2];dsimp only;rw [Bool.not_false,cnT,p_unit1,if_pos (show true=true from rfl),if_pos (by unfold qD0; exact .inl h2)];rfl
    ·rw [if_neg h2];dsimp only;rw [Bool.not_true,cnF,e0,e1];have tail:((gd (0≤(4:Int)) <| gd (qCu (u*16)) <| gd (qAf (((a+i:Nat):Int)+(1:Int))) <| gd (qAf ((i:Int)+(1:Int))) <|
      some (Sum.inl ((qBy .i32 (u*16) d),((i:Int)+(1:Int)),(((a+i:Nat):Int)+(1:Int))))):Option ((Int × Int × Int) ⊕ ((Int × Bool × BA × Int × Int × BA × Int × Int × (List (MapC × Unit))) ⊕ (Int × Int))))=some (.inl (16*u+d,((i+1:Nat):Int),((a+(i+1):Nat):Int))):=by
      rw [qAb (by omega),qAb (by unfold qCu; omega),qAb (by unfold qAf; omega),qAb (by unfold qAf; omega),or_low (by omega) (by omega),ec];rfl
     rw [qCs (p:=low=true∧i=0∧d≠13) (by
      simp only [Bool.and_eq_true,Bool.not_eq_true',decide_eq_true_eq,decide_eq_false_iff_not];constructor
      ·rintro ⟨⟨x1,x2⟩,x3⟩; exact ⟨x2,x1,x3⟩
      ·rintro ⟨x1,x2,x3⟩; exact ⟨⟨x2,x1⟩,x3⟩)]
     by_cases h3:low=true∧i=0∧d≠13
     ·rw [if_pos h3,deT h3.2.1,h3.1,deF h3.2.2];show ((zat_p1 (f:Int) true t ((a+i:Nat):Int) st key cd bd out op nm).bind _)=_;rw [p_unit1,if_pos (show true=true from rfl),if_pos (by unfold qD0; exact .inr (.inl ⟨rfl,.inl h3.2⟩))];rfl
     ·rw [if_neg h3,qCs (p:=low=true∧i=1∧d<12) (by
       simp only [Bool.and_eq_true,Bool.not_eq_true',decide_eq_true_eq,decide_eq_false_iff_not];constructor
       ·rintro ⟨⟨x1,x2⟩,x3⟩; exact ⟨x2,x1,x3⟩
       ·rintro ⟨x1,x2,x3⟩; exact ⟨⟨x2,x1⟩,x3⟩)]
      by_cases h4:low=true∧i=1∧d<12
      ·rw [if_pos h4,deT h4.2.1,h4.1,deT h4.2.2];show ((zat_p1 (f:Int) true t ((a+i:Nat):Int) st key cd bd out op nm).bind _)=_;rw [p_unit1,if_pos (show true=true from rfl),if_pos (by unfold qD0; exact .inr (.inl ⟨rfl,.inr h4.2⟩))];rfl
      ·rw [if_neg h4,p_unit1,obS];by_cases h5:low=false∧i=1∧u=13∧12≤d
       ·rw [if_pos (by rw [h5.1,deT h5.2.1,deT h5.2.2.1,deT h5.2.2.2]; rfl),if_pos (by unfold qD0; exact .inr (.inr h5))];rfl
       ·rw [if_neg (by
         intro h6;simp only [Bool.and_eq_true,Bool.not_eq_true',decide_eq_true_eq] at h6;exact h5 ⟨h6.1.1.2,h6.1.1.1,h6.1.2,h6.2⟩),if_neg (by
         unfold qD0;rintro (h6 | ⟨h6,h7 | h7⟩ | h6)
         ·exact h2 h6
         ·exact h3 ⟨h6,h7⟩
         ·exact h4 ⟨h6,h7⟩
         ·exact h5 h6)]
        exact tail
   by_cases h3:qD0 low i u (hexS (bAt t (a+i:Nat)))
   ·rw [if_pos h3] at hst ⊢;exact ⟨_,e1 hst⟩
   ·rw [if_neg h3] at hst ⊢;have h0:0≤hexS (bAt t (a+i:Nat)):=by
     unfold qD0 at h3;simp only [not_or] at h3;omega
    rw [e2 hst];exact p_unit0 t hs low f a m (i+1) _ (by omega) (by omega) (by omega)
def unitP (t:BA) (e:Int) (r:Rd Int):json_reader × Int × Bool:=match r with
 | .bad c b=>(⟨t,e,st,out,op,nm,key,c,(b:Int)⟩,0,false)
 | .ok b u=>(⟨t,(b:Int),st,out,op,nm,key,cd,bd⟩,u,true)
theorem p_unit (t:BA) (hs:t.size≤3000000) (low:Bool) (f a:Nat) (ha:a≤t.size):∃e:Int,zat_s ⟨t,(a:Int),st,out,op,nm,key,cd,bd⟩ (f:Int) low=some (unitP st out op nm key cd bd t e (qFo t low f 4 0 a 0)):=by
 obtain ⟨e,he⟩:=p_unit0 st out op nm key cd bd t hs low f a 4 0 0 rfl (by omega) (by decide);refine ⟨e,?_⟩;unfold zat_s;rw [Nat.add_zero] at he;dsimp only;rw [show ((0:Nat):Int)=0 from rfl] at he;rw [he,obS];cases qFo t low f 4 0 a 0 with
 | bad c b=>rfl
 | ok b u=>rfl
theorem p_pt0 (t:BA) (hs:t.size≤3000000) (f a:Nat) (ha:a≤t.size):∃e:Int,zap_p0 (f:Int) 2 0 t (a:Int) st key cd bd out op nm [92,117]=some (
  if bAt t a<0 then .inl (0,false,t,e,st,key,31,(t.size:Int),nm)
  else if bAt t a≠92 then .inl (0,false,t,e,st,key,33,(f:Int),nm)
  else if bAt t (a+1:Nat)<0 then .inl (0,false,t,e,st,key,31,(t.size:Int),nm)
  else if bAt t (a+1:Nat)≠117 then .inl (0,false,t,e,st,key,33,(f:Int),nm)
  else .inr ((a+2:Nat):Int)):=by
 have e1:∀ {i b:Int} {x},qC2 (f:Int) 2 i t b st key cd bd out op nm [92,117]=some (.inr x)→zap_p0 (f:Int) 2 i t b st key cd bd out op nm [92,117]=some x:=fun h=>qAi h
 have e2:∀ {i b j b':Int},qC2 (f:Int) 2 i t b st key cd bd out op nm [92,117]=some (.inl (j,b'))→zap_p0 (f:Int) 2 i t b st key cd bd out op nm [92,117]=zap_p0 (f:Int) 2 j t b' st key cd bd out op nm [92,117]:=fun h=>qAr h
 have hst:∀i b:Nat,i<2→b≤t.size→qC2 (f:Int) 2 (i:Int) t (b:Int) st key cd bd out op nm [92,117]=some (if bAt t b<0 then .inr (.inl (0,false,t,(b:Int),st,key,31,(t.size:Int),nm))
   else if bAt t b≠(if i=0 then 92 else 117) then .inr (.inl (0,false,t,(b:Int),st,key,33,(f:Int),nm)) else .inl (((i+1:Nat):Int),((b+1:Nat):Int))):=by
  intro i b hi hb;unfold qC2;rw [deT (by omega),cnT,qAb (by simp only [List.length_cons,List.length_nil]; omega),qAb (by simp only [List.length_cons,List.length_nil]; omega),Int.toNat_natCast];have hg:([92,117]:List Int).getD i (ET.dft .u8)=if i=0 then 92 else 117:=by
   have:i=0∨i=1:=by omega
   rcases this with rfl | rfl <;> rfl
  rw [hg];by_cases h1:b=t.size
  ·have hb:bAt t b = -1:=qBm (by omega);rw [if_pos (show bAt t b<0 by omega),deT (show (b:Int)=t.size by omega),cnT,p_odd,obS];subst h1;rfl
  ·have hb:=bAt_nn (s:=t) (i:=b) (by omega) (by omega);rw [if_neg (show ¬bAt t b<0 by omega),deF (show ¬(b:Int)=t.size by omega),cnF,qAb (by omega)];by_cases h2:bAt t b=(if i=0 then 92 else 117)
   ·rw [deT h2,Bool.not_true,cnF,if_neg (fun h=>h h2),qAb (by unfold qAf; omega),qAb (by unfold qAf; omega)];rfl
   ·rw [deF h2,Bool.not_false,cnT,if_pos h2];rfl
 have h0:=hst 0 a (by decide) ha;rw [show ((0:Nat):Int)=0 from rfl,if_pos (show (0:Nat)=0 from rfl)] at h0;by_cases c0:bAt t a<0
 ·rw [if_pos c0] at h0;exact ⟨_,by rw [if_pos c0]; exact e1 h0⟩
 ·rw [if_neg c0] at h0;simp only [if_neg c0];by_cases c1:bAt t a≠92
  ·rw [if_pos c1] at h0;exact ⟨_,by rw [if_pos c1]; exact e1 h0⟩
  ·rw [if_neg c1] at h0;simp only [if_neg c1];have hl:=bAt_lt (t:=t) (a:=a) (by omega);have h1:=hst 1 (a+1) (by decide) (by omega);rw [if_neg (show ¬(1:Nat)=0 by decide)] at h1;rw [e2 h0];by_cases c2:bAt t (a+1:Nat)<0
   ·rw [if_pos c2] at h1;exact ⟨_,by rw [if_pos c2]; exact e1 h1⟩
   ·rw [if_neg c2] at h1;simp only [if_neg c2];by_cases c3:bAt t (a+1:Nat)≠117
    ·rw [if_pos c3] at h1;exact ⟨_,by rw [if_pos c3]; exact e1 h1⟩
    ·rw [if_neg c3] at h1;refine ⟨0,?_⟩;rw [if_neg c3];refine (e2 h1).trans (e1 ?_);unfold qC2;rfl
def saysP (t:BA) (g:json_reader × Int × Bool) (r:Rd Int):Prop:=match r with
 | .bad c b=>g.1.code=c∧g.1.bad=(b:Int)∧g.2.2=false
 | .ok b u=>g=(⟨t,(b:Int),st,out,op,nm,key,cd,bd⟩,u,true)
theorem p_point (t:BA) (hs:t.size≤3000000) (f:Nat) (hf:f+2≤t.size):∃g,zap_s ⟨t,((f+2:Nat):Int),st,out,op,nm,key,cd,bd⟩ (f:Int)=some g∧saysP st out op nm key cd bd t g (match qFo t false f 4 0 (f+2) 0 with
  | .bad c b=>.bad c b
  | .ok b u=>if u<55296∨57343<u then .ok b u else pairR t f b u):=by
 unfold zap_s;obtain ⟨e,he⟩:=p_unit st out op nm key cd bd t hs false f (f+2) hf;rw [he,obS];cases h7:qFo t false f 4 0 (f+2) 0 with
 | bad k b=>exact ⟨_,rfl,rfl,rfl,rfl⟩
 | ok b u =>
  have h8:=fourR_ok h7;have h10:=h8.2.2.2.2.2 rfl;show ∃g,(bif (((!true) || decide (u<55296)) || decide (57343<u)) then _ else _)=_∧_
  rw [qCs (p:=u<55296∨57343<u) (by simp)];dsimp only [unitP];by_cases h9:u<55296∨57343<u
  ·rw [if_pos h9,if_pos h9];exact ⟨_,rfl,rfl⟩
  ·rw [if_neg h9,if_neg h9,qAb (by decide)];obtain ⟨e,he⟩:=p_pt0 st out op nm key cd bd t hs f b h8.2.1;rw [show (([(92:Int),(117:Int)].length:Int))=2 from rfl,he,obS];unfold pairR;by_cases c0:bAt t b<0
   ·rw [if_pos c0,if_pos c0];exact ⟨_,rfl,rfl,rfl,rfl⟩
   rw [if_neg c0,if_neg c0];by_cases c1:bAt t b≠92
   ·rw [if_pos c1,if_pos c1];exact ⟨_,rfl,rfl,rfl,rfl⟩
   rw [if_neg c1,if_neg c1];by_cases c2:bAt t (b+1:Nat)<0
   ·rw [if_pos c2,if_pos c2];exact ⟨_,rfl,rfl,rfl,rfl⟩
   rw [if_neg c2,if_neg c2];by_cases c3:bAt t (b+1:Nat)≠117
   ·rw [if_pos c3,if_pos c3];exact ⟨_,rfl,rfl,rfl,rfl⟩
   rw [if_neg c3,if_neg c3];have hl2:=bAt_lt (t:=t) (a:=b+1) (by omega);simp only [Sum.elim_inr];obtain ⟨e2,he2⟩:=p_unit st out op nm key cd bd t hs true f (b+2) (by omega);rw [he2,obS];cases h11:qFo t true f 4 0 (b+2) 0 with
   | bad k e =>
    simp only [unitP];rw [qAb (by unfold qCu; omega),qAb (by omega),qAb (by unfold qCu; omega),qAb (by unfold qCu; omega),qAb (by unfold qCu; omega),qAb (by unfold qCu; omega)];exact ⟨_,rfl,rfl,rfl,rfl⟩
   | ok e w =>
    have h12:=fourR_ok h11;have h13:=h12.2.2.2.2.1 rfl;simp only [unitP];rw [qAb (by unfold qCu; omega),qAb (by omega),qAb (by unfold qCu; omega),qAb (by unfold qCu; omega),qAb (by unfold qCu; omega),qAb (by unfold qCu; omega)];refine ⟨_,rfl,?_⟩;simp only [saysP];rw [show (65536:Int)+(u - 55296)*1024+(w - 56320)=65536+1024*(u - 55296)+w - 56320 by omega]
theorem p_esc0 (c:Int) (a:Nat) (ha:a≤3000000):zak_p0 c 34 34 92 92 47 47 98 8 102 12 110 10 114 13 116 9 0 (a:Int)=some (if saidS c<0 then .inr () else .inl (saidS c,true,((a+1:Nat):Int))):=by
 have e1:∀ {i:Int} {x},qC1 c 34 34 92 92 47 47 98 8 102 12 110 10 114 13 116 9 i (a:Int)=some (.inr x)→zak_p0 c 34 34 92 92 47 47 98 8 102 12 110 10 114 13 116 9 i (a:Int)=some x:=fun h=>qAi h
 have e2:∀ {i j:Int},qC1 c 34 34 92 92 47 47 98 8 102 12 110 10 114 13 116 9 i (a:Int)=some (.inl j)→zak_p0 c 34 34 92 92 47 47 98 8 102 12 110 10 114 13 116 9 i (a:Int)=zak_p0 c 34 34 92 92 47 47 98 8 102 12 110 10 114 13 116 9 j (a:Int):=fun h=>qAr h
 have key:∀(n:Nat),n<8→∀(x y:Int),([34,34,92,92,47,47,98,8,102,12,110,10,114,13,116,9]:List Int).getD (n*2) 0=x→([34,34,92,92,47,47,98,8,102,12,110,10,114,13,116,9]:List Int).getD (n*2+1) 0=y→0≤y∧y<128 →
   qC1 c 34 34 92 92 47 47 98 8 102 12 110 10 114 13 116 9 (n:Int) (a:Int)=some (if c=x then .inr (.inl (y,true,((a+1:Nat):Int))) else .inl ((n+1:Nat):Int)):=by
  intro n hn x y hx hy hr;unfold qC1;rw [deT (by omega),cnT,qAb (by omega),Int.toNat_natCast,Nat.add_zero,hx,hy];by_cases h:c=x
  ·rw [deT h,cnT,if_pos h,qAb (by unfold qAf; omega),qAb (by unfold qCu; omega)];rfl
  ·rw [deF h,cnF,if_neg h,qAb (by unfold qAf; omega)];rfl
 have k0:=key 0 (by decide) 34 34 rfl rfl (by decide);have k1:=key 1 (by decide) 92 92 rfl rfl (by decide);have k2:=key 2 (by decide) 47 47 rfl rfl (by decide);have k3:=key 3 (by decide) 98 8 rfl rfl (by decide);have k4:=key 4 (by decide) 102 12 rfl rfl (by decide);have k5:=key 5 (by decide) 110 10 rfl rfl (by decide);have k6:=key 6 (by decide) 114 13 rfl rfl (by decide);have k7:=key 7 (by decide) 116 9 rfl rfl (by decide);rw [show ((0:Nat):Int)=0 from rfl] at k0;unfold saidS;by_cases h0:c=34
 ·rw [if_pos h0] at k0;rw [e1 k0,h0]; rfl
 rw [if_neg h0] at k0;rw [e2 k0];by_cases h1:c=92
 ·rw [if_pos h1] at k1;rw [show ((0+1:Nat):Int)=((1:Nat):Int) from rfl,e1 k1,h1]; rfl
 rw [if_neg h1] at k1;rw [show ((0+1:Nat):Int)=((1:Nat):Int) from rfl,e2 k1];by_cases h2:c=47
 ·rw [if_pos h2] at k2;rw [show ((1+1:Nat):Int)=((2:Nat):Int) from rfl,e1 k2,h2]; rfl
 rw [if_neg h2] at k2;rw [show ((1+1:Nat):Int)=((2:Nat):Int) from rfl,e2 k2,if_neg (show ¬(c=34∨c=92∨c=47) by omega)];by_cases h3:c=98
 ·rw [if_pos h3] at k3;rw [show ((2+1:Nat):Int)=((3:Nat):Int) from rfl,e1 k3,h3]; rfl
 rw [if_neg h3] at k3;rw [show ((2+1:Nat):Int)=((3:Nat):Int) from rfl,e2 k3,if_neg h3];by_cases h4:c=102
 ·rw [if_pos h4] at k4;rw [show ((3+1:Nat):Int)=((4:Nat):Int) from rfl,e1 k4,h4]; rfl
 rw [if_neg h4] at k4;rw [show ((3+1:Nat):Int)=((4:Nat):Int) from rfl,e2 k4,if_neg h4];by_cases h5:c=110
 ·rw [if_pos h5] at k5;rw [show ((4+1:Nat):Int)=((5:Nat):Int) from rfl,e1 k5,h5]; rfl
 rw [if_neg h5] at k5;rw [show ((4+1:Nat):Int)=((5:Nat):Int) from rfl,e2 k5,if_neg h5];by_cases h6:c=114
 ·rw [if_pos h6] at k6;rw [show ((5+1:Nat):Int)=((6:Nat):Int) from rfl,e1 k6,h6]; rfl
 rw [if_neg h6] at k6;rw [show ((5+1:Nat):Int)=((6:Nat):Int) from rfl,e2 k6,if_neg h6];by_cases h7:c=116
 ·rw [if_pos h7] at k7;rw [show ((6+1:Nat):Int)=((7:Nat):Int) from rfl,e1 k7,h7]; rfl
 rw [if_neg h7] at k7;rw [show ((6+1:Nat):Int)=((7:Nat):Int) from rfl,e2 k7,if_neg h7,if_pos (by decide)];refine e1 ?_;unfold qC1;rfl
theorem p_esc (t:BA) (hs:t.size≤3000000) (f:Nat) (hf:f<t.size):∃g,zak_s ⟨t,(f:Int),st,out,op,nm,key,cd,bd⟩=some g∧saysP st out op nm key cd bd t g (escR t f):=by
 unfold zak_s escR;dsimp only;rw [qAb (by unfold qAf; omega),show (f:Int)+1=((f+1:Nat):Int) by omega,p_next,obS];by_cases h1:f+1=t.size
 ·rw [deT (by omega),cnT,if_pos (by rw [qBm (by omega)]; decide),p_odd];exact ⟨_,rfl,rfl,by show (((f+1:Nat)):Int)=(t.size:Int); omega,rfl⟩
 ·have hb:=bAt_nn (s:=t) (i:=(f+1:Nat)) (by omega) (by omega);have hn:nextC t (f+1)=bAt t (f+1:Nat):=by unfold nextC; rw [if_pos (by omega)]
  rw [deF (by omega),cnF,if_neg (by omega),hn];by_cases h2:bAt t (f+1:Nat)=117
  ·rw [deT h2,cnT,if_pos h2,qAb (by unfold qAf; omega),show ((f+1:Nat):Int)+1=((f+2:Nat):Int) by omega];obtain ⟨g,hg,hg2⟩:=p_point st out op nm key cd bd t hs f (by omega);rw [hg,obS];refine ⟨_,rfl,?_⟩;revert hg2;cases qFo t false f 4 0 (f+2) 0 with
   | bad c b=>exact fun h=>h
   | ok b u =>
    dsimp only;generalize (if u<55296∨57343<u then Rd.ok b u else pairR t f b u)=r
    intro h;cases r with
    | bad c b=>exact h
    | ok b u =>
     have h:g=_:=h;rw [h];rfl
  ·rw [deF h2,cnF,if_neg h2,p_esc0 _ _ (by omega),obS];by_cases h3:saidS (bAt t (f+1:Nat))<0
   ·rw [if_pos h3,if_pos h3];exact ⟨_,rfl,rfl,rfl,rfl⟩
   ·rw [if_neg h3,if_neg h3];exact ⟨_,rfl,rfl⟩
theorem or8_128 {y:Int} (h:0≤y∧y<64):qBy .u8 128 y=128+y:=by
 have key:∀n:Fin 64,qBy .u8 128 (n.val:Int)=128+(n.val:Int):=by decide +kernel
 have:=key ⟨y.toNat,by omega⟩;simpa [Int.toNat_of_nonneg h.1] using this
theorem or8_192 {y:Int} (h:0≤y∧y<32):qBy .u8 192 y=192+y:=by
 have key:∀n:Fin 32,qBy .u8 192 (n.val:Int)=192+(n.val:Int):=by decide +kernel
 have:=key ⟨y.toNat,by omega⟩;simpa [Int.toNat_of_nonneg h.1] using this
theorem or8_224 {y:Int} (h:0≤y∧y<16):qBy .u8 224 y=224+y:=by
 have key:∀n:Fin 16,qBy .u8 224 (n.val:Int)=224+(n.val:Int):=by decide +kernel
 have:=key ⟨y.toNat,by omega⟩;simpa [Int.toNat_of_nonneg h.1] using this
theorem or8_240 {y:Int} (h:0≤y∧y<8):qBy .u8 240 y=240+y:=by
 have key:∀n:Fin 8,qBy .u8 240 (n.val:Int)=240+(n.val:Int):=by decide +kernel
 have:=key ⟨y.toNat,by omega⟩;simpa [Int.toNat_of_nonneg h.1] using this
theorem and8_63 {y:Int} (h:0≤y∧y<256):qCw .u8 y 63=y % 64:=by
 have key:∀n:Fin 256,qCw .u8 (n.val:Int) 63=(n.val:Int) % 64:=by decide +kernel
 have:=key ⟨y.toNat,by omega⟩;simpa [Int.toNat_of_nonneg h.1] using this
theorem p_rune (p:List Int) (hp:p.length≤12000000) (u:Int) (hu:Code u):zdr_s p u=some (p++utfL u):=by
 unfold Code at hu;unfold zdr_s utfL;rw [show u % 4294967296=u by omega];by_cases h1:u<128
 ·rw [deT (by omega),cnT,if_pos h1,qAb (by simp only [List.length_cons,List.length_nil]; omega),qCr (by omega)]
 ·rw [deF (by omega),cnF,if_neg h1];unfold zds_s;rw [show u % 4294967296=u by omega];by_cases h2:u<2048
  ·rw [deT (by omega),cnT,if_pos h2,qAb (by omega),qAb (by simp only [List.length_cons,List.length_nil]; omega),qCr (x:=u / 64) (by omega),or8_192 (by omega),and8_63 (by omega),or8_128 (by omega),obS,show u % 256 % 64=u % 64 by omega]
  ·rw [deF (by omega),cnF,if_neg h2];have three:∀(x:Int),u<65536→zds_p0 u x true p=some (p++[224+u / 4096,128+u / 64 % 64,128+u % 64]):=by
    intro x h3;unfold zds_p0;rw [cnT,qAb (by omega),qAb (by omega),qAb (by simp only [List.length_cons,List.length_nil]; omega),qCr (x:=u / 4096) (by omega),or8_224 (by omega),and8_63 (by omega),and8_63 (by omega),or8_128 (by omega),or8_128 (by omega),show u % 256 % 64=u % 64 by omega,show u / 64 % 256 % 64=u / 64 % 64 by omega]
   by_cases h3:u<65536
   ·rw [if_pos h3];by_cases h4:u<55296
    ·rw [deT h4,cnT,three _ h3];rfl
    ·rw [deF h4,cnF,deT (by omega),deT (by omega),Bool.true_and,three _ h3];rfl
   ·rw [if_neg h3,deF (show ¬u<55296 by omega),cnF,deT (by omega),deF (by omega),Bool.true_and];unfold zds_p0;rw [cnF,deT (by omega),deT (by omega),Bool.true_and,cnT,qAb (by omega),qAb (by omega),qAb (by omega),qAb (by simp only [List.length_cons,List.length_nil]; omega),qCr (x:=u / 262144) (by omega),or8_240 (by omega),and8_63 (by omega),and8_63 (by omega),and8_63 (by omega),or8_128 (by omega),or8_128 (by omega),or8_128 (by omega),show u % 256 % 64=u % 64 by omega,show u / 64 % 256 % 64=u / 64 % 64 by omega,show u / 4096 % 256 % 64=u / 4096 % 64 by omega];rfl
end Go.Proofs.YtpobbbpphnnnhaaGreatDoor
namespace Go.Proofs.YtpobbbpphnnnhaaGreatDoor
open Go.Eng
set_option linter.unusedVariables false
set_option linter.unusedSimpArgs false
variable (st:Int) (out:List Eng.Node) (op:List Int) (nm:List (MapC × Unit)) (key:BA) (cd bd:Int)
theorem by8_out {t:BA} {i:Nat} (h:t.size≤i):by8 t i=0:=by
 unfold by8;cases t with
 | mk d =>
  have:ByteArray.get! ⟨d⟩ i=d[i]!:=rfl;rw [this,getElem!_neg d i (by show ¬i<d.size; exact Nat.not_lt.2 h)];rfl
theorem by8_tail (t:BA) (a i:Nat) (ha:a≤t.size):by8 (t.extract a t.size) i=by8 t (a+i):=by
 have hsz:(t.extract a t.size).size=t.size - a:=by rw [ByteArray.size_extract]; omega
 by_cases h:a+i<t.size
 ·have h1:=by8_in (t:=t.extract a t.size) (i:=i) (by omega);have h2:=by8_in h;rw [bAt_tail t a i (by omega)] at h1;rw [show ((a+i:Nat):Int)=(a:Int)+(i:Int) by omega] at h2;omega
 ·rw [by8_out (by omega),by8_out (by omega)]
theorem dec_tail (t:BA) (a:Nat) (ha:a<t.size):Lib.decodeGo (t.extract a t.size)=Utf8.decode t a:=by
 have hsz:(t.extract a t.size).size=t.size - a:=by rw [ByteArray.size_extract]; omega
 unfold Lib.decodeGo;rw [if_neg (by omega),Lib.decode_at,Lib.decode_at,hsz];have h0:=by8_tail t a 0 (by omega);have h1:=by8_tail t a 1 (by omega);have h2:=by8_tail t a 2 (by omega);have h3:=by8_tail t a 3 (by omega);unfold by8 at h0 h1 h2 h3;simp only [Nat.zero_add,Nat.add_zero,Nat.sub_zero] at *
 rw [h0,h1,h2,h3]
theorem full_tail (t:BA) (a:Nat) (ha:a<t.size):fullS (t.extract a t.size)=qGc (t.size - a) (by8 t a) (by8 t (a+1)) (by8 t (a+2)):=by
 have hsz:(t.extract a t.size).size=t.size - a:=by rw [ByteArray.size_extract]; omega
 have h0:=by8_tail t a 0 (by omega);have h1:=by8_tail t a 1 (by omega);have h2:=by8_tail t a 2 (by omega);unfold fullS;rw [hsz];unfold by8 at *
 simp only [Nat.add_zero] at *
 rw [h0,h1,h2]
theorem p_sq (t:BA) (hs:t.size≤3000000) (a:Nat) (ha:a<t.size) (h:128≤by8 t a):∃g,zar_s ⟨t,(a:Int),st,out,op,nm,key,cd,bd⟩=some g ∧
  (if seqK t a=0 then g=(⟨t,(a:Int),st,out,op,nm,key,cd,bd⟩,(seqW t a:Int),true) else g.1.code=seqK t a∧g.1.bad=(if seqK t a=31 then (t.size:Int) else (a:Int))∧g.2.2=false):=by
 obtain ⟨d1,d2⟩:=seq_dec ha h;have hc:=seqK_cases t a;unfold zar_s;dsimp only;rw [qAb (by omega),Int.toNat_natCast];unfold qBg;rw [obS,dec_tail t a ha];by_cases h0:seqK t a=0
 ·have hw:=seqW_in ha h h0;have e:=d1 h0;dsimp only;rw [e,qCs (p:=True) (by
   simp only [Bool.or_eq_true,decide_eq_true_eq,iff_true];right; omega),if_pos trivial]
  exact ⟨_,rfl,by rw [if_pos h0]⟩
 ·obtain ⟨e1,e2⟩:=d2 h0;rw [e1];show ∃g,(bif ((!decide ((65533:Int)=65533)) || decide ((1:Int)<1)) then _ else _)=_∧_
  rw [deT rfl,deF (by decide),Bool.not_true,Bool.or_false,cnF,qAb (by omega)];unfold qBz;rw [qAb (by rw [ByteArray.size_extract]; omega),obS,full_tail t a ha,e2];by_cases h1:seqK t a=31
  ·rw [deT h1,Bool.not_true,Bool.not_false,cnT];exact ⟨_,rfl,by rw [if_neg h0,if_pos h1]; exact ⟨h1.symm,rfl,rfl⟩⟩
  ·rw [deF h1,Bool.not_false,Bool.not_true,cnF];exact ⟨_,rfl,by rw [if_neg h0,if_neg h1]; exact ⟨by show (32:Int)=_; omega,rfl,rfl⟩⟩
def saysT (t:BA) (g:BA × Bool × BA × Int × Int × BA × Int × Int × (List (MapC × Unit))) (r:Rd (List Int)):Prop:=match r with
 | .bad c b=>g.2.1=false∧g.2.2.2.2.2.2.1=c∧g.2.2.2.2.2.2.2.1=(b:Int)
 | .ok b l=>g=(qBe l,true,t,(b:Int),st,key,cd,bd,nm)
theorem p_quo0 (t:BA) (hs:t.size≤3000000):∀(n a:Nat) (acc:List Int),t.size - a<n→a≤t.size→acc.length≤4*a→∃g,zaq_p0 t (a:Int) st key cd bd out op nm acc=some g∧saysT st nm key cd bd t g (quoR t n a acc)
 | 0,a,acc,h,_,_=>by omega
 | n+1,a,acc,h,ha,hacc=>by
  have hst:∀ {x},qBo t (a:Int) st key cd bd out op nm acc=some (.inr x)→zaq_p0 t (a:Int) st key cd bd out op nm acc=some x:=fun h=>qAi h
  have hnx:∀ {b:Nat} {acc':List Int},qBo t (a:Int) st key cd bd out op nm acc=some (.inl (t,(b:Int),st,key,cd,bd,nm,acc'))→zaq_p0 t (a:Int) st key cd bd out op nm acc=zaq_p0 t (b:Int) st key cd bd out op nm acc':=fun h=>qAr h
  have hb:=qCv t a;unfold quoR;by_cases hend:a=t.size
  ·have hb:bAt t a = -1:=qBm (by omega);rw [if_pos (show bAt t a<32 by omega)];refine ⟨((⟨#[]⟩:BA),false,t,(a:Int),st,key,31,(a:Int),nm),hst ?_,rfl,rfl,rfl⟩;unfold qBo;rw [deT (show (a:Int)=t.size by omega),cnT];rfl
  ·have hl:a<t.size:=by omega
   have hb0:=bAt_nn (s:=t) (i:=a) (by omega) (by omega);by_cases h2:bAt t a=34
   ·rw [if_neg (show ¬bAt t a<32 by omega),if_pos h2];refine ⟨(qBe acc,true,t,((a+1:Nat):Int),st,key,cd,bd,nm),hst ?_,rfl⟩;unfold qBo;rw [deF (show ¬(a:Int)=t.size by omega),cnF,qAb (by omega),deT h2,cnT,qAb (by unfold qAf; omega)];rfl
   ·by_cases h3:bAt t a=92
    ·rw [if_neg (show ¬bAt t a<32 by omega),if_neg h2,if_pos h3];obtain ⟨g,hg,hg2⟩:=p_esc st out op nm key cd bd t hs a hl;cases h4:escR t a with
     | bad c b =>
      rw [h4] at hg2;obtain ⟨e1,e2,e3⟩:=hg2;refine ⟨((⟨#[]⟩:BA),false,g.1.text,g.1.at_,g.1.state,g.1.key,g.1.code,g.1.bad,g.1.names),hst ?_,rfl,e1,e2⟩;unfold qBo;rw [deF (show ¬(a:Int)=t.size by omega),cnF,qAb (by omega),deF h2,cnF,deT h3,cnT,hg,obS,e3];rfl
     | ok b u =>
      rw [h4] at hg2;have hg2:g=(⟨t,(b:Int),st,out,op,nm,key,cd,bd⟩,u,true):=hg2;have h5:=escR_ok h4;have h6:=utfL_len u;dsimp only;rw [hnx (b:=b) (acc':=acc++utfL u) (by
       unfold qBo;rw [deF (show ¬(a:Int)=t.size by omega),cnF,qAb (by omega),deF h2,cnF,deT h3,cnT,hg,obS,hg2];dsimp only;rw [Bool.not_true,cnF,p_rune acc (by omega) u h5.2.2];rfl)]
      exact p_quo0 t hs n b (acc++utfL u) (by omega) (by omega) (by rw [List.length_append]; omega)
    ·by_cases h1:bAt t a<32
     ·rw [if_pos h1];refine ⟨((⟨#[]⟩:BA),false,t,(a:Int),st,key,31,(a:Int),nm),hst ?_,rfl,rfl,rfl⟩;unfold qBo;rw [deF (show ¬(a:Int)=t.size by omega),cnF,qAb (by omega),deF h2,cnF,deF h3,cnF,deT h1,cnT];rfl
     ·rw [if_neg h1,if_neg h2,if_neg h3];by_cases h4:bAt t a<128
      ·rw [if_pos h4,hnx (b:=a+1) (acc':=acc++[bAt t a]) (by
        unfold qBo;rw [deF (show ¬(a:Int)=t.size by omega),cnF,qAb (by omega),deF h2,cnF,deF h3,cnF,deF h1,cnF,deT h4,cnT,qAb (by simp only [List.length_cons,List.length_nil]; omega),qAb (by unfold qAf; omega)];rfl)]
       exact p_quo0 t hs n (a+1) (acc++[bAt t a]) (by omega) (by omega) (by rw [List.length_append,List.length_singleton]; omega)
      ·rw [if_neg h4];have h8:128≤by8 t a:=by have:=by8_in hl; omega
       obtain ⟨g,hg,hg2⟩:=p_sq st out op nm key cd bd t hs a hl h8;have hkc:=seqK_cases t a;by_cases h5:seqK t a=0
       ·have hw:=seqW_in hl h8 h5;rw [if_pos h5] at hg2 ⊢;have hsz:(t.extract a (a+seqW t a)).size≤4:=by rw [ByteArray.size_extract]; omega
        rw [hnx (b:=a+seqW t a) (acc':=acc++qB9 (t.extract a (a+seqW t a))) (by
         unfold qBo;rw [deF (show ¬(a:Int)=t.size by omega),cnF,qAb (by omega),deF h2,cnF,deF h3,cnF,deF h1,cnF,deF h4,cnF,hg,obS,hg2];dsimp only;rw [Bool.not_true,cnF,show (a:Int)+(seqW t a:Int)=((a+seqW t a:Nat):Int) by omega,qAb (by unfold qAf; omega),qAb (by omega),Int.toNat_natCast,Int.toNat_natCast,qAb (by omega),qAb (by unfold qAf; omega)])]
        have h9:(qB9 (t.extract a (a+seqW t a))).length≤4:=by
         unfold qB9;rw [List.length_map,Array.length_toList];exact hsz
        exact p_quo0 t hs n (a+seqW t a) _ (by omega) (by omega) (by rw [List.length_append]; omega)
       ·rw [if_neg h5] at hg2 ⊢;obtain ⟨e1,e2,e3⟩:=hg2;refine ⟨((⟨#[]⟩:BA),false,g.1.text,g.1.at_,g.1.state,g.1.key,g.1.code,g.1.bad,g.1.names),hst ?_,rfl,e1,?_⟩
        ·unfold qBo;rw [deF (show ¬(a:Int)=t.size by omega),cnF,qAb (by omega),deF h2,cnF,deF h3,cnF,deF h1,cnF,deF h4,cnF,hg,obS,e3];rfl
        ·rw [e2];split <;> rfl
def saysU (t:BA) (g:json_reader × BA × Bool) (r:Rd (List Int)):Prop:=match r with
 | .bad c b=>g.1.code=c∧g.1.bad=(b:Int)∧g.2.2=false
 | .ok b l=>g=(⟨t,(b:Int),st,out,op,nm,key,cd,bd⟩,qBe l,true)
theorem p_quo (t:BA) (hs:t.size≤3000000) (a:Nat) (ha:a<t.size):∃g,zaq_s ⟨t,(a:Int),st,out,op,nm,key,cd,bd⟩=some g∧saysU st out op nm key cd bd t g (quoR t (t.size+1) (a+1) []):=by
 obtain ⟨g,h1,h2⟩:=p_quo0 st out op nm key cd bd t hs (t.size+1) (a+1) [] (by omega) (by omega) (by simp);unfold zaq_s;dsimp only;rw [qAb (by unfold qAf; omega),show (a:Int)+1=((a+1:Nat):Int) by omega,h1,obS];refine ⟨_,rfl,?_⟩;cases h:quoR t (t.size+1) (a+1) [] with
 | bad c b =>
  rw [h] at h2;exact ⟨h2.2.1,h2.2.2,h2.1⟩
 | ok b l =>
  rw [h] at h2;have h2:g=(qBe l,true,t,(b:Int),st,key,cd,bd,nm):=h2;rw [h2];rfl
def bumpN (n:Eng.Node):Eng.Node:=⟨n.kind,n.key,n.text,n.whole,n.int,n.kids+1⟩
def setK (k:BA) (n:Eng.Node):Eng.Node:=⟨n.kind,k,n.text,n.whole,n.int,n.kids⟩
def upO (op:List Int) (out:List Eng.Node):List Eng.Node:=match op.getLast? with
 | none=>out
 | some p=>out.set p.toNat (bumpN (out.getD p.toNat (ET.dft .node)))
def TopOK (op:List Int) (out:List Eng.Node):Prop:=op=[]∨∃op' p,op=op'++[((p:Nat):Int)]∧p<out.length∧qAf ((out.getD p (ET.dft .node)).kids+1)
def layO (op:List Int) (out:List Eng.Node) (key:BA) (n:Eng.Node):List Eng.Node:=upO op out++[setK key n]
theorem last_snoc (op':List Int) (p:Int):(op'++[p]).getLast?=some p:=by simp
theorem snocI_toNat (op':List Int) (p:Int):Int.toNat (((op'++[p]).length:Int) - 1)=op'.length:=by
 rw [List.length_append,List.length_singleton];omega
theorem snocI_getD (op':List Int) (p d:Int):(op'++[p]).getD op'.length d=p:=by simp [List.getD_eq_getElem?_getD]
theorem p_lay (t:BA) (a:Int) (n:Eng.Node) (hop:TopOK op out) (ho:op.length≤100) (hl:out.length≤3000000):zam_s ⟨t,a,st,out,op,nm,key,cd,bd⟩ n=some ⟨t,a,st,layO op out key n,op,nm,⟨#[]⟩,cd,bd⟩:=by
 unfold zam_s;dsimp only;rcases hop with rfl | ⟨op',p,rfl,hp,hk⟩
 ·rw [deF (by simp),cnF,qAb (by simp only [List.length_cons,List.length_nil]; omega)];rfl
 ·have hlen:(op'++[(p:Int)]).length=op'.length+1:=by simp
  rw [hlen] at ho;rw [deT (by rw [hlen]; omega),cnT,snocI_toNat,snocI_getD,Int.toNat_natCast];rw [qAb (by rw [hlen]; unfold qAf; omega),qAb (by rw [hlen]; omega),qAb (by rw [hlen]; omega),qAb (by omega),qAb hp,qAb hp,qAb hk,qAb (by omega),qAb hp,qAb hp,qAb (by simp only [List.length_set,List.length_cons,List.length_nil]; omega)];unfold layO upO;rw [last_snoc];rfl
variable (hop:TopOK op out) (ho:op.length≤100) (hl:out.length≤3000000)
end Go.Proofs.YtpobbbpphnnnhaaGreatDoor
namespace Go.Proofs.YtpobbbpphnnnhaaGreatDoor
open Go.Eng
set_option linter.unusedVariables false
set_option linter.unusedSimpArgs false
def tokR (t:BA):(List Eng.Node) × Int × Int :=
 match quoR t (t.size+1) 1 [] with
 | .bad c b=>([],c,(b:Int))
 | .ok b l=>if qAq t b<t.size then ([],31,(qAq t b:Int)) else ([nd0 5 (qBe l) false 0 0],0,0)
theorem tok_cases (t:BA):(∃n,tokR t=([n],0,0))∨(∃l c b,tokR t=(l,c,b)∧c≠0):=by
 unfold tokR;cases h:quoR t (t.size+1) 1 [] with
 | bad c b=>exact .inr ⟨_,c,_,rfl,by rcases quoR_code h with h | h | h <;> rw [h] <;> decide⟩
 | ok b l =>
  dsimp only;split
  ·exact .inr ⟨_,31,_,rfl,by decide⟩
  ·exact .inl ⟨_,rfl⟩
theorem tok_in {t:BA} (h:bAt t 0=34):0<t.size∧qAq t 0=0:=by
 have h1:=qCx (s:=t) (i:=0) (by omega);refine ⟨by omega,qFc ?_⟩;rw [show ((0:Nat):Int)=0 from rfl,h];rfl
theorem r_tok {t:BA} (hs:t.size≤2000) (h:bAt t 0=34):zcw_s t=some (tokR t):=by
 obtain ⟨h0,hk⟩:=tok_in h;obtain ⟨g,h1,h2⟩:=r_quo t (by omega) 1 (by omega);have hv:zdh_s t ((0:Nat):Int) 0=some (bif decide (g.code=(0:Int)) then ⟨g.at_,[nd0 5 g.s false 0 0],g.s,g.code,g.bad⟩ else g):=by
  unfold zdh_s;rw [r_at,obS,show ((0:Nat):Int)=0 from rfl,h,deF (by decide),deF (by decide),Bool.or_false,cnF,deT rfl,cnT,qAb (by unfold qAf; omega),show (0:Int)+1=((1:Nat):Int) from rfl,h1,obS];cases decide (g.code=(0:Int)) <;> rfl
 unfold zcw_s tokR;rw [deF (by omega),cnF,show (0:Int)=((0:Nat):Int) from rfl,r_skip t (by omega),obS,hk,show ((0:Nat):Int)=0 from rfl,show zdh_s t (0:Int) 0=_ from hv,obS];cases hq:quoR t (t.size+1) 1 [] with
 | bad c b =>
  rw [hq] at h2;obtain ⟨f1,f2,f3⟩:=h2;have hc:¬g.code=0:=by rw [f1]; rcases quoR_code hq with h | h | h <;> rw [h] <;> decide
  rw [deF hc,cnF,deF hc,Bool.not_false,cnT,f1,f2]
 | ok b l =>
  rw [hq] at h2;have h2:g=⟨(b:Int),[],qBe l,0,0⟩:=h2;subst h2;dsimp only;rw [deT rfl,cnT];dsimp only;rw [deT rfl,Bool.not_true,cnF,r_skip t (by omega),obS];by_cases hl:qAq t b<t.size
  ·rw [deT (by omega),cnT,if_pos hl]
  ·rw [deF (by omega),cnF,if_neg hl]
theorem tok_next {t:BA} {a:Nat} (ha:a<t.size):nextC t a=bAt t a:=by unfold nextC; rw [if_pos ha]
theorem tok_first {t:BA} {i j:Nat} (h1:i<j) (h2:j≤t.size) (h:bAt t (i:Int)=34):bAt (t.extract i j) 0=34:=by
 rw [qA8 t i j 0 (by omega) (by omega),←h];congr 1
theorem tok_step {t:BA} {a:Nat} (ha:a<t.size) {out:List Eng.Node} {z:json_reader × Bool} (h:zau_s ⟨t,(a:Int),0,out,[],[],⟨#[]⟩,0,0⟩ (bAt t (a:Int))=some z) :
  zas_s ⟨t,(a:Int),0,out,[],[],⟨#[]⟩,0,0⟩=some (⟨z.1.text,z.1.at_,z.1.state,z.1.out,[],z.1.names,z.1.key,z.1.code,z.1.bad⟩,z.2):=by
 unfold zas_s;rw [p_next,obS,tok_next ha];dsimp only;rw [deF (by decide),cnF,deT rfl,cnT,h];rfl
theorem tok_done {t:BA} {a:Nat} (ha:a<t.size) {out:List Eng.Node}:zas_s ⟨t,(a:Int),6,out,[],[],⟨#[]⟩,0,0⟩=some (⟨t,(a:Int),6,out,[],[],⟨#[]⟩,31,(a:Int)⟩,false):=by
 unfold zas_s;rw [p_next,obS];dsimp only;rw [deF (by decide),cnF,deF (by decide),cnF,deF (by decide),cnF,deF (by decide),cnF,deF (by decide),cnF,deF (by decide),cnF,p_odd];rfl
theorem p_tok {t:BA} (hs:t.size≤2000) (h34:bAt t 0=34):zag_s t=some (tokR t):=by
 obtain ⟨h0,hk⟩:=tok_in h34;unfold zag_s tokR;rw [deF (by omega),cnF,show (0:Int)=((0:Nat):Int) from rfl,p_blank _ _ _ _ _ _ _ t (by omega),obS,hk];obtain ⟨g,h1,h2⟩:=p_quo 0 [] [] [] ⟨#[]⟩ 0 0 t (by omega) 0 h0;have e34:bAt t ((0:Nat):Int)=34:=h34;have hv:∀z,(bif g.2.2 then (
    (zam_s (⟨g.1.text,g.1.at_,g.1.state,[],[],g.1.names,g.1.key,g.1.code,g.1.bad⟩:json_reader) (nd0 5 g.2.1 false 0 0)).bind fun r9 =>
    (zai_s (⟨r9.text,r9.at_,r9.state,r9.out,[],r9.names,r9.key,r9.code,r9.bad⟩:json_reader)).bind fun r10 =>
    some ((⟨r10.text,r10.at_,r10.state,r9.out,[],r10.names,r10.key,r10.code,r10.bad⟩:json_reader),g.2.2))
   else some ((⟨g.1.text,g.1.at_,g.1.state,[],[],g.1.names,g.1.key,g.1.code,g.1.bad⟩:json_reader),g.2.2))=some z→zau_s ⟨t,((0:Nat):Int),0,[],[],[],⟨#[]⟩,0,0⟩ (bAt t ((0:Nat):Int))=some z:=fun z hz=>by
  unfold zau_s;rw [e34,deF (by decide),deF (by decide),Bool.or_false,cnF,deT rfl,cnT,h1,obS];exact hz
 unfold zag_p0;dsimp only;rw [show (1:Nat)=0+1 from rfl];cases hq:quoR t (t.size+1) (0+1) [] with
 | bad c b =>
  rw [hq] at h2;obtain ⟨f1,f2,f3⟩:=h2;rw [f3,cnF] at hv;have hst:=tok_step h0 (hv _ rfl);rw [qAi (o:=.inl (c,(b:Int),[])) (by
   show qB5 t t ((0:Nat):Int) 0 ⟨#[]⟩ 0 0 [] [] []=_;unfold qB5;rw [deT (by omega),cnT,hst,obS];dsimp only;rw [Bool.not_false,cnT,f1,f2])]
  rfl
 | ok b l =>
  rw [hq] at h2;have h2:g=(⟨t,(b:Int),0,[],[],[],⟨#[]⟩,0,0⟩,qBe l,true):=h2;subst h2;dsimp only at hv;rw [cnT,p_lay 0 [] [] [] ⟨#[]⟩ 0 0 t b _ (.inl rfl) (by simp) (by simp),obS,p_behind,obS] at hv;have hst:=tok_step h0 (hv _ rfl);rw [qAr (y:=(t,(qAq t b:Int),6,⟨#[]⟩,0,0,[nd0 5 (qBe l) false 0 0],[])) (by
   show qB5 t t ((0:Nat):Int) 0 ⟨#[]⟩ 0 0 [] [] []=_;unfold qB5;rw [deT (by omega),cnT,hst,obS];dsimp only;rw [Bool.not_true,cnF,p_blank _ _ _ _ _ _ _ t (by omega),obS];rfl)]
  dsimp only;by_cases hl:qAq t b<t.size
  ·rw [if_pos hl,qAi (o:=.inl (31,(qAq t b:Int),[])) (by
    show qB5 t t (qAq t b:Int) 6 ⟨#[]⟩ 0 0 [nd0 5 (qBe l) false 0 0] [] []=_;unfold qB5;rw [deT (by omega),cnT,tok_done hl,obS];rfl)]
   rfl
  ·rw [if_neg hl,qAi (o:=.inr (t,(qAq t b:Int),6,⟨#[]⟩,0,0,[nd0 5 (qBe l) false 0 0],[])) (by
    show qB5 t t (qAq t b:Int) 6 ⟨#[]⟩ 0 0 [nd0 5 (qBe l) false 0 0] [] []=_;unfold qB5;rw [deF (by omega),cnF])]
   rfl
end Go.Proofs.YtpobbbpphnnnhaaGreatDoor
