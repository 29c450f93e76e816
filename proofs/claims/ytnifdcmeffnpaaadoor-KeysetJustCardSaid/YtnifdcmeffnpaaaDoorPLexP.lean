/-
  Texts of a claim.
-/
import Derived.Test.YtnifdcmeffnpaaaDoorPLexQ
import Derived.Test.YtnifdcmeffnpaaaDoorJP
namespace Go.Proofs.YtnifdcmeffnpaaaDoor
open Go.Eng
set_option linter.unusedVariables false
set_option linter.unusedSimpArgs false
variable (st:Int) (out:List Eng.Node) (op:List Int) (nm:List (MapC × Unit)) (key:BA) (cd bd:Int)
def nextC (t:BA) (a:Nat):Int:=if a<t.size then bAt t a else 0
theorem qEr (t:BA) (a:Nat):zav_s ⟨t,(a:Int),st,out,op,nm,key,cd,bd⟩=some (nextC t a):=by
 unfold zav_s nextC;dsimp only;by_cases h:a<t.size
 ·rw [deT (by omega),cnT,qAa (by omega),if_pos h]
 ·rw [deF (by omega),cnF,if_neg h]
theorem qEc {t:BA} {a:Nat} {c:Int} (hc:0<c):nextC t a=c↔bAt t a=c:=by
 unfold nextC;split
 ·exact Iff.rfl
 ·rw [qB4 (by omega)];omega
theorem p_odd (r:json_reader):zax_s r=some (⟨r.text,r.at_,r.state,r.out,r.open_,r.names,r.key,31,r.at_⟩,false):=rfl
theorem p_fail (r:json_reader) (c b:Int):zaq_s r c b=some (⟨r.text,r.at_,r.state,r.out,r.open_,r.names,r.key,c,b⟩,false):=rfl
theorem p_behind (r:json_reader):zal_s r=some ⟨r.text,r.at_,if r.open_.length=0 then 6 else 5,r.out,r.open_,r.names,r.key,r.code,r.bad⟩:=by
 unfold zal_s;by_cases h:r.open_.length=0
 ·rw [deT (by omega),cnT,if_pos h]
 ·rw [deF (by omega),cnF,if_neg h]
theorem p_blank0 (t:BA) (hs:t.size≤3000000) (a:Nat):zam_p0 t (a:Int)=some (qA0 t a:Int):=by
 have hst:qEz t (a:Int)=some (if qDi (bAt t a)=true then .inl ((a+1:Nat):Int) else .inr (a:Int)):=by
  unfold qEz;have h:(decide ((a:Int)<(t.size:Int)))=true→0≤(a:Int)∧(a:Int)<t.size:=fun h=>⟨by omega,of_decide_eq_true h⟩
  rw [qAa h,qAa (fun _=>h),qAa (fun _=>h),qAa (fun _=>h),blank_cond];cases hb:qDi (bAt t a) with
  | true =>
   have:=qDm hb;rw [cnT,if_pos rfl,qAa (by unfold qAj; omega)];rfl
  | false=>rw [cnF,if_neg (by simp)]
 unfold zam_p0;by_cases h:qDi (bAt t a)=true
 ·rw [if_pos h] at hst;rw [qAv hst,skipS_yes h];exact p_blank0 t hs (a+1)
 ·rw [if_neg h] at hst;rw [qAn hst,skipS_no (by simpa using h)]
termination_by t.size - a
decreasing_by have:=qDm h; omega
theorem p_blank (t:BA) (hs:t.size≤3000000) (a:Nat):zam_s ⟨t,(a:Int),st,out,op,nm,key,cd,bd⟩=some ⟨t,(qA0 t a:Int),st,out,op,nm,key,cd,bd⟩:=by
 unfold zam_s;dsimp only;rw [p_blank0 t hs];rfl
theorem next_dig (t:BA) (a:Nat):(decide ((48:Int)≤nextC t a) && decide (nextC t a≤(57:Int)))=digS t a:=by
 unfold nextC digS;split
 ·rfl
 ·rw [qB4 (by omega)];rfl
theorem p_dig0 (t:BA) (hs:t.size≤3000000) (a:Nat):zan_p0 (nextC t a) t (a:Int) st key cd bd out op nm=some (qEk t a:Int):=by
 have hst:qEt (nextC t a) t (a:Int) st key cd bd out op nm=some (if digS t a=true then .inl (nextC t (a+1),((a+1:Nat):Int)) else .inr (a:Int)):=by
  unfold qEt;rw [next_dig];cases hb:digS t a with
  | true =>
   have:=digS_lt hb;rw [cnT,if_pos rfl,qAa (by unfold qAj; omega),show (a:Int)+1=((a+1:Nat):Int) by omega,qEr];rfl
  | false=>rw [cnF,if_neg (by simp)]
 unfold zan_p0;by_cases h:digS t a=true
 ·rw [if_pos h] at hst;rw [qAv hst,qEm h];exact p_dig0 t hs (a+1)
 ·rw [if_neg h] at hst;rw [qAn hst,manyS_no (by simpa using h)]
termination_by t.size - a
decreasing_by have:=digS_lt h; omega
def digP (t:BA) (a:Nat) (r:Rd Unit):json_reader × Bool:=match r with
 | .bad c b=>(⟨t,(b:Int),st,out,op,nm,key,c,(b:Int)⟩,false)
 | .ok b _=>(⟨t,(b:Int),st,out,op,nm,key,cd,bd⟩,true)
theorem p_dig (t:BA) (hs:t.size≤3000000) (a:Nat):zan_s ⟨t,(a:Int),st,out,op,nm,key,cd,bd⟩=some (digP st out op nm key cd bd t a (digR t a)):=by
 unfold zan_s digR;rw [qEr,obS];have hd:=next_dig t a;by_cases h:digS t a=true
 ·rw [h] at hd;simp only [Bool.and_eq_true,decide_eq_true_eq] at hd;have h1:qEk t a≠a:=by
   rw [qEm h];have:=manyS_ge t (a+1);omega
  rw [deF (by omega),deF (by omega),Bool.or_false,cnF,obS,p_dig0 st out op nm key cd bd t hs,if_neg h1];rfl
 ·have h1:qEk t a=a:=manyS_no (by simpa using h);rw [if_pos h1,qBt (p:=True) (by
   have:¬(48≤nextC t a∧nextC t a≤57):=by
    intro h2;rw [deT h2.1,deT h2.2] at hd;exact h hd.symm
   simp only [Bool.or_eq_true,decide_eq_true_eq,iff_true];omega),if_pos trivial,p_odd]
  rfl
theorem j_digit (c:Int) (h:0≤c∧c≤255):zaj_s c=some (if hexS c<0 then (0,false) else (hexS c,true)):=by
 unfold zaj_s hexS;rw [qBt (p:=48≤c∧c≤57) (by simp),qBt (p:=97≤c∧c≤102) (by simp),qBt (p:=65≤c∧c≤70) (by simp)];by_cases h1:48≤c∧c≤57
 ·rw [if_pos h1,if_pos h1,u8_mod' (by omega),qAa (by unfold qCe; omega),if_neg (by omega)]
 ·rw [if_neg h1,if_neg h1];by_cases h2:97≤c∧c≤102
  ·rw [if_pos h2,if_pos h2,u8_mod' (by omega),qAa (by unfold qCe; omega),qAa (by unfold qCe; omega),if_neg (by omega)]
  ·rw [if_neg h2,if_neg h2];by_cases h3:65≤c∧c≤70
   ·rw [if_pos h3,if_pos h3,u8_mod' (by omega),qAa (by unfold qCe; omega),qAa (by unfold qCe; omega),if_neg (by omega)]
   ·rw [if_neg h3,if_neg h3,if_pos (by decide)]
theorem or_low {u d:Int} (hu:0≤u∧u≤100000) (hd:0≤d∧d<16):qBl .i32 (u*16) d=16*u+d:=by
 obtain ⟨n,rfl⟩:=Int.eq_ofNat_of_zero_le hu.1;obtain ⟨m,rfl⟩:=Int.eq_ofNat_of_zero_le hd.1;rw [show (n:Int)*16=((2 ^ 4*n:Nat):Int) by omega];have h1:(BitVec.ofInt 32 ((2 ^ 4*n:Nat):Int)).toNat=2 ^ 4*n:=by
  rw [BitVec.ofInt_natCast,BitVec.toNat_ofNat,Nat.mod_eq_of_lt (by omega)]
 have h2:(BitVec.ofInt 32 (m:Int)).toNat=m:=by
  rw [BitVec.ofInt_natCast,BitVec.toNat_ofNat,Nat.mod_eq_of_lt (by omega)]
 unfold qBl;show IntKind.i32.wrap ((BitVec.ofInt 32 ((2 ^ 4*n:Nat):Int) ||| BitVec.ofInt 32 (m:Int)).toNat:Int)=_
 have h3:=Nat.two_pow_add_eq_or_of_lt (i:=4) (b:=m) (by omega) n;rw [BitVec.toNat_or,h1,h2,←h3];unfold IntKind.wrap;have h4:(((2 ^ 4*n+m:Nat):Int) % (2 ^ IntKind.i32.bits:Int))=((2 ^ 4*n+m:Nat):Int):=by
  show (((2 ^ 4*n+m:Nat):Int) % 4294967296)=_;omega
 dsimp only;rw [h4,if_neg (by
  simp only [Bool.and_eq_true,decide_eq_true_eq,not_and];intro _;show ¬(((2 ^ 4*n+m:Nat):Int)≥2147483648);omega)]
 omega
theorem p_unit1 (t:BA) (a f:Int) (x:Bool):zbc_p1 f x t a st key cd bd out op nm=some (if x=true then .inl (0,false,t,a,st,key,33,f,nm) else .inr ()):=by
 unfold zbc_p1;cases x with
 | true=>rfl
 | false=>rfl
theorem p_unit0 (t:BA) (hs:t.size≤3000000) (low:Bool) (f a:Nat):∀(m i:Nat) (u:Int),i+m=4→a+i≤t.size→0≤u∧u<16 ^ i→∃e:Int,zbc_p0 (f:Int) low u (i:Int) t ((a+i:Nat):Int) st key cd bd out op nm=some (match fourR t low f m i (a+i) u with
  | .bad c b=>.inl (0,false,t,e,st,key,c,(b:Int),nm)
  | .ok b w=>.inr (w,(b:Int)))
 | 0,i,u,h,ha,hu=>by
  refine ⟨0,?_⟩;unfold zbc_p0;refine qAn ?_;show qBv (f:Int) low u (i:Int) t ((a+i:Nat):Int) st key cd bd out op nm=_;unfold qBv;rw [deF (by omega),cnF];rfl
 | m+1,i,u,h,ha,hu=>by
  have e1:∀ {x},qBv (f:Int) low u (i:Int) t ((a+i:Nat):Int) st key cd bd out op nm=some (.inr x)→zbc_p0 (f:Int) low u (i:Int) t ((a+i:Nat):Int) st key cd bd out op nm=some x:=fun h=>qAn h
  have e2:∀ {u' i' a':Int},qBv (f:Int) low u (i:Int) t ((a+i:Nat):Int) st key cd bd out op nm=some (.inl (u',i',a'))→zbc_p0 (f:Int) low u (i:Int) t ((a+i:Nat):Int) st key cd bd out op nm=zbc_p0 (f:Int) low u' i' t a' st key cd bd out op nm:=fun h=>qAv h
  have hp:(16:Int) ^ i≤16 ^ 3:=by
   have:i=0∨i=1∨i=2∨i=3:=by omega
   rcases this with h | h | h | h <;> subst h <;> decide
  have hp':(16:Int) ^ (i+1)=16 ^ i*16:=Int.pow_succ 16 i;unfold fourR;by_cases h1:a+i=t.size
  ·have hb:bAt t (a+i:Nat) = -1:=qB4 (by omega);rw [if_pos (by omega)];refine ⟨((a+i:Nat):Int),e1 ?_⟩;unfold qBv;rw [deT (by omega),cnT,deT (by omega),cnT,p_odd,obS];rw [h1]
  ·have hb:=bAt_nn (s:=t) (i:=(a+i:Nat)) (by omega) (by omega);have hb':=bAt_range t (a+i:Nat);have hd:=qFq (bAt t (a+i:Nat));rw [if_neg (by omega)];have hst:qBv (f:Int) low u (i:Int) t ((a+i:Nat):Int) st key cd bd out op nm=some (if hexBad low i u (hexS (bAt t (a+i:Nat))) then .inr (.inl (0,false,t,((a+i:Nat):Int),st,key,33,(f:Int),nm)) else .inl (16*u+hexS (bAt t (a+i:Nat)),((i+1:Nat):Int),((a+(i+1):Nat):Int))):=by
    unfold qBv;rw [deT (by omega),cnT,deF (by omega),cnF,qAa (by omega),j_digit _ (by omega),obS];generalize hexS (bAt t (a+i:Nat))=d at *
    have e0:decide ((i:Int)=0)=decide (i=0):=decide_eq_decide.2 (by omega);have e1:decide ((i:Int)=1)=decide (i=1):=decide_eq_decide.2 (by omega);have ec:(a+i:Nat)+(1:Int)=((a+(i+1):Nat):Int):=by omega
    by_cases h2:d<0
    ·rw [if_pos h2];dsimp only;rw [Bool.not_false,cnT,p_unit1,if_pos (show true=true from rfl),if_pos (by unfold hexBad; exact .inl h2)];rfl
    ·rw [if_neg h2];dsimp only;rw [Bool.not_true,cnF,e0,e1];have tail:((gd (0≤(4:Int)) <| gd (qCe (u*16)) <| gd (qAj (((a+i:Nat):Int)+(1:Int))) <| gd (qAj ((i:Int)+(1:Int))) <|
      some (Sum.inl ((qBl .i32 (u*16) d),((i:Int)+(1:Int)),(((a+i:Nat):Int)+(1:Int))))):Option ((Int × Int × Int) ⊕ ((Int × Bool × BA × Int × Int × BA × Int × Int × (List (MapC × Unit))) ⊕ (Int × Int))))=some (.inl (16*u+d,((i+1:Nat):Int),((a+(i+1):Nat):Int))):=by
      rw [qAa (by omega),qAa (by unfold qCe; omega),qAa (by unfold qAj; omega),qAa (by unfold qAj; omega),or_low (by omega) (by omega),ec];rfl
     rw [qBt (p:=low=true∧i=0∧d≠13) (by
      simp only [Bool.and_eq_true,Bool.not_eq_true',decide_eq_true_eq,decide_eq_false_iff_not];constructor
      ·rintro ⟨⟨x1,x2⟩,x3⟩; exact ⟨x2,x1,x3⟩
      ·rintro ⟨x1,x2,x3⟩; exact ⟨⟨x2,x1⟩,x3⟩)]
     by_cases h3:low=true∧i=0∧d≠13
     ·rw [if_pos h3,deT h3.2.1,h3.1,deF h3.2.2];show ((zbc_p1 (f:Int) true t ((a+i:Nat):Int) st key cd bd out op nm).bind _)=_;rw [p_unit1,if_pos (show true=true from rfl),if_pos (by unfold hexBad; exact .inr (.inl ⟨rfl,.inl h3.2⟩))];rfl
     ·rw [if_neg h3,qBt (p:=low=true∧i=1∧d<12) (by
       simp only [Bool.and_eq_true,Bool.not_eq_true',decide_eq_true_eq,decide_eq_false_iff_not];constructor
       ·rintro ⟨⟨x1,x2⟩,x3⟩; exact ⟨x2,x1,x3⟩
       ·rintro ⟨x1,x2,x3⟩; exact ⟨⟨x2,x1⟩,x3⟩)]
      by_cases h4:low=true∧i=1∧d<12
      ·rw [if_pos h4,deT h4.2.1,h4.1,deT h4.2.2];show ((zbc_p1 (f:Int) true t ((a+i:Nat):Int) st key cd bd out op nm).bind _)=_;rw [p_unit1,if_pos (show true=true from rfl),if_pos (by unfold hexBad; exact .inr (.inl ⟨rfl,.inr h4.2⟩))];rfl
      ·rw [if_neg h4,p_unit1,obS];by_cases h5:low=false∧i=1∧u=13∧12≤d
       ·rw [if_pos (by rw [h5.1,deT h5.2.1,deT h5.2.2.1,deT h5.2.2.2]; rfl),if_pos (by unfold hexBad; exact .inr (.inr h5))];rfl
       ·rw [if_neg (by
         intro h6;simp only [Bool.and_eq_true,Bool.not_eq_true',decide_eq_true_eq] at h6;exact h5 ⟨h6.1.1.2,h6.1.1.1,h6.1.2,h6.2⟩),if_neg (by
         unfold hexBad;rintro (h6 | ⟨h6,h7 | h7⟩ | h6)
         ·exact h2 h6
         ·exact h3 ⟨h6,h7⟩
         ·exact h4 ⟨h6,h7⟩
         ·exact h5 h6)]
        exact tail
   by_cases h3:hexBad low i u (hexS (bAt t (a+i:Nat)))
   ·rw [if_pos h3] at hst ⊢;exact ⟨_,e1 hst⟩
   ·rw [if_neg h3] at hst ⊢;have h0:0≤hexS (bAt t (a+i:Nat)):=by
     unfold hexBad at h3;simp only [not_or] at h3;omega
    rw [e2 hst];exact p_unit0 t hs low f a m (i+1) _ (by omega) (by omega) (by omega)
def unitP (t:BA) (e:Int) (r:Rd Int):json_reader × Int × Bool:=match r with
 | .bad c b=>(⟨t,e,st,out,op,nm,key,c,(b:Int)⟩,0,false)
 | .ok b u=>(⟨t,(b:Int),st,out,op,nm,key,cd,bd⟩,u,true)
theorem p_unit (t:BA) (hs:t.size≤3000000) (low:Bool) (f a:Nat) (ha:a≤t.size):∃e:Int,zbc_s ⟨t,(a:Int),st,out,op,nm,key,cd,bd⟩ (f:Int) low=some (unitP st out op nm key cd bd t e (fourR t low f 4 0 a 0)):=by
 obtain ⟨e,he⟩:=p_unit0 st out op nm key cd bd t hs low f a 4 0 0 rfl (by omega) (by decide);refine ⟨e,?_⟩;unfold zbc_s;rw [Nat.add_zero] at he;dsimp only;rw [show ((0:Nat):Int)=0 from rfl] at he;rw [he,obS];cases fourR t low f 4 0 a 0 with
 | bad c b=>rfl
 | ok b u=>rfl
theorem p_pt0 (t:BA) (hs:t.size≤3000000) (f a:Nat) (ha:a≤t.size):∃e:Int,zay_p0 (f:Int) 2 0 t (a:Int) st key cd bd out op nm [92,117]=some (
  if bAt t a<0 then .inl (0,false,t,e,st,key,31,(t.size:Int),nm)
  else if bAt t a≠92 then .inl (0,false,t,e,st,key,33,(f:Int),nm)
  else if bAt t (a+1:Nat)<0 then .inl (0,false,t,e,st,key,31,(t.size:Int),nm)
  else if bAt t (a+1:Nat)≠117 then .inl (0,false,t,e,st,key,33,(f:Int),nm)
  else .inr ((a+2:Nat):Int)):=by
 have e1:∀ {i b:Int} {x},qCf (f:Int) 2 i t b st key cd bd out op nm [92,117]=some (.inr x)→zay_p0 (f:Int) 2 i t b st key cd bd out op nm [92,117]=some x:=fun h=>qAn h
 have e2:∀ {i b j b':Int},qCf (f:Int) 2 i t b st key cd bd out op nm [92,117]=some (.inl (j,b'))→zay_p0 (f:Int) 2 i t b st key cd bd out op nm [92,117]=zay_p0 (f:Int) 2 j t b' st key cd bd out op nm [92,117]:=fun h=>qAv h
 have hst:∀i b:Nat,i<2→b≤t.size→qCf (f:Int) 2 (i:Int) t (b:Int) st key cd bd out op nm [92,117]=some (if bAt t b<0 then .inr (.inl (0,false,t,(b:Int),st,key,31,(t.size:Int),nm))
   else if bAt t b≠(if i=0 then 92 else 117) then .inr (.inl (0,false,t,(b:Int),st,key,33,(f:Int),nm)) else .inl (((i+1:Nat):Int),((b+1:Nat):Int))):=by
  intro i b hi hb;unfold qCf;rw [deT (by omega),cnT,qAa (by simp only [List.length_cons,List.length_nil]; omega),qAa (by simp only [List.length_cons,List.length_nil]; omega),Int.toNat_natCast];have hg:([92,117]:List Int).getD i (ET.dft .u8)=if i=0 then 92 else 117:=by
   have:i=0∨i=1:=by omega
   rcases this with rfl | rfl <;> rfl
  rw [hg];by_cases h1:b=t.size
  ·have hb:bAt t b = -1:=qB4 (by omega);rw [if_pos (show bAt t b<0 by omega),deT (show (b:Int)=t.size by omega),cnT,p_odd,obS];subst h1;rfl
  ·have hb:=bAt_nn (s:=t) (i:=b) (by omega) (by omega);rw [if_neg (show ¬bAt t b<0 by omega),deF (show ¬(b:Int)=t.size by omega),cnF,qAa (by omega)];by_cases h2:bAt t b=(if i=0 then 92 else 117)
   ·rw [deT h2,Bool.not_true,cnF,if_neg (fun h=>h h2),qAa (by unfold qAj; omega),qAa (by unfold qAj; omega)];rfl
   ·rw [deF h2,Bool.not_false,cnT,if_pos h2];rfl
 have h0:=hst 0 a (by decide) ha;rw [show ((0:Nat):Int)=0 from rfl,if_pos (show (0:Nat)=0 from rfl)] at h0;by_cases c0:bAt t a<0
 ·rw [if_pos c0] at h0;exact ⟨_,by rw [if_pos c0]; exact e1 h0⟩
 ·rw [if_neg c0] at h0;simp only [if_neg c0];by_cases c1:bAt t a≠92
  ·rw [if_pos c1] at h0;exact ⟨_,by rw [if_pos c1]; exact e1 h0⟩
  ·rw [if_neg c1] at h0;simp only [if_neg c1];have hl:=qBm (t:=t) (a:=a) (by omega);have h1:=hst 1 (a+1) (by decide) (by omega);rw [if_neg (show ¬(1:Nat)=0 by decide)] at h1;rw [e2 h0];by_cases c2:bAt t (a+1:Nat)<0
   ·rw [if_pos c2] at h1;exact ⟨_,by rw [if_pos c2]; exact e1 h1⟩
   ·rw [if_neg c2] at h1;simp only [if_neg c2];by_cases c3:bAt t (a+1:Nat)≠117
    ·rw [if_pos c3] at h1;exact ⟨_,by rw [if_pos c3]; exact e1 h1⟩
    ·rw [if_neg c3] at h1;refine ⟨0,?_⟩;rw [if_neg c3];refine (e2 h1).trans (e1 ?_);unfold qCf;rfl
def saysP (t:BA) (g:json_reader × Int × Bool) (r:Rd Int):Prop:=match r with
 | .bad c b=>g.1.code=c∧g.1.bad=(b:Int)∧g.2.2=false
 | .ok b u=>g=(⟨t,(b:Int),st,out,op,nm,key,cd,bd⟩,u,true)
theorem p_point (t:BA) (hs:t.size≤3000000) (f:Nat) (hf:f+2≤t.size):∃g,zay_s ⟨t,((f+2:Nat):Int),st,out,op,nm,key,cd,bd⟩ (f:Int)=some g∧saysP st out op nm key cd bd t g (match fourR t false f 4 0 (f+2) 0 with
  | .bad c b=>.bad c b
  | .ok b u=>if u<55296∨57343<u then .ok b u else pairR t f b u):=by
 unfold zay_s;obtain ⟨e,he⟩:=p_unit st out op nm key cd bd t hs false f (f+2) hf;rw [he,obS];cases h7:fourR t false f 4 0 (f+2) 0 with
 | bad k b=>exact ⟨_,rfl,rfl,rfl,rfl⟩
 | ok b u =>
  have h8:=fourR_ok h7;have h10:=h8.2.2.2.2.2 rfl;show ∃g,(bif (((!true) || decide (u<55296)) || decide (57343<u)) then _ else _)=_∧_
  rw [qBt (p:=u<55296∨57343<u) (by simp)];dsimp only [unitP];by_cases h9:u<55296∨57343<u
  ·rw [if_pos h9,if_pos h9];exact ⟨_,rfl,rfl⟩
  ·rw [if_neg h9,if_neg h9,qAa (by decide)];obtain ⟨e,he⟩:=p_pt0 st out op nm key cd bd t hs f b h8.2.1;rw [show (([(92:Int),(117:Int)].length:Int))=2 from rfl,he,obS];unfold pairR;by_cases c0:bAt t b<0
   ·rw [if_pos c0,if_pos c0];exact ⟨_,rfl,rfl,rfl,rfl⟩
   rw [if_neg c0,if_neg c0];by_cases c1:bAt t b≠92
   ·rw [if_pos c1,if_pos c1];exact ⟨_,rfl,rfl,rfl,rfl⟩
   rw [if_neg c1,if_neg c1];by_cases c2:bAt t (b+1:Nat)<0
   ·rw [if_pos c2,if_pos c2];exact ⟨_,rfl,rfl,rfl,rfl⟩
   rw [if_neg c2,if_neg c2];by_cases c3:bAt t (b+1:Nat)≠117
   ·rw [if_pos c3,if_pos c3];exact ⟨_,rfl,rfl,rfl,rfl⟩
   rw [if_neg c3,if_neg c3];have hl2:=qBm (t:=t) (a:=b+1) (by omega);simp only [Sum.elim_inr];obtain ⟨e2,he2⟩:=p_unit st out op nm key cd bd t hs true f (b+2) (by omega);rw [he2,obS];cases h11:fourR t true f 4 0 (b+2) 0 with
   | bad k e =>
    simp only [unitP];rw [qAa (by unfold qCe; omega),qAa (by omega),qAa (by unfold qCe; omega),qAa (by unfold qCe; omega),qAa (by unfold qCe; omega),qAa (by unfold qCe; omega)];exact ⟨_,rfl,rfl,rfl,rfl⟩
   | ok e w =>
    have h12:=fourR_ok h11;have h13:=h12.2.2.2.2.1 rfl;simp only [unitP];rw [qAa (by unfold qCe; omega),qAa (by omega),qAa (by unfold qCe; omega),qAa (by unfold qCe; omega),qAa (by unfold qCe; omega),qAa (by unfold qCe; omega)];refine ⟨_,rfl,?_⟩;simp only [saysP];rw [show (65536:Int)+(u - 55296)*1024+(w - 56320)=65536+1024*(u - 55296)+w - 56320 by omega]
theorem p_esc0 (c:Int) (a:Nat) (ha:a≤3000000):zap_p0 c 34 34 92 92 47 47 98 8 102 12 110 10 114 13 116 9 0 (a:Int)=some (if saidS c<0 then .inr () else .inl (saidS c,true,((a+1:Nat):Int))):=by
 have e1:∀ {i:Int} {x},qCh c 34 34 92 92 47 47 98 8 102 12 110 10 114 13 116 9 i (a:Int)=some (.inr x)→zap_p0 c 34 34 92 92 47 47 98 8 102 12 110 10 114 13 116 9 i (a:Int)=some x:=fun h=>qAn h
 have e2:∀ {i j:Int},qCh c 34 34 92 92 47 47 98 8 102 12 110 10 114 13 116 9 i (a:Int)=some (.inl j)→zap_p0 c 34 34 92 92 47 47 98 8 102 12 110 10 114 13 116 9 i (a:Int)=zap_p0 c 34 34 92 92 47 47 98 8 102 12 110 10 114 13 116 9 j (a:Int):=fun h=>qAv h
 have key:∀(n:Nat),n<8→∀(x y:Int),([34,34,92,92,47,47,98,8,102,12,110,10,114,13,116,9]:List Int).getD (n*2) 0=x→([34,34,92,92,47,47,98,8,102,12,110,10,114,13,116,9]:List Int).getD (n*2+1) 0=y→0≤y∧y<128 →
   qCh c 34 34 92 92 47 47 98 8 102 12 110 10 114 13 116 9 (n:Int) (a:Int)=some (if c=x then .inr (.inl (y,true,((a+1:Nat):Int))) else .inl ((n+1:Nat):Int)):=by
  intro n hn x y hx hy hr;unfold qCh;rw [deT (by omega),cnT,qAa (by omega),Int.toNat_natCast,Nat.add_zero,hx,hy];by_cases h:c=x
  ·rw [deT h,cnT,if_pos h,qAa (by unfold qAj; omega),qAa (by unfold qCe; omega)];rfl
  ·rw [deF h,cnF,if_neg h,qAa (by unfold qAj; omega)];rfl
 have k0:=key 0 (by decide) 34 34 rfl rfl (by decide);have k1:=key 1 (by decide) 92 92 rfl rfl (by decide);have k2:=key 2 (by decide) 47 47 rfl rfl (by decide);have k3:=key 3 (by decide) 98 8 rfl rfl (by decide);have k4:=key 4 (by decide) 102 12 rfl rfl (by decide);have k5:=key 5 (by decide) 110 10 rfl rfl (by decide);have k6:=key 6 (by decide) 114 13 rfl rfl (by decide);have k7:=key 7 (by decide) 116 9 rfl rfl (by decide);rw [show ((0:Nat):Int)=0 from rfl] at k0;unfold saidS;by_cases h0:c=34
 ·rw [if_pos h0] at k0;rw [e1 k0,h0]; rfl
 rw [if_neg h0] at k0;rw [e2 k0];by_cases h1:c=92
 ·rw [if_pos h1] at k1;rw [show ((0+1:Nat):Int)=((1:Nat):Int) from rfl,e1 k1,h1]; rfl
 rw [if_neg h1] at k1;rw [show ((0+1:Nat):Int)=((1:Nat):Int) from rfl,e2 k1];by_cases h2:c=47
 ·rw [if_pos h2] at k2;rw [show ((1+1:Nat):Int)=((2:Nat):Int) from rfl,e1 k2,h2]; rfl
 rw [if_neg h2] at k2;rw [show ((1+1:Nat):Int)=((2:Nat):Int) from rfl,e2 k2,if_neg (show ¬(c=34∨c=92∨c=47) by omega)];by_cases h3:c=98
 ·rw [if_pos h3] at k3;rw [show ((2+1:Nat):Int)=((3:Nat):Int) from rfl,e1 k3,h3]; rfl
 rw [if_neg h3] at k3;rw [show ((2+1:Nat):Int)=((3:Nat):Int) from rfl,e2 k3,if_neg h3];by_cases h4:c=102
 ·rw [if_pos h4] at k4;rw [show ((3+1:Nat):Int)=((4:Nat):Int) from rfl,e1 k4,h4]; rfl
 rw [if_neg h4] at k4;rw [show ((3+1:Nat):Int)=((4:Nat):Int) from rfl,e2 k4,if_neg h4];by_cases h5:c=110
 ·rw [if_pos h5] at k5;rw [show ((4+1:Nat):Int)=((5:Nat):Int) from rfl,e1 k5,h5]; rfl
 rw [if_neg h5] at k5;rw [show ((4+1:Nat):Int)=((5:Nat):Int) from rfl,e2 k5,if_neg h5];by_cases h6:c=114
 ·rw [if_pos h6] at k6;rw [show ((5+1:Nat):Int)=((6:Nat):Int) from rfl,e1 k6,h6]; rfl
 rw [if_neg h6] at k6;rw [show ((5+1:Nat):Int)=((6:Nat):Int) from rfl,e2 k6,if_neg h6];by_cases h7:c=116
 ·rw [if_pos h7] at k7;rw [show ((6+1:Nat):Int)=((7:Nat):Int) from rfl,e1 k7,h7]; rfl
 rw [if_neg h7] at k7;rw [show ((6+1:Nat):Int)=((7:Nat):Int) from rfl,e2 k7,if_neg h7,if_pos (by decide)];refine e1 ?_;unfold qCh;rfl
theorem p_esc (t:BA) (hs:t.size≤3000000) (f:Nat) (hf:f<t.size):∃g,zap_s ⟨t,(f:Int),st,out,op,nm,key,cd,bd⟩=some g∧saysP st out op nm key cd bd t g (escR t f):=by
 unfold zap_s escR;dsimp only;rw [qAa (by unfold qAj; omega),show (f:Int)+1=((f+1:Nat):Int) by omega,qEr,obS];by_cases h1:f+1=t.size
 ·rw [deT (by omega),cnT,if_pos (by rw [qB4 (by omega)]; decide),p_odd];exact ⟨_,rfl,rfl,by show (((f+1:Nat)):Int)=(t.size:Int); omega,rfl⟩
 ·have hb:=bAt_nn (s:=t) (i:=(f+1:Nat)) (by omega) (by omega);have hn:nextC t (f+1)=bAt t (f+1:Nat):=by unfold nextC; rw [if_pos (by omega)]
  rw [deF (by omega),cnF,if_neg (by omega),hn];by_cases h2:bAt t (f+1:Nat)=117
  ·rw [deT h2,cnT,if_pos h2,qAa (by unfold qAj; omega),show ((f+1:Nat):Int)+1=((f+2:Nat):Int) by omega];obtain ⟨g,hg,hg2⟩:=p_point st out op nm key cd bd t hs f (by omega);rw [hg,obS];refine ⟨_,rfl,?_⟩;revert hg2;cases fourR t false f 4 0 (f+2) 0 with
   | bad c b=>exact fun h=>h
   | ok b u =>
    dsimp only;generalize (if u<55296∨57343<u then Rd.ok b u else pairR t f b u)=r
    intro h;cases r with
    | bad c b=>exact h
    | ok b u =>
     have h:g=_:=h;rw [h];rfl
  ·rw [deF h2,cnF,if_neg h2,p_esc0 _ _ (by omega),obS];by_cases h3:saidS (bAt t (f+1:Nat))<0
   ·rw [if_pos h3,if_pos h3];exact ⟨_,rfl,rfl,rfl,rfl⟩
   ·rw [if_neg h3,if_neg h3];exact ⟨_,rfl,rfl⟩
theorem or8_128 {y:Int} (h:0≤y∧y<64):qBl .u8 128 y=128+y:=by
 have key:∀n:Fin 64,qBl .u8 128 (n.val:Int)=128+(n.val:Int):=by decide +kernel
 have:=key ⟨y.toNat,by omega⟩;simpa [Int.toNat_of_nonneg h.1] using this
theorem or8_192 {y:Int} (h:0≤y∧y<32):qBl .u8 192 y=192+y:=by
 have key:∀n:Fin 32,qBl .u8 192 (n.val:Int)=192+(n.val:Int):=by decide +kernel
 have:=key ⟨y.toNat,by omega⟩;simpa [Int.toNat_of_nonneg h.1] using this
theorem or8_224 {y:Int} (h:0≤y∧y<16):qBl .u8 224 y=224+y:=by
 have key:∀n:Fin 16,qBl .u8 224 (n.val:Int)=224+(n.val:Int):=by decide +kernel
 have:=key ⟨y.toNat,by omega⟩;simpa [Int.toNat_of_nonneg h.1] using this
theorem or8_240 {y:Int} (h:0≤y∧y<8):qBl .u8 240 y=240+y:=by
 have key:∀n:Fin 8,qBl .u8 240 (n.val:Int)=240+(n.val:Int):=by decide +kernel
 have:=key ⟨y.toNat,by omega⟩;simpa [Int.toNat_of_nonneg h.1] using this
theorem and8_63 {y:Int} (h:0≤y∧y<256):qCd .u8 y 63=y % 64:=by
 have key:∀n:Fin 256,qCd .u8 (n.val:Int) 63=(n.val:Int) % 64:=by decide +kernel
 have:=key ⟨y.toNat,by omega⟩;simpa [Int.toNat_of_nonneg h.1] using this
theorem p_rune (p:List Int) (hp:p.length≤12000000) (u:Int) (hu:Code u):zcd_s p u=some (p++utfL u):=by
 unfold Code at hu;unfold zcd_s utfL;rw [show u % 4294967296=u by omega];by_cases h1:u<128
 ·rw [deT (by omega),cnT,if_pos h1,qAa (by simp only [List.length_cons,List.length_nil]; omega),u8_mod' (by omega)]
 ·rw [deF (by omega),cnF,if_neg h1];unfold zce_s;rw [show u % 4294967296=u by omega];by_cases h2:u<2048
  ·rw [deT (by omega),cnT,if_pos h2,qAa (by omega),qAa (by simp only [List.length_cons,List.length_nil]; omega),u8_mod' (x:=u / 64) (by omega),or8_192 (by omega),and8_63 (by omega),or8_128 (by omega),obS,show u % 256 % 64=u % 64 by omega]
  ·rw [deF (by omega),cnF,if_neg h2];have three:∀(x:Int),u<65536→zce_p0 u x true p=some (p++[224+u / 4096,128+u / 64 % 64,128+u % 64]):=by
    intro x h3;unfold zce_p0;rw [cnT,qAa (by omega),qAa (by omega),qAa (by simp only [List.length_cons,List.length_nil]; omega),u8_mod' (x:=u / 4096) (by omega),or8_224 (by omega),and8_63 (by omega),and8_63 (by omega),or8_128 (by omega),or8_128 (by omega),show u % 256 % 64=u % 64 by omega,show u / 64 % 256 % 64=u / 64 % 64 by omega]
   by_cases h3:u<65536
   ·rw [if_pos h3];by_cases h4:u<55296
    ·rw [deT h4,cnT,three _ h3];rfl
    ·rw [deF h4,cnF,deT (by omega),deT (by omega),Bool.true_and,three _ h3];rfl
   ·rw [if_neg h3,deF (show ¬u<55296 by omega),cnF,deT (by omega),deF (by omega),Bool.true_and];unfold zce_p0;rw [cnF,deT (by omega),deT (by omega),Bool.true_and,cnT,qAa (by omega),qAa (by omega),qAa (by omega),qAa (by simp only [List.length_cons,List.length_nil]; omega),u8_mod' (x:=u / 262144) (by omega),or8_240 (by omega),and8_63 (by omega),and8_63 (by omega),and8_63 (by omega),or8_128 (by omega),or8_128 (by omega),or8_128 (by omega),show u % 256 % 64=u % 64 by omega,show u / 64 % 256 % 64=u / 64 % 64 by omega,show u / 4096 % 256 % 64=u / 4096 % 64 by omega];rfl
end Go.Proofs.YtnifdcmeffnpaaaDoor
