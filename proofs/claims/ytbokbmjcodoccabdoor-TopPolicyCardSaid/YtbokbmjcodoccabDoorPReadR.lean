/-
  Texts of a claim.
-/
import Derived.Test.YtbokbmjcodoccabDoorPLexQ
import Derived.Test.YtbokbmjcodoccabDoorJP
set_option linter.unusedSimpArgs false
set_option linter.unusedVariables false
namespace Go.Proofs.YtbokbmjcodoccabDoor
open Go.Eng
variable (st:Int) (out:List Eng.Node) (op:List Int) (nm:List (MapC × Unit)) (key:BA) (cd bd:Int)
def nextC(t:BA)(a:Nat):Int:=if a<t.size then bAt t a else 0
theorem qFr(t:BA)(a:Nat):zau_s ⟨t,(a:Int),st,out,op,nm,key,cd,bd⟩=some (nextC t a):=by
 unfold zau_s nextC;dsimp only;by_cases h:a<t.size
 ·rw[deT (by omega),cnT,qAa (by omega),if_pos h]
 ·rw[deF (by omega),cnF,if_neg h]
theorem qFb{t:BA}{a:Nat}{c:Int}(hc:0<c):nextC t a=c↔bAt t a=c:=by
 unfold nextC;split
 ·exact Iff.rfl
 ·rw[qBl (by omega)];omega
theorem p_odd(r:json_reader):zaw_s r=some (⟨r.text,r.at_,r.state,r.out,r.open_,r.names,r.key,31,r.at_⟩,false):=rfl
theorem p_fail(r:json_reader)(c b:Int):zap_s r c b=some (⟨r.text,r.at_,r.state,r.out,r.open_,r.names,r.key,c,b⟩,false):=rfl
theorem p_behind(r:json_reader):zak_s r=some ⟨r.text,r.at_,if r.open_.length=0 then 6 else 5,r.out,r.open_,r.names,r.key,r.code,r.bad⟩:=by
 unfold zak_s;by_cases h:r.open_.length=0
 ·rw[deT (by omega),cnT,if_pos h]
 ·rw[deF (by omega),cnF,if_neg h]
theorem p_blank0(t:BA)(hs:t.size<=3000000)(a:Nat):zal_p0 t (a:Int)=some (qAl t a:Int):=by
 have hst:qF0 t (a:Int)=some (if qC0 (bAt t a)=true then .inl ((a+1:Nat):Int) else .inr (a:Int)):=by
  unfold qF0;have h:(decide ((a:Int)<(t.size:Int)))=true->0<=(a:Int)/\(a:Int)<t.size:=λh=>⟨by omega,of_decide_eq_true h⟩
  rw[qAa h,qAa (λ_=>h),qAa (λ_=>h),qAa (λ_=>h),blank_cond];cases hb:qC0 (bAt t a) with
  | true =>
   have:=qCn hb;rw[cnT,if_pos rfl,qAa (by unfold qAc;omega)];rfl
  | false=>rw[cnF,if_neg (by simp)]
 unfold zal_p0;by_cases h:qC0 (bAt t a)=true
 ·rw[if_pos h] at hst;rw[qAm hst,skipS_yes h];exact p_blank0 t hs (a+1)
 ·rw[if_neg h] at hst;rw[qAf hst,skipS_no (by simpa using h)]
termination_by t.size - a
decreasing_by have:=qCn h;omega
theorem p_blank(t:BA)(hs:t.size<=3000000)(a:Nat):zal_s ⟨t,(a:Int),st,out,op,nm,key,cd,bd⟩=some ⟨t,(qAl t a:Int),st,out,op,nm,key,cd,bd⟩:=by
 unfold zal_s;dsimp only;rw[p_blank0 t hs];rfl
theorem next_dig(t:BA)(a:Nat):(decide ((48:Int)<=nextC t a) && decide (nextC t a<=(57:Int)))=digS t a:=by
 unfold nextC digS;split
 ·rfl
 ·rw[qBl (by omega)];rfl
theorem p_dig0(t:BA)(hs:t.size<=3000000)(a:Nat):zam_p0 (nextC t a) t (a:Int) st key cd bd out op nm=some (qCj t a:Int):=by
 have hst:qF1 (nextC t a) t (a:Int) st key cd bd out op nm=some (if digS t a=true then .inl (nextC t (a+1),((a+1:Nat):Int)) else .inr (a:Int)):=by
  unfold qF1;rw[next_dig];cases hb:digS t a with
  | true =>
   have:=qFm hb;rw[cnT,if_pos rfl,qAa (by unfold qAc;omega),show(a:Int)+1=((a+1:Nat):Int) by omega,qFr];rfl
  | false=>rw[cnF,if_neg (by simp)]
 unfold zam_p0;by_cases h:digS t a=true
 ·rw[if_pos h] at hst;rw[qAm hst,qDr h];exact p_dig0 t hs (a+1)
 ·rw[if_neg h] at hst;rw[qAf hst,qE9 (by simpa using h)]
termination_by t.size - a
decreasing_by have:=qFm h;omega
def digP(t:BA)(a:Nat)(r:Rd Unit):json_reader × Bool:=match r with
 | .bad c b=>(⟨t,(b:Int),st,out,op,nm,key,c,(b:Int)⟩,false)
 | .ok b _=>(⟨t,(b:Int),st,out,op,nm,key,cd,bd⟩,true)
theorem p_dig(t:BA)(hs:t.size<=3000000)(a:Nat):zam_s ⟨t,(a:Int),st,out,op,nm,key,cd,bd⟩=some (digP st out op nm key cd bd t a (digR t a)):=by
 unfold zam_s digR;rw[qFr,obS];have hd:=next_dig t a;by_cases h:digS t a=true
 ·rw[h] at hd;simp only[Bool.and_eq_true,decide_eq_true_eq] at hd;have h1:qCj t a≠a:=by
   rw[qDr h];have:=manyS_ge t (a+1);omega
  rw[deF (by omega),deF (by omega),Bool.or_false,cnF,obS,p_dig0 st out op nm key cd bd t hs,if_neg h1];rfl
 ·have h1:qCj t a=a:=qE9 (by simpa using h);rw[if_pos h1,qA5 (p:=True) (by
   have:¬(48<=nextC t a/\nextC t a<=57):=by
    intro h2;rw[deT h2.1,deT h2.2] at hd;exact h hd.symm
   simp only[Bool.or_eq_true,decide_eq_true_eq,iff_true];omega),if_pos trivial,p_odd]
  rfl
theorem j_digit(c:Int)(h:0<=c/\c<=255):zai_s c=some (if hexS c<0 then(0,false) else(hexS c,true)):=by
 unfold zai_s hexS;rw[qA5 (p:=48<=c/\c<=57) (by simp),qA5 (p:=97<=c/\c<=102) (by simp),qA5 (p:=65<=c/\c<=70) (by simp)];by_cases h1:48<=c/\c<=57
 ·rw[if_pos h1,if_pos h1,qCh (by omega),qAa (by unfold qCk;omega),if_neg (by omega)]
 ·rw[if_neg h1,if_neg h1];by_cases h2:97<=c/\c<=102
  ·rw[if_pos h2,if_pos h2,qCh (by omega),qAa (by unfold qCk;omega),qAa (by unfold qCk;omega),if_neg (by omega)]
  ·rw[if_neg h2,if_neg h2];by_cases h3:65<=c/\c<=70
   ·rw[if_pos h3,if_pos h3,qCh (by omega),qAa (by unfold qCk;omega),qAa (by unfold qCk;omega),if_neg (by omega)]
   ·rw[if_neg h3,if_neg h3,if_pos (by decide)]
theorem or_low{u d:Int}(hu:0<=u/\u<=100000)(hd:0<=d/\d<16):qBr .i32 (u*16) d=16*u+d:=by
 obtain⟨n,rfl⟩:=Int.eq_ofNat_of_zero_le hu.1;obtain⟨m,rfl⟩:=Int.eq_ofNat_of_zero_le hd.1;rw[show(n:Int)*16=((2 ^ 4*n:Nat):Int) by omega];have h1:(BitVec.ofInt 32 ((2 ^ 4*n:Nat):Int)).toNat=2 ^ 4*n:=by
  rw[BitVec.ofInt_natCast,BitVec.toNat_ofNat,Nat.mod_eq_of_lt (by omega)]
 have h2:(BitVec.ofInt 32 (m:Int)).toNat=m:=by
  rw[BitVec.ofInt_natCast,BitVec.toNat_ofNat,Nat.mod_eq_of_lt (by omega)]
 unfold qBr;show IntKind.i32.wrap ((BitVec.ofInt 32 ((2 ^ 4*n:Nat):Int) ||| BitVec.ofInt 32 (m:Int)).toNat:Int)=_
 have h3:=Nat.two_pow_add_eq_or_of_lt (i:=4) (b:=m) (by omega) n;rw[BitVec.toNat_or,h1,h2,<-h3];unfold IntKind.wrap;have h4:(((2 ^ 4*n+m:Nat):Int) % (2 ^ IntKind.i32.bits:Int))=((2 ^ 4*n+m:Nat):Int):=by
  show(((2 ^ 4*n+m:Nat):Int) % 4294967296)=_;omega
 dsimp only;rw[h4,if_neg (by
  simp only[Bool.and_eq_true,decide_eq_true_eq,not_and];intro _;show ¬(((2 ^ 4*n+m:Nat):Int)≥2147483648);omega)]
 omega
theorem p_unit1(t:BA)(a f:Int)(x:Bool):zbb_p1 f x t a st key cd bd out op nm=some (if x=true then .inl (0,false,t,a,st,key,33,f,nm) else .inr ()):=by
 unfold zbb_p1;cases x with
 | true=>rfl
 | false=>rfl
theorem p_unit0(t:BA)(hs:t.size<=3000000)(low:Bool)(f a:Nat):∀(m i:Nat) (u:Int),i+m=4->a+i<=t.size->0<=u/\u<16 ^ i->∃e:Int,zbb_p0 (f:Int) low u (i:Int) t ((a+i:Nat):Int) st key cd bd out op nm=some (match qFp t low f m i (a+i) u with
  | .bad c b=>.inl (0,false,t,e,st,key,c,(b:Int),nm)
  | .ok b w=>.inr (w,(b:Int)))
 | 0,i,u,h,ha,hu=>by
  refine⟨0,?_⟩;unfold zbb_p0;refine qAf ?_;show qB3 (f:Int) low u (i:Int) t ((a+i:Nat):Int) st key cd bd out op nm=_;unfold qB3;rw[deF (by omega),cnF];rfl
 | m+1,i,u,h,ha,hu=>by
  have e1:∀ {x},qB3 (f:Int) low u (i:Int) t ((a+i:Nat):Int) st key cd bd out op nm=some (.inr x)->zbb_p0 (f:Int) low u (i:Int) t ((a+i:Nat):Int) st key cd bd out op nm=some x:=λh=>qAf h
  have e2:∀ {u' i' a':Int},qB3 (f:Int) low u (i:Int) t ((a+i:Nat):Int) st key cd bd out op nm=some (.inl (u',i',a'))->zbb_p0 (f:Int) low u (i:Int) t ((a+i:Nat):Int) st key cd bd out op nm=zbb_p0 (f:Int) low u' i' t a' st key cd bd out op nm:=λh=>qAm h
  have hp:(16:Int) ^ i<=16 ^ 3:=by
   have:i=0\/i=1\/i=2\/i=3:=by omega
   rcases this with h | h | h | h <;> subst h <;> decide
  have hp':(16:Int) ^ (i+1)=16 ^ i*16:=Int.pow_succ 16 i;unfold qFp;by_cases h1:a+i=t.size
  ·have hb:bAt t (a+i:Nat) = -1:=qBl (by omega);rw[if_pos (by omega)];refine⟨((a+i:Nat):Int),e1 ?_⟩;unfold qB3;rw[deT (by omega),cnT,deT (by omega),cnT,p_odd,obS];rw[h1]
  ·have hb:=bAt_nn (s:=t) (i:=(a+i:Nat)) (by omega) (by omega);have hb':=qC4 t (a+i:Nat);have hd:=qFg (bAt t (a+i:Nat));rw[if_neg (by omega)];have hst:qB3 (f:Int) low u (i:Int) t ((a+i:Nat):Int) st key cd bd out op nm=some (if qDq low i u (hexS (bAt t (a+i:Nat))) then .inr (.inl (0,false,t,((a+i:Nat):Int),st,key,33,(f:Int),nm)) else .inl (16*u+hexS (bAt t (a+i:Nat)),((i+1:Nat):Int),((a+(i+1):Nat):Int))):=by
    unfold qB3;rw[deT (by omega),cnT,deF (by omega),cnF,qAa (by omega),j_digit _ (by omega),obS];generalize hexS (bAt t (a+i:Nat))=d at *
    have e0:decide ((i:Int)=0)=decide (i=0):=decide_eq_decide.2 (by omega);have e1:decide ((i:Int)=1)=decide (i=1):=decide_eq_decide.2 (by omega);have ec:(a+i:Nat)+(1:Int)=((a+(i+1):Nat):Int):=by omega
    by_cases h2:d<0
    ·rw[if_pos h2];dsimp only;rw[Bool.not_false,cnT,p_unit1,if_pos (show true=true from rfl),if_pos (by unfold qDq;exact .inl h2)];rfl
    ·rw[if_neg h2];dsimp only;rw[Bool.not_true,cnF,e0,e1];have tail:((gd (0<=(4:Int)) <| gd (qCk (u*16)) <| gd (qAc (((a+i:Nat):Int)+(1:Int))) <| gd (qAc ((i:Int)+(1:Int))) <|
      some (Sum.inl ((qBr .i32 (u*16) d),((i:Int)+(1:Int)),(((a+i:Nat):Int)+(1:Int))))):Option ((Int × Int × Int) ⊕ ((Int × Bool × BA × Int × Int × BA × Int × Int × (List (MapC × Unit))) ⊕ (Int × Int))))=some (.inl (16*u+d,((i+1:Nat):Int),((a+(i+1):Nat):Int))):=by
      rw[qAa (by omega),qAa (by unfold qCk;omega),qAa (by unfold qAc;omega),qAa (by unfold qAc;omega),or_low (by omega) (by omega),ec];rfl
     rw[qA5 (p:=low=true/\i=0/\d≠13) (by
      simp only[Bool.and_eq_true,Bool.not_eq_true',decide_eq_true_eq,decide_eq_false_iff_not];constructor
      ·rintro ⟨⟨x1,x2⟩,x3⟩;exact⟨x2,x1,x3⟩
      ·rintro ⟨x1,x2,x3⟩;exact⟨⟨x2,x1⟩,x3⟩)]
     by_cases h3:low=true/\i=0/\d≠13
     ·rw[if_pos h3,deT h3.2.1,h3.1,deF h3.2.2];show((zbb_p1 (f:Int) true t ((a+i:Nat):Int) st key cd bd out op nm).bind _)=_;rw[p_unit1,if_pos (show true=true from rfl),if_pos (by unfold qDq;exact .inr (.inl ⟨rfl,.inl h3.2⟩))];rfl
     ·rw[if_neg h3,qA5 (p:=low=true/\i=1/\d<12) (by
       simp only[Bool.and_eq_true,Bool.not_eq_true',decide_eq_true_eq,decide_eq_false_iff_not];constructor
       ·rintro ⟨⟨x1,x2⟩,x3⟩;exact⟨x2,x1,x3⟩
       ·rintro ⟨x1,x2,x3⟩;exact⟨⟨x2,x1⟩,x3⟩)]
      by_cases h4:low=true/\i=1/\d<12
      ·rw[if_pos h4,deT h4.2.1,h4.1,deT h4.2.2];show((zbb_p1 (f:Int) true t ((a+i:Nat):Int) st key cd bd out op nm).bind _)=_;rw[p_unit1,if_pos (show true=true from rfl),if_pos (by unfold qDq;exact .inr (.inl ⟨rfl,.inr h4.2⟩))];rfl
      ·rw[if_neg h4,p_unit1,obS];by_cases h5:low=false/\i=1/\u=13/\12<=d
       ·rw[if_pos (by rw[h5.1,deT h5.2.1,deT h5.2.2.1,deT h5.2.2.2];rfl),if_pos (by unfold qDq;exact .inr (.inr h5))];rfl
       ·rw[if_neg (by
         intro h6;simp only[Bool.and_eq_true,Bool.not_eq_true',decide_eq_true_eq] at h6;exact h5 ⟨h6.1.1.2,h6.1.1.1,h6.1.2,h6.2⟩),if_neg (by
         unfold qDq;rintro (h6 | ⟨h6,h7 | h7⟩ | h6)
         ·exact h2 h6
         ·exact h3 ⟨h6,h7⟩
         ·exact h4 ⟨h6,h7⟩
         ·exact h5 h6)]
        exact tail
   by_cases h3:qDq low i u (hexS (bAt t (a+i:Nat)))
   ·rw[if_pos h3] at hst ⊢;exact⟨_,e1 hst⟩
   ·rw[if_neg h3] at hst ⊢;have h0:0<=hexS (bAt t (a+i:Nat)):=by
     unfold qDq at h3;simp only[not_or] at h3;omega
    rw[e2 hst];exact p_unit0 t hs low f a m (i+1) _ (by omega) (by omega) (by omega)
def unitP(t:BA)(e:Int)(r:Rd Int):json_reader × Int × Bool:=match r with
 | .bad c b=>(⟨t,e,st,out,op,nm,key,c,(b:Int)⟩,0,false)
 | .ok b u=>(⟨t,(b:Int),st,out,op,nm,key,cd,bd⟩,u,true)
theorem p_unit(t:BA)(hs:t.size<=3000000)(low:Bool)(f a:Nat)(ha:a<=t.size):∃e:Int,zbb_s ⟨t,(a:Int),st,out,op,nm,key,cd,bd⟩ (f:Int) low=some (unitP st out op nm key cd bd t e (qFp t low f 4 0 a 0)):=by
 obtain⟨e,he⟩:=p_unit0 st out op nm key cd bd t hs low f a 4 0 0 rfl (by omega) (by decide);refine⟨e,?_⟩;unfold zbb_s;rw[Nat.add_zero] at he;dsimp only;rw[show((0:Nat):Int)=0 from rfl] at he;rw[he,obS];cases qFp t low f 4 0 a 0 with
 | bad c b=>rfl
 | ok b u=>rfl
theorem p_pt0(t:BA)(hs:t.size<=3000000)(f a:Nat)(ha:a<=t.size):∃e:Int,zax_p0 (f:Int) 2 0 t (a:Int) st key cd bd out op nm [92,117]=some (
  if bAt t a<0 then .inl (0,false,t,e,st,key,31,(t.size:Int),nm)
  else if bAt t a≠92 then .inl (0,false,t,e,st,key,33,(f:Int),nm)
  else if bAt t (a+1:Nat)<0 then .inl (0,false,t,e,st,key,31,(t.size:Int),nm)
  else if bAt t (a+1:Nat)≠117 then .inl (0,false,t,e,st,key,33,(f:Int),nm)
  else .inr ((a+2:Nat):Int)):=by
 have e1:∀ {i b:Int} {x},qCu (f:Int) 2 i t b st key cd bd out op nm [92,117]=some (.inr x)->zax_p0 (f:Int) 2 i t b st key cd bd out op nm [92,117]=some x:=λh=>qAf h
 have e2:∀ {i b j b':Int},qCu (f:Int) 2 i t b st key cd bd out op nm [92,117]=some (.inl (j,b'))->zax_p0 (f:Int) 2 i t b st key cd bd out op nm [92,117]=zax_p0 (f:Int) 2 j t b' st key cd bd out op nm [92,117]:=λh=>qAm h
 have hst:∀i b:Nat,i<2->b<=t.size->qCu (f:Int) 2 (i:Int) t (b:Int) st key cd bd out op nm [92,117]=some (if bAt t b<0 then .inr (.inl (0,false,t,(b:Int),st,key,31,(t.size:Int),nm))
   else if bAt t b≠(if i=0 then 92 else 117) then .inr (.inl (0,false,t,(b:Int),st,key,33,(f:Int),nm)) else .inl (((i+1:Nat):Int),((b+1:Nat):Int))):=by
  intro i b hi hb;unfold qCu;rw[deT (by omega),cnT,qAa (by simp only[List.length_cons,List.length_nil];omega),qAa (by simp only[List.length_cons,List.length_nil];omega),Int.toNat_natCast];have hg:([92,117]:List Int).getD i (ET.dft .u8)=if i=0 then 92 else 117:=by
   have:i=0\/i=1:=by omega
   rcases this with rfl | rfl <;> rfl
  rw[hg];by_cases h1:b=t.size
  ·have hb:bAt t b = -1:=qBl (by omega);rw[if_pos (show bAt t b<0 by omega),deT (show(b:Int)=t.size by omega),cnT,p_odd,obS];subst h1;rfl
  ·have hb:=bAt_nn (s:=t) (i:=b) (by omega) (by omega);rw[if_neg (show ¬bAt t b<0 by omega),deF (show ¬(b:Int)=t.size by omega),cnF,qAa (by omega)];by_cases h2:bAt t b=(if i=0 then 92 else 117)
   ·rw[deT h2,Bool.not_true,cnF,if_neg (λh=>h h2),qAa (by unfold qAc;omega),qAa (by unfold qAc;omega)];rfl
   ·rw[deF h2,Bool.not_false,cnT,if_pos h2];rfl
 have h0:=hst 0 a (by decide) ha;rw[show((0:Nat):Int)=0 from rfl,if_pos (show(0:Nat)=0 from rfl)] at h0;by_cases c0:bAt t a<0
 ·rw[if_pos c0] at h0;exact⟨_,by rw[if_pos c0];exact e1 h0⟩
 ·rw[if_neg c0] at h0;simp only[if_neg c0];by_cases c1:bAt t a≠92
  ·rw[if_pos c1] at h0;exact⟨_,by rw[if_pos c1];exact e1 h0⟩
  ·rw[if_neg c1] at h0;simp only[if_neg c1];have hl:=qA8 (t:=t) (a:=a) (by omega);have h1:=hst 1 (a+1) (by decide) (by omega);rw[if_neg (show ¬(1:Nat)=0 by decide)] at h1;rw[e2 h0];by_cases c2:bAt t (a+1:Nat)<0
   ·rw[if_pos c2] at h1;exact⟨_,by rw[if_pos c2];exact e1 h1⟩
   ·rw[if_neg c2] at h1;simp only[if_neg c2];by_cases c3:bAt t (a+1:Nat)≠117
    ·rw[if_pos c3] at h1;exact⟨_,by rw[if_pos c3];exact e1 h1⟩
    ·rw[if_neg c3] at h1;refine⟨0,?_⟩;rw[if_neg c3];refine(e2 h1).trans (e1 ?_);unfold qCu;rfl
def saysP(t:BA)(g:json_reader × Int × Bool)(r:Rd Int):Prop:=match r with
 | .bad c b=>g.1.code=c/\g.1.bad=(b:Int)/\g.2.2=false
 | .ok b u=>g=(⟨t,(b:Int),st,out,op,nm,key,cd,bd⟩,u,true)
theorem p_point(t:BA)(hs:t.size<=3000000)(f:Nat)(hf:f+2<=t.size):∃g,zax_s ⟨t,((f+2:Nat):Int),st,out,op,nm,key,cd,bd⟩ (f:Int)=some g/\saysP st out op nm key cd bd t g (match qFp t false f 4 0 (f+2) 0 with
  | .bad c b=>.bad c b
  | .ok b u=>if u<55296\/57343<u then .ok b u else pairR t f b u):=by
 unfold zax_s;obtain⟨e,he⟩:=p_unit st out op nm key cd bd t hs false f (f+2) hf;rw[he,obS];cases h7:qFp t false f 4 0 (f+2) 0 with
 | bad k b=>exact⟨_,rfl,rfl,rfl,rfl⟩
 | ok b u =>
  have h8:=fourR_ok h7;have h10:=h8.2.2.2.2.2 rfl;show ∃g,(bif(((!true) || decide (u<55296)) || decide (57343<u)) then _ else _)=_/\_
  rw[qA5 (p:=u<55296\/57343<u) (by simp)];dsimp only [unitP];by_cases h9:u<55296\/57343<u
  ·rw[if_pos h9,if_pos h9];exact⟨_,rfl,rfl⟩
  ·rw[if_neg h9,if_neg h9,qAa (by decide)];obtain⟨e,he⟩:=p_pt0 st out op nm key cd bd t hs f b h8.2.1;rw[show(([(92:Int),(117:Int)].length:Int))=2 from rfl,he,obS];unfold pairR;by_cases c0:bAt t b<0
   ·rw[if_pos c0,if_pos c0];exact⟨_,rfl,rfl,rfl,rfl⟩
   rw[if_neg c0,if_neg c0];by_cases c1:bAt t b≠92
   ·rw[if_pos c1,if_pos c1];exact⟨_,rfl,rfl,rfl,rfl⟩
   rw[if_neg c1,if_neg c1];by_cases c2:bAt t (b+1:Nat)<0
   ·rw[if_pos c2,if_pos c2];exact⟨_,rfl,rfl,rfl,rfl⟩
   rw[if_neg c2,if_neg c2];by_cases c3:bAt t (b+1:Nat)≠117
   ·rw[if_pos c3,if_pos c3];exact⟨_,rfl,rfl,rfl,rfl⟩
   rw[if_neg c3,if_neg c3];have hl2:=qA8 (t:=t) (a:=b+1) (by omega);simp only[Sum.elim_inr];obtain⟨e2,he2⟩:=p_unit st out op nm key cd bd t hs true f (b+2) (by omega);rw[he2,obS];cases h11:qFp t true f 4 0 (b+2) 0 with
   | bad k e =>
    simp only[unitP];rw[qAa (by unfold qCk;omega),qAa (by omega),qAa (by unfold qCk;omega),qAa (by unfold qCk;omega),qAa (by unfold qCk;omega),qAa (by unfold qCk;omega)];exact⟨_,rfl,rfl,rfl,rfl⟩
   | ok e w =>
    have h12:=fourR_ok h11;have h13:=h12.2.2.2.2.1 rfl;simp only[unitP];rw[qAa (by unfold qCk;omega),qAa (by omega),qAa (by unfold qCk;omega),qAa (by unfold qCk;omega),qAa (by unfold qCk;omega),qAa (by unfold qCk;omega)];refine⟨_,rfl,?_⟩;simp only[saysP];rw[show(65536:Int)+(u - 55296)*1024+(w - 56320)=65536+1024*(u - 55296)+w - 56320 by omega]
theorem p_esc0(c:Int)(a:Nat)(ha:a<=3000000):zao_p0 c 34 34 92 92 47 47 98 8 102 12 110 10 114 13 116 9 0 (a:Int)=some (if saidS c<0 then .inr () else .inl (saidS c,true,((a+1:Nat):Int))):=by
 have e1:∀ {i:Int} {x},qCt c 34 34 92 92 47 47 98 8 102 12 110 10 114 13 116 9 i (a:Int)=some (.inr x)->zao_p0 c 34 34 92 92 47 47 98 8 102 12 110 10 114 13 116 9 i (a:Int)=some x:=λh=>qAf h
 have e2:∀ {i j:Int},qCt c 34 34 92 92 47 47 98 8 102 12 110 10 114 13 116 9 i (a:Int)=some (.inl j)->zao_p0 c 34 34 92 92 47 47 98 8 102 12 110 10 114 13 116 9 i (a:Int)=zao_p0 c 34 34 92 92 47 47 98 8 102 12 110 10 114 13 116 9 j (a:Int):=λh=>qAm h
 have key:∀(n:Nat),n<8->∀(x y:Int),([34,34,92,92,47,47,98,8,102,12,110,10,114,13,116,9]:List Int).getD (n*2) 0=x->([34,34,92,92,47,47,98,8,102,12,110,10,114,13,116,9]:List Int).getD (n*2+1) 0=y->0<=y/\y<128 ->
   qCt c 34 34 92 92 47 47 98 8 102 12 110 10 114 13 116 9 (n:Int) (a:Int)=some (if c=x then .inr (.inl (y,true,((a+1:Nat):Int))) else .inl ((n+1:Nat):Int)):=by
  intro n hn x y hx hy hr;unfold qCt;rw[deT (by omega),cnT,qAa (by omega),Int.toNat_natCast,Nat.add_zero,hx,hy];by_cases h:c=x
  ·rw[deT h,cnT,if_pos h,qAa (by unfold qAc;omega),qAa (by unfold qCk;omega)];rfl
  ·rw[deF h,cnF,if_neg h,qAa (by unfold qAc;omega)];rfl
 have k0:=key 0 (by decide) 34 34 rfl rfl (by decide);have k1:=key 1 (by decide) 92 92 rfl rfl (by decide);have k2:=key 2 (by decide) 47 47 rfl rfl (by decide);have k3:=key 3 (by decide) 98 8 rfl rfl (by decide);have k4:=key 4 (by decide) 102 12 rfl rfl (by decide);have k5:=key 5 (by decide) 110 10 rfl rfl (by decide);have k6:=key 6 (by decide) 114 13 rfl rfl (by decide);have k7:=key 7 (by decide) 116 9 rfl rfl (by decide);rw[show((0:Nat):Int)=0 from rfl] at k0;unfold saidS;by_cases h0:c=34
 ·rw[if_pos h0] at k0;rw[e1 k0,h0];rfl
 rw[if_neg h0] at k0;rw[e2 k0];by_cases h1:c=92
 ·rw[if_pos h1] at k1;rw[show((0+1:Nat):Int)=((1:Nat):Int) from rfl,e1 k1,h1];rfl
 rw[if_neg h1] at k1;rw[show((0+1:Nat):Int)=((1:Nat):Int) from rfl,e2 k1];by_cases h2:c=47
 ·rw[if_pos h2] at k2;rw[show((1+1:Nat):Int)=((2:Nat):Int) from rfl,e1 k2,h2];rfl
 rw[if_neg h2] at k2;rw[show((1+1:Nat):Int)=((2:Nat):Int) from rfl,e2 k2,if_neg (show ¬(c=34\/c=92\/c=47) by omega)];by_cases h3:c=98
 ·rw[if_pos h3] at k3;rw[show((2+1:Nat):Int)=((3:Nat):Int) from rfl,e1 k3,h3];rfl
 rw[if_neg h3] at k3;rw[show((2+1:Nat):Int)=((3:Nat):Int) from rfl,e2 k3,if_neg h3];by_cases h4:c=102
 ·rw[if_pos h4] at k4;rw[show((3+1:Nat):Int)=((4:Nat):Int) from rfl,e1 k4,h4];rfl
 rw[if_neg h4] at k4;rw[show((3+1:Nat):Int)=((4:Nat):Int) from rfl,e2 k4,if_neg h4];by_cases h5:c=110
 ·rw[if_pos h5] at k5;rw[show((4+1:Nat):Int)=((5:Nat):Int) from rfl,e1 k5,h5];rfl
 rw[if_neg h5] at k5;rw[show((4+1:Nat):Int)=((5:Nat):Int) from rfl,e2 k5,if_neg h5];by_cases h6:c=114
 ·rw[if_pos h6] at k6;rw[show((5+1:Nat):Int)=((6:Nat):Int) from rfl,e1 k6,h6];rfl
 rw[if_neg h6] at k6;rw[show((5+1:Nat):Int)=((6:Nat):Int) from rfl,e2 k6,if_neg h6];by_cases h7:c=116
 ·rw[if_pos h7] at k7;rw[show((6+1:Nat):Int)=((7:Nat):Int) from rfl,e1 k7,h7];rfl
 rw[if_neg h7] at k7;rw[show((6+1:Nat):Int)=((7:Nat):Int) from rfl,e2 k7,if_neg h7,if_pos (by decide)];refine e1 ?_;unfold qCt;rfl
theorem p_esc(t:BA)(hs:t.size<=3000000)(f:Nat)(hf:f<t.size):∃g,zao_s ⟨t,(f:Int),st,out,op,nm,key,cd,bd⟩=some g/\saysP st out op nm key cd bd t g (escR t f):=by
 unfold zao_s escR;dsimp only;rw[qAa (by unfold qAc;omega),show(f:Int)+1=((f+1:Nat):Int) by omega,qFr,obS];by_cases h1:f+1=t.size
 ·rw[deT (by omega),cnT,if_pos (by rw[qBl (by omega)];decide),p_odd];exact⟨_,rfl,rfl,by show(((f+1:Nat)):Int)=(t.size:Int);omega,rfl⟩
 ·have hb:=bAt_nn (s:=t) (i:=(f+1:Nat)) (by omega) (by omega);have hn:nextC t (f+1)=bAt t (f+1:Nat):=by unfold nextC;rw[if_pos (by omega)]
  rw[deF (by omega),cnF,if_neg (by omega),hn];by_cases h2:bAt t (f+1:Nat)=117
  ·rw[deT h2,cnT,if_pos h2,qAa (by unfold qAc;omega),show((f+1:Nat):Int)+1=((f+2:Nat):Int) by omega];obtain⟨g,hg,hg2⟩:=p_point st out op nm key cd bd t hs f (by omega);rw[hg,obS];refine⟨_,rfl,?_⟩;revert hg2;cases qFp t false f 4 0 (f+2) 0 with
   | bad c b=>exact λh=>h
   | ok b u =>
    dsimp only;generalize (if u<55296\/57343<u then Rd.ok b u else pairR t f b u)=r
    intro h;cases r with
    | bad c b=>exact h
    | ok b u =>
     have h:g=_:=h;rw[h];rfl
  ·rw[deF h2,cnF,if_neg h2,p_esc0 _ _ (by omega),obS];by_cases h3:saidS (bAt t (f+1:Nat))<0
   ·rw[if_pos h3,if_pos h3];exact⟨_,rfl,rfl,rfl,rfl⟩
   ·rw[if_neg h3,if_neg h3];exact⟨_,rfl,rfl⟩
theorem or8_128{y:Int}(h:0<=y/\y<64):qBr .u8 128 y=128+y:=by
 have key:∀n:Fin 64,qBr .u8 128 (n.val:Int)=128+(n.val:Int):=by decide +kernel
 have:=key ⟨y.toNat,by omega⟩;simpa[Int.toNat_of_nonneg h.1] using this
theorem or8_192{y:Int}(h:0<=y/\y<32):qBr .u8 192 y=192+y:=by
 have key:∀n:Fin 32,qBr .u8 192 (n.val:Int)=192+(n.val:Int):=by decide +kernel
 have:=key ⟨y.toNat,by omega⟩;simpa[Int.toNat_of_nonneg h.1] using this
theorem or8_224{y:Int}(h:0<=y/\y<16):qBr .u8 224 y=224+y:=by
 have key:∀n:Fin 16,qBr .u8 224 (n.val:Int)=224+(n.val:Int):=by decide +kernel
 have:=key ⟨y.toNat,by omega⟩;simpa[Int.toNat_of_nonneg h.1] using this
theorem or8_240{y:Int}(h:0<=y/\y<8):qBr .u8 240 y=240+y:=by
 have key:∀n:Fin 8,qBr .u8 240 (n.val:Int)=240+(n.val:Int):=by decide +kernel
 have:=key ⟨y.toNat,by omega⟩;simpa[Int.toNat_of_nonneg h.1] using this
theorem and8_63{y:Int}(h:0<=y/\y<256):qCl .u8 y 63=y % 64:=by
 have key:∀n:Fin 256,qCl .u8 (n.val:Int) 63=(n.val:Int) % 64:=by decide +kernel
 have:=key ⟨y.toNat,by omega⟩;simpa[Int.toNat_of_nonneg h.1] using this
theorem p_rune(p:List Int)(hp:p.length<=12000000)(u:Int)(hu:Code u):zcp_s p u=some (p++utfL u):=by
 unfold Code at hu;unfold zcp_s utfL;rw[show u % 4294967296=u by omega];by_cases h1:u<128
 ·rw[deT (by omega),cnT,if_pos h1,qAa (by simp only[List.length_cons,List.length_nil];omega),qCh (by omega)]
 ·rw[deF (by omega),cnF,if_neg h1];unfold zcq_s;rw[show u % 4294967296=u by omega];by_cases h2:u<2048
  ·rw[deT (by omega),cnT,if_pos h2,qAa (by omega),qAa (by simp only[List.length_cons,List.length_nil];omega),qCh (x:=u / 64) (by omega),or8_192 (by omega),and8_63 (by omega),or8_128 (by omega),obS,show u % 256 % 64=u % 64 by omega]
  ·rw[deF (by omega),cnF,if_neg h2];have three:∀(x:Int),u<65536->zcq_p0 u x true p=some (p++[224+u / 4096,128+u / 64 % 64,128+u % 64]):=by
    intro x h3;unfold zcq_p0;rw[cnT,qAa (by omega),qAa (by omega),qAa (by simp only[List.length_cons,List.length_nil];omega),qCh (x:=u / 4096) (by omega),or8_224 (by omega),and8_63 (by omega),and8_63 (by omega),or8_128 (by omega),or8_128 (by omega),show u % 256 % 64=u % 64 by omega,show u / 64 % 256 % 64=u / 64 % 64 by omega]
   by_cases h3:u<65536
   ·rw[if_pos h3];by_cases h4:u<55296
    ·rw[deT h4,cnT,three _ h3];rfl
    ·rw[deF h4,cnF,deT (by omega),deT (by omega),Bool.true_and,three _ h3];rfl
   ·rw[if_neg h3,deF (show ¬u<55296 by omega),cnF,deT (by omega),deF (by omega),Bool.true_and];unfold zcq_p0;rw[cnF,deT (by omega),deT (by omega),Bool.true_and,cnT,qAa (by omega),qAa (by omega),qAa (by omega),qAa (by simp only[List.length_cons,List.length_nil];omega),qCh (x:=u / 262144) (by omega),or8_240 (by omega),and8_63 (by omega),and8_63 (by omega),and8_63 (by omega),or8_128 (by omega),or8_128 (by omega),or8_128 (by omega),show u % 256 % 64=u % 64 by omega,show u / 64 % 256 % 64=u / 64 % 64 by omega,show u / 4096 % 256 % 64=u / 4096 % 64 by omega];rfl
end Go.Proofs.YtbokbmjcodoccabDoor
namespace Go.Proofs.YtbokbmjcodoccabDoor
open Go.Eng
variable (st:Int) (out:List Eng.Node) (op:List Int) (nm:List (MapC × Unit)) (key:BA) (cd bd:Int)
theorem by8_out{t:BA}{i:Nat}(h:t.size<=i):by8 t i=0:=by
 unfold by8;cases t with
 | mk d =>
  have:ByteArray.get! ⟨d⟩ i=d[i]!:=rfl;rw[this,getElem!_neg d i (by show ¬i<d.size;exact Nat.not_lt.2 h)];rfl
theorem by8_tail(t:BA)(a i:Nat)(ha:a<=t.size):by8 (t.extract a t.size) i=by8 t (a+i):=by
 have hsz:(t.extract a t.size).size=t.size - a:=by rw[ByteArray.size_extract];omega
 by_cases h:a+i<t.size
 ·have h1:=by8_in (t:=t.extract a t.size) (i:=i) (by omega);have h2:=by8_in h;rw[bAt_tail t a i (by omega)] at h1;rw[show((a+i:Nat):Int)=(a:Int)+(i:Int) by omega] at h2;omega
 ·rw[by8_out (by omega),by8_out (by omega)]
theorem dec_tail(t:BA)(a:Nat)(ha:a<t.size):Lib.decodeGo (t.extract a t.size)=Utf8.decode t a:=by
 have hsz:(t.extract a t.size).size=t.size - a:=by rw[ByteArray.size_extract];omega
 unfold Lib.decodeGo;rw[if_neg (by omega),Lib.decode_at,Lib.decode_at,hsz];have h0:=by8_tail t a 0 (by omega);have h1:=by8_tail t a 1 (by omega);have h2:=by8_tail t a 2 (by omega);have h3:=by8_tail t a 3 (by omega);unfold by8 at h0 h1 h2 h3;simp only[Nat.zero_add,Nat.add_zero,Nat.sub_zero] at *
 rw[h0,h1,h2,h3]
theorem full_tail(t:BA)(a:Nat)(ha:a<t.size):fullS (t.extract a t.size)=qGj (t.size - a) (by8 t a) (by8 t (a+1)) (by8 t (a+2)):=by
 have hsz:(t.extract a t.size).size=t.size - a:=by rw[ByteArray.size_extract];omega
 have h0:=by8_tail t a 0 (by omega);have h1:=by8_tail t a 1 (by omega);have h2:=by8_tail t a 2 (by omega);unfold fullS;rw[hsz];unfold by8 at *
 simp only[Nat.add_zero] at *
 rw[h0,h1,h2]
theorem p_sq(t:BA)(hs:t.size<=3000000)(a:Nat)(ha:a<t.size)(h:128<=by8 t a):∃g,zaz_s ⟨t,(a:Int),st,out,op,nm,key,cd,bd⟩=some g /\
  (if seqK t a=0 then g=(⟨t,(a:Int),st,out,op,nm,key,cd,bd⟩,(seqW t a:Int),true) else g.1.code=seqK t a/\g.1.bad=(if seqK t a=31 then(t.size:Int) else(a:Int))/\g.2.2=false):=by
 obtain⟨d1,d2⟩:=seq_dec ha h;have hc:=seqK_cases t a;unfold zaz_s;dsimp only;rw[qAa (by omega),Int.toNat_natCast];unfold qBe;rw[obS,dec_tail t a ha];by_cases h0:seqK t a=0
 ·have hw:=seqW_in ha h h0;have e:=d1 h0;dsimp only;rw[e,qA5 (p:=True) (by
   simp only[Bool.or_eq_true,decide_eq_true_eq,iff_true];right;omega),if_pos trivial]
  exact⟨_,rfl,by rw[if_pos h0]⟩
 ·obtain⟨e1,e2⟩:=d2 h0;rw[e1];show ∃g,(bif((!decide ((65533:Int)=65533)) || decide ((1:Int)<1)) then _ else _)=_/\_
  rw[deT rfl,deF (by decide),Bool.not_true,Bool.or_false,cnF,qAa (by omega)];unfold qBt;rw[qAa (by rw[ByteArray.size_extract];omega),obS,full_tail t a ha,e2];by_cases h1:seqK t a=31
  ·rw[deT h1,Bool.not_true,Bool.not_false,cnT];exact⟨_,rfl,by rw[if_neg h0,if_pos h1];exact⟨h1.symm,rfl,rfl⟩⟩
  ·rw[deF h1,Bool.not_false,Bool.not_true,cnF];exact⟨_,rfl,by rw[if_neg h0,if_neg h1];exact⟨by show(32:Int)=_;omega,rfl,rfl⟩⟩
def saysT(t:BA)(g:BA × Bool × BA × Int × Int × BA × Int × Int × (List (MapC × Unit)))(r:Rd (List Int)):Prop:=match r with
 | .bad c b=>g.2.1=false/\g.2.2.2.2.2.2.1=c/\g.2.2.2.2.2.2.2.1=(b:Int)
 | .ok b l=>g=(qAq l,true,t,(b:Int),st,key,cd,bd,nm)
theorem p_quo0(t:BA)(hs:t.size<=3000000):∀(n a:Nat) (acc:List Int),t.size - a<n->a<=t.size->acc.length<=4*a->∃g,zay_p0 t (a:Int) st key cd bd out op nm acc=some g/\saysT st nm key cd bd t g (quoR t n a acc)
 | 0,a,acc,h,_,_=>by omega
 | n+1,a,acc,h,ha,hacc=>by
  have hst:∀ {x},qBj t (a:Int) st key cd bd out op nm acc=some (.inr x)->zay_p0 t (a:Int) st key cd bd out op nm acc=some x:=λh=>qAf h
  have hnx:∀ {b:Nat} {acc':List Int},qBj t (a:Int) st key cd bd out op nm acc=some (.inl (t,(b:Int),st,key,cd,bd,nm,acc'))->zay_p0 t (a:Int) st key cd bd out op nm acc=zay_p0 t (b:Int) st key cd bd out op nm acc':=λh=>qAm h
  have hb:=qC4 t a;unfold quoR;by_cases hend:a=t.size
  ·have hb:bAt t a = -1:=qBl (by omega);rw[if_pos (show bAt t a<32 by omega)];refine⟨((⟨#[]⟩:BA),false,t,(a:Int),st,key,31,(a:Int),nm),hst ?_,rfl,rfl,rfl⟩;unfold qBj;rw[deT (show(a:Int)=t.size by omega),cnT];rfl
  ·have hl:a<t.size:=by omega
   have hb0:=bAt_nn (s:=t) (i:=a) (by omega) (by omega);by_cases h2:bAt t a=34
   ·rw[if_neg (show ¬bAt t a<32 by omega),if_pos h2];refine⟨(qAq acc,true,t,((a+1:Nat):Int),st,key,cd,bd,nm),hst ?_,rfl⟩;unfold qBj;rw[deF (show ¬(a:Int)=t.size by omega),cnF,qAa (by omega),deT h2,cnT,qAa (by unfold qAc;omega)];rfl
   ·by_cases h3:bAt t a=92
    ·rw[if_neg (show ¬bAt t a<32 by omega),if_neg h2,if_pos h3];obtain⟨g,hg,hg2⟩:=p_esc st out op nm key cd bd t hs a hl;cases h4:escR t a with
     | bad c b =>
      rw[h4] at hg2;obtain⟨e1,e2,e3⟩:=hg2;refine⟨((⟨#[]⟩:BA),false,g.1.text,g.1.at_,g.1.state,g.1.key,g.1.code,g.1.bad,g.1.names),hst ?_,rfl,e1,e2⟩;unfold qBj;rw[deF (show ¬(a:Int)=t.size by omega),cnF,qAa (by omega),deF h2,cnF,deT h3,cnT,hg,obS,e3];rfl
     | ok b u =>
      rw[h4] at hg2;have hg2:g=(⟨t,(b:Int),st,out,op,nm,key,cd,bd⟩,u,true):=hg2;have h5:=escR_ok h4;have h6:=utfL_len u;dsimp only;rw[hnx (b:=b) (acc':=acc++utfL u) (by
       unfold qBj;rw[deF (show ¬(a:Int)=t.size by omega),cnF,qAa (by omega),deF h2,cnF,deT h3,cnT,hg,obS,hg2];dsimp only;rw[Bool.not_true,cnF,p_rune acc (by omega) u h5.2.2];rfl)]
      exact p_quo0 t hs n b (acc++utfL u) (by omega) (by omega) (by rw[List.length_append];omega)
    ·by_cases h1:bAt t a<32
     ·rw[if_pos h1];refine⟨((⟨#[]⟩:BA),false,t,(a:Int),st,key,31,(a:Int),nm),hst ?_,rfl,rfl,rfl⟩;unfold qBj;rw[deF (show ¬(a:Int)=t.size by omega),cnF,qAa (by omega),deF h2,cnF,deF h3,cnF,deT h1,cnT];rfl
     ·rw[if_neg h1,if_neg h2,if_neg h3];by_cases h4:bAt t a<128
      ·rw[if_pos h4,hnx (b:=a+1) (acc':=acc++[bAt t a]) (by
        unfold qBj;rw[deF (show ¬(a:Int)=t.size by omega),cnF,qAa (by omega),deF h2,cnF,deF h3,cnF,deF h1,cnF,deT h4,cnT,qAa (by simp only[List.length_cons,List.length_nil];omega),qAa (by unfold qAc;omega)];rfl)]
       exact p_quo0 t hs n (a+1) (acc++[bAt t a]) (by omega) (by omega) (by rw[List.length_append,List.length_singleton];omega)
      ·rw[if_neg h4];have h8:128<=by8 t a:=by have:=by8_in hl;omega
       obtain⟨g,hg,hg2⟩:=p_sq st out op nm key cd bd t hs a hl h8;have hkc:=seqK_cases t a;by_cases h5:seqK t a=0
       ·have hw:=seqW_in hl h8 h5;rw[if_pos h5] at hg2 ⊢;have hsz:(t.extract a (a+seqW t a)).size<=4:=by rw[ByteArray.size_extract];omega
        rw[hnx (b:=a+seqW t a) (acc':=acc++qAw (t.extract a (a+seqW t a))) (by
         unfold qBj;rw[deF (show ¬(a:Int)=t.size by omega),cnF,qAa (by omega),deF h2,cnF,deF h3,cnF,deF h1,cnF,deF h4,cnF,hg,obS,hg2];dsimp only;rw[Bool.not_true,cnF,show(a:Int)+(seqW t a:Int)=((a+seqW t a:Nat):Int) by omega,qAa (by unfold qAc;omega),qAa (by omega),Int.toNat_natCast,Int.toNat_natCast,qAa (by omega),qAa (by unfold qAc;omega)])]
        have h9:(qAw (t.extract a (a+seqW t a))).length<=4:=by
         unfold qAw;rw[List.length_map,Array.length_toList];exact hsz
        exact p_quo0 t hs n (a+seqW t a) _ (by omega) (by omega) (by rw[List.length_append];omega)
       ·rw[if_neg h5] at hg2 ⊢;obtain⟨e1,e2,e3⟩:=hg2;refine⟨((⟨#[]⟩:BA),false,g.1.text,g.1.at_,g.1.state,g.1.key,g.1.code,g.1.bad,g.1.names),hst ?_,rfl,e1,?_⟩
        ·unfold qBj;rw[deF (show ¬(a:Int)=t.size by omega),cnF,qAa (by omega),deF h2,cnF,deF h3,cnF,deF h1,cnF,deF h4,cnF,hg,obS,e3];rfl
        ·rw[e2];split <;> rfl
def saysU(t:BA)(g:json_reader × BA × Bool)(r:Rd (List Int)):Prop:=match r with
 | .bad c b=>g.1.code=c/\g.1.bad=(b:Int)/\g.2.2=false
 | .ok b l=>g=(⟨t,(b:Int),st,out,op,nm,key,cd,bd⟩,qAq l,true)
theorem p_quo(t:BA)(hs:t.size<=3000000)(a:Nat)(ha:a<t.size):∃g,zay_s ⟨t,(a:Int),st,out,op,nm,key,cd,bd⟩=some g/\saysU st out op nm key cd bd t g (quoR t (t.size+1) (a+1) []):=by
 obtain⟨g,h1,h2⟩:=p_quo0 st out op nm key cd bd t hs (t.size+1) (a+1) [] (by omega) (by omega) (by simp);unfold zay_s;dsimp only;rw[qAa (by unfold qAc;omega),show(a:Int)+1=((a+1:Nat):Int) by omega,h1,obS];refine⟨_,rfl,?_⟩;cases h:quoR t (t.size+1) (a+1) [] with
 | bad c b =>
  rw[h] at h2;exact⟨h2.2.1,h2.2.2,h2.1⟩
 | ok b l =>
  rw[h] at h2;have h2:g=(qAq l,true,t,(b:Int),st,key,cd,bd,nm):=h2;rw[h2];rfl
def bumpN(n:Eng.Node):Eng.Node:=⟨n.kind,n.key,n.text,n.whole,n.int,n.kids+1⟩
def setK(k:BA)(n:Eng.Node):Eng.Node:=⟨n.kind,k,n.text,n.whole,n.int,n.kids⟩
def upO(op:List Int)(out:List Eng.Node):List Eng.Node:=match op.getLast? with
 | none=>out
 | some p=>out.set p.toNat (bumpN (out.getD p.toNat (ET.dft .node)))
def TopOK(op:List Int)(out:List Eng.Node):Prop:=op=[]\/∃op' p,op=op'++[((p:Nat):Int)]/\p<out.length/\qAc ((out.getD p (ET.dft .node)).kids+1)
def layO(op:List Int)(out:List Eng.Node)(key:BA)(n:Eng.Node):List Eng.Node:=upO op out++[setK key n]
theorem upO_len(op:List Int)(out:List Eng.Node):(upO op out).length=out.length:=by
 unfold upO;split <;> simp
theorem layO_len(op:List Int)(out:List Eng.Node)(key:BA)(n:Eng.Node):(layO op out key n).length=out.length+1:=by
 unfold layO;rw[List.length_append,upO_len];rfl
theorem last_snoc(op':List Int)(p:Int):(op'++[p]).getLast?=some p:=by simp
theorem snocI_toNat(op':List Int)(p:Int):Int.toNat (((op'++[p]).length:Int) - 1)=op'.length:=by
 rw[List.length_append,List.length_singleton];omega
theorem snocI_getD(op':List Int)(p d:Int):(op'++[p]).getD op'.length d=p:=by simp[List.getD_eq_getElem?_getD]
theorem p_lay(t:BA)(a:Int)(n:Eng.Node)(hop:TopOK op out)(ho:op.length<=100)(hl:out.length<=3000000):zaq_s ⟨t,a,st,out,op,nm,key,cd,bd⟩ n=some ⟨t,a,st,layO op out key n,op,nm,⟨#[]⟩,cd,bd⟩:=by
 unfold zaq_s;dsimp only;rcases hop with rfl | ⟨op',p,rfl,hp,hk⟩
 ·rw[deF (by simp),cnF,qAa (by simp only[List.length_cons,List.length_nil];omega)];rfl
 ·have hlen:(op'++[(p:Int)]).length=op'.length+1:=by simp
  rw[hlen] at ho;rw[deT (by rw[hlen];omega),cnT,snocI_toNat,snocI_getD,Int.toNat_natCast];rw[qAa (by rw[hlen];unfold qAc;omega),qAa (by rw[hlen];omega),qAa (by rw[hlen];omega),qAa (by omega),qAa hp,qAa hp,qAa hk,qAa (by omega),qAa hp,qAa hp,qAa (by simp only[List.length_set,List.length_cons,List.length_nil];omega)];unfold layO upO;rw[last_snoc];rfl
def stB(op:List Int):Int:=if op.length=0 then 6 else 5
def saysN(t:BA)(g:Bool × BA × Int × Int × BA × Int × Int × (List (MapC × Unit)) × (List Eng.Node))(f:Nat)(r:Rd Unit):Prop:=match r with
 | .bad c b=>g.1=false/\g.2.2.2.2.2.1=c/\g.2.2.2.2.2.2.1=(b:Int)
 | .ok b _=>g=(true,t,(b:Int),stB op,⟨#[]⟩,cd,bd,nm,layO op out key (nd0 4 (t.extract f b) (qC9 (t.extract f b)).2 (qC9 (t.extract f b)).1 0))
variable (hop:TopOK op out) (ho:op.length<=100) (hl:out.length<=3000000)
include hop ho hl in
theorem p_num3(t:BA)(hs:t.size<=3000000){f b:Nat}(h1:f<=b)(h2:b<=t.size)(u:Unit):∃g,zav_p3 (f:Int) t (b:Int) st key cd bd out op nm=some g/\saysN out op nm key cd bd t g f (.ok b u):=by
 unfold zav_p3;rw[qAa (by omega),Int.toNat_natCast,Int.toNat_natCast,whole_j _ (ext_le t f b hs),obS,p_lay _ _ _ _ _ _ _ _ _ _ hop ho hl,obS,p_behind,obS];exact⟨_,rfl,rfl⟩
include hop ho hl in
theorem p_numD(t:BA)(hs:t.size<=3000000){f a:Nat}(h1:f<=a)(h2:a<=t.size){F:Bool × BA × Int × Int × BA × Int × Int × (List (MapC × Unit)) × (List Eng.Node)->Option (Bool × BA × Int × Int × BA × Int × Int × (List (MapC × Unit)) × (List Eng.Node))}(hF:∀x,F x=some x) :
  ∃g,((zam_s ⟨t,(a:Int),st,out,op,nm,key,cd,bd⟩).bind λr72 =>
   bif(!r72.2) then(
    some (false,r72.1.text,r72.1.at_,r72.1.state,r72.1.key,r72.1.code,r72.1.bad,r72.1.names,out))
   else(
    (zav_p3 (f:Int) r72.1.text r72.1.at_ r72.1.state r72.1.key r72.1.code r72.1.bad out op r72.1.names).bind F))=some g/\saysN out op nm key cd bd t g f (digR t a):=by
 rw[p_dig st out op nm key cd bd t hs,obS];cases h:digR t a with
 | bad c b=>exact⟨_,rfl,rfl,rfl,rfl⟩
 | ok b x =>
  have:=qEh h2 h;obtain⟨g,hg,hg2⟩:=p_num3 st out op nm key cd bd hop ho hl t hs (f:=f) (b:=b) (by omega) this.2.1 x;refine⟨g,?_,hg2⟩;show((zav_p3 (f:Int) t (b:Int) st key cd bd out op nm).bind F)=_;rw[hg,obS,hF]
include hop ho hl in
theorem p_num2(t:BA)(hs:t.size<=3000000){f a:Nat}(h1:f<=a)(h2:a<=t.size):∃g,zav_p2 (f:Int) t (a:Int) st key cd bd out op nm=some g/\saysN out op nm key cd bd t g f (powR t a):=by
 unfold zav_p2 powR;rw[qFr,obS];rw[qA5 (p:=bAt t a=101\/bAt t a=69) (by
  simp only[Bool.or_eq_true,decide_eq_true_eq];rw[qFb (by decide),qFb (by decide)])]
 by_cases h3:bAt t a=101\/bAt t a=69
 ·have ha:=qA8 (t:=t) (a:=a) (by omega);rw[if_pos h3,if_pos h3,qAa (by unfold qAc;omega),show(a:Int)+1=((a+1:Nat):Int) by omega,qFr,obS];rw[qA5 (p:=bAt t (a+1:Nat)=43\/bAt t (a+1:Nat)=45) (by
   simp only[Bool.or_eq_true,decide_eq_true_eq];rw[qFb (by decide),qFb (by decide)])]
  by_cases h4:bAt t (a+1:Nat)=43\/bAt t (a+1:Nat)=45
  ·have hb:=qA8 (t:=t) (a:=a+1) (by omega);rw[if_pos h4,if_pos h4,qAa (by unfold qAc;omega),show((a+1:Nat):Int)+1=((a+2:Nat):Int) by omega];exact p_numD st out op nm key cd bd hop ho hl t hs (by omega) (by omega) (λx=>rfl)
  ·rw[if_neg h4,if_neg h4];exact p_numD st out op nm key cd bd hop ho hl t hs (by omega) (by omega) (λx=>rfl)
 ·rw[if_neg h3,if_neg h3];obtain⟨g,hg,hg2⟩:=p_num3 st out op nm key cd bd hop ho hl t hs h1 h2 ();rw[hg];exact⟨_,rfl,hg2⟩
include hop ho hl in
theorem p_num1(t:BA)(hs:t.size<=3000000){f a:Nat}(h1:f<=a)(h2:a<=t.size):∃g,zav_p1 (f:Int) t (a:Int) st key cd bd out op nm=some g/\saysN out op nm key cd bd t g f (match dotR t a with
  | .bad c b=>.bad c b
  | .ok b _=>powR t b):=by
 unfold zav_p1 dotR;rw[qFr,obS,qA5 (p:=bAt t a=46) (by
  simp only[decide_eq_true_eq];rw[qFb (by decide)])]
 by_cases h3:bAt t a=46
 ·have ha:=qA8 (t:=t) (a:=a) (by omega);rw[if_pos h3,if_pos h3,qAa (by unfold qAc;omega),show(a:Int)+1=((a+1:Nat):Int) by omega,p_dig st out op nm key cd bd t hs,obS];cases h:digR t (a+1) with
  | bad c b=>exact⟨_,rfl,rfl,rfl,rfl⟩
  | ok b x =>
   have:=qEh (by omega) h;obtain⟨g,hg,hg2⟩:=p_num2 st out op nm key cd bd hop ho hl t hs (f:=f) (a:=b) (by omega) this.2.1;refine⟨g,?_,hg2⟩;show((zav_p2 (f:Int) t (b:Int) st key cd bd out op nm).bind _)=_;rw[hg];rfl
 ·rw[if_neg h3,if_neg h3];obtain⟨g,hg,hg2⟩:=p_num2 st out op nm key cd bd hop ho hl t hs h1 h2;rw[hg];exact⟨_,rfl,hg2⟩
include hop ho hl in
theorem p_num0(t:BA)(hs:t.size<=3000000){f a:Nat}(h1:f<=a)(h2:a<=t.size):∃g,zav_p0 (f:Int) t (a:Int) st key cd bd out op nm=some g/\saysN out op nm key cd bd t g f (match zeroR t a with
  | .bad c b=>.bad c b
  | .ok b _=>match dotR t b with
   | .bad c b=>.bad c b
   | .ok b _=>powR t b):=by
 unfold zav_p0 zeroR;rw[qFr,obS,qA5 (p:=bAt t a=48) (by
  simp only[decide_eq_true_eq];rw[qFb (by decide)])]
 by_cases h3:bAt t a=48
 ·have ha:=qA8 (t:=t) (a:=a) (by omega);rw[if_pos h3,if_pos h3,qAa (by unfold qAc;omega),show(a:Int)+1=((a+1:Nat):Int) by omega];obtain⟨g,hg,hg2⟩:=p_num1 st out op nm key cd bd hop ho hl t hs (f:=f) (a:=a+1) (by omega) (by omega);rw[hg];exact⟨_,rfl,hg2⟩
 ·rw[if_neg h3,if_neg h3,p_dig st out op nm key cd bd t hs,obS];cases h:digR t a with
  | bad c b=>exact⟨_,rfl,rfl,rfl,rfl⟩
  | ok b x =>
   have:=qEh (by omega) h;obtain⟨g,hg,hg2⟩:=p_num1 st out op nm key cd bd hop ho hl t hs (f:=f) (a:=b) (by omega) this.2.1;refine⟨g,?_,hg2⟩;show((zav_p1 (f:Int) t (b:Int) st key cd bd out op nm).bind _)=_;rw[hg];rfl
def saysV(t:BA)(g:json_reader × Bool)(r:Rd (List Eng.Node)):Prop:=match r with
 | .bad c b=>g.1.code=c/\g.1.bad=(b:Int)/\g.2=false
 | .ok b l=>∃n,l=[n]/\g=(⟨t,(b:Int),stB op,layO op out key n,op,nm,⟨#[]⟩,cd,bd⟩,true)
include hop ho hl in
theorem p_num(t:BA)(hs:t.size<=3000000){a:Nat}(ha:a<t.size):∃g,zav_s ⟨t,(a:Int),st,out,op,nm,key,cd,bd⟩=some g/\saysV out op nm key cd bd t g (match numR t a with
  | .bad c b=>.bad c b
  | .ok b _=>.ok b [nd0 4 (t.extract a b) (qC9 (t.extract a b)).2 (qC9 (t.extract a b)).1 0]):=by
 have fin:∀(g:Bool × BA × Int × Int × BA × Int × Int × (List (MapC × Unit)) × (List Eng.Node)) (r:Rd Unit),saysN out op nm key cd bd t g a r->saysV out op nm key cd bd t ((⟨g.2.1,g.2.2.1,g.2.2.2.1,g.2.2.2.2.2.2.2.2,op,g.2.2.2.2.2.2.2.1,g.2.2.2.2.1,g.2.2.2.2.2.1,g.2.2.2.2.2.2.1⟩:json_reader),g.1) (match r with
  | .bad c b=>.bad c b
  | .ok b _=>.ok b [nd0 4 (t.extract a b) (qC9 (t.extract a b)).2 (qC9 (t.extract a b)).1 0]):=by
  intro g r h;cases r with
  | bad c b=>exact⟨h.2.1,h.2.2,h.1⟩
  | ok b x =>
   have h:g=_:=h;rw[h];exact⟨_,rfl,rfl⟩
 unfold zav_s numR signS;rw[qFr,obS,qA5 (p:=bAt t a=45) (by
  simp only[decide_eq_true_eq];rw[qFb (by decide)])]
 by_cases h3:bAt t a=45
 ·rw[if_pos h3,if_pos h3];dsimp only;rw[qAa (by unfold qAc;omega),show(a:Int)+1=((a+1:Nat):Int) by omega];obtain⟨g,hg,hg2⟩:=p_num0 st out op nm key cd bd hop ho hl t hs (f:=a) (a:=a+1) (by omega) (by omega);rw[hg,obS];exact⟨_,rfl,fin g _ hg2⟩
 ·rw[if_neg h3,if_neg h3];obtain⟨g,hg,hg2⟩:=p_num0 st out op nm key cd bd hop ho hl t hs (f:=a) (a:=a) (by omega) (by omega);dsimp only;rw[hg,obS];exact⟨_,rfl,fin g _ hg2⟩
omit hop ho hl in
theorem p_lit0(t:BA)(hs:t.size<=3000000)(w:BA)(hw:w.size<=10)(hw0:∀i:Nat,i<w.size->0<bAt w i)(a:Nat):∀(j i:Nat),i+j=w.size->a+i<=t.size->∃e:Int,zar_p0 w (w.size:Int) (i:Int) t ((a+i:Nat):Int) st key cd bd out op nm=some (match litR t ((qAw w).drop i) (a+i) with
  | .bad c b=>.inl (false,t,e,st,key,c,(b:Int),nm)
  | .ok b _=>.inr (b:Int))
 | 0,i,h,ha=>by
  rw[List.drop_eq_nil_of_le (by simp only[qAw,List.length_map,Array.length_toList];show w.size<=i;omega)];refine⟨0,?_⟩;unfold zar_p0;refine qAf ?_;show qCc w (w.size:Int) (i:Int) t ((a+i:Nat):Int) st key cd bd out op nm=_;unfold qCc;rw[deF (by omega),cnF];rfl
 | j+1,i,h,ha=>by
  have hb:=hw0 i (by omega);have e1:∀ {x},qCc w (w.size:Int) (i:Int) t ((a+i:Nat):Int) st key cd bd out op nm=some (.inr x)->zar_p0 w (w.size:Int) (i:Int) t ((a+i:Nat):Int) st key cd bd out op nm=some x:=λh=>qAf h
  have e2:∀ {i' a':Int},qCc w (w.size:Int) (i:Int) t ((a+i:Nat):Int) st key cd bd out op nm=some (.inl (i',a'))->zar_p0 w (w.size:Int) (i:Int) t ((a+i:Nat):Int) st key cd bd out op nm=zar_p0 w (w.size:Int) i' t a' st key cd bd out op nm:=λh=>qAm h
  rw[bytesL_cons (by omega)];unfold litR;have hst:qCc w (w.size:Int) (i:Int) t ((a+i:Nat):Int) st key cd bd out op nm=some (if bAt t (a+i:Nat)=bAt w i then .inl (((i+1:Nat):Int),((a+(i+1):Nat):Int)) else .inr (.inl (false,t,((a+i:Nat):Int),st,key,31,((a+i:Nat):Int),nm))):=by
   unfold qCc;rw[deT (by omega),cnT,qAa (by omega),qFr,obS,qAa rfl];by_cases h2:bAt t (a+i:Nat)=bAt w i
   ·rw[deT ((qFb hb).2 h2),Bool.not_true,cnF,if_pos h2,qAa (by unfold qAc;omega),qAa (by unfold qAc;omega)];rfl
   ·rw[deF (λh=>h2 ((qFb hb).1 h)),Bool.not_false,cnT,if_neg h2];rfl
  by_cases h2:bAt t (a+i:Nat)=bAt w i
  ·have hlt:=qA8 (t:=t) (a:=a+i) (by omega);rw[if_pos h2] at hst ⊢;rw[e2 hst];exact p_lit0 t hs w hw hw0 a j (i+1) (by omega) (by omega)
  ·rw[if_neg h2] at hst ⊢;exact⟨_,e1 hst⟩
include hop ho hl in
theorem p_lit(t:BA)(hs:t.size<=3000000)(w:BA)(hw:w.size<=10)(hw0:∀i:Nat,i<w.size->0<bAt w i)(a:Nat)(ha:a<=t.size)(k:Int):∃g,zar_s ⟨t,(a:Int),st,out,op,nm,key,cd,bd⟩ w k=some g/\saysV out op nm key cd bd t g (match litR t (qAw w) a with
  | .bad c b=>.bad c b
  | .ok b _=>.ok b [nd0 k ⟨#[]⟩ false 0 0]):=by
 obtain⟨e,he⟩:=p_lit0 st out op nm key cd bd t hs w hw hw0 a w.size 0 (by omega) (by omega);rw[show((0:Nat):Int)=0 from rfl,List.drop_zero,Nat.add_zero] at he;unfold zar_s;dsimp only;rw[he,obS];cases litR t (qAw w) a with
 | bad c b=>exact⟨_,rfl,rfl,rfl,rfl⟩
 | ok b x =>
  simp only[Sum.elim_inr];rw[p_lay _ _ _ _ _ _ _ _ _ _ hop ho hl,obS,p_behind,obS];exact⟨_,rfl,_,rfl,rfl⟩
include hop ho hl in
theorem p_scal(t:BA)(hs:t.size<=3000000)(a:Nat)(ha:a<t.size)(hn:¬(bAt t a=91\/bAt t a=123)):∃g,zbc_s ⟨t,(a:Int),st,out,op,nm,key,cd,bd⟩ (bAt t a)=some g/\saysV out op nm key cd bd t g (qFw t a):=by
 unfold zbc_s qFw;rw[qA5 (p:=bAt t a=91\/bAt t a=123) (by simp),if_neg hn];have same:∀(g:json_reader × Bool) (r:Rd (List Eng.Node)),saysV out op nm key cd bd t g r->saysV out op nm key cd bd t (⟨g.1.text,g.1.at_,g.1.state,g.1.out,op,g.1.names,g.1.key,g.1.code,g.1.bad⟩,g.2) r:=by
  intro g r h;cases r with
  | bad c b=>exact h
  | ok b l =>
   obtain⟨n,h1,h2⟩:=h;rw[h2];exact⟨n,h1,rfl⟩
 by_cases h1:bAt t a=34
 ·rw[deT h1,cnT,if_pos h1];obtain⟨g,hg,hg2⟩:=p_quo st out op nm key cd bd t hs a ha;rw[hg,obS];cases h:quoR t (t.size+1) (a+1) [] with
  | bad c b =>
   rw[h] at hg2;obtain⟨e1,e2,e3⟩:=hg2;rw[e3,cnF];exact⟨_,rfl,e1,e2,rfl⟩
  | ok b l =>
   rw[h] at hg2;have hg2:g=(⟨t,(b:Int),st,out,op,nm,key,cd,bd⟩,qAq l,true):=hg2;rw[hg2];dsimp only;rw[cnT,p_lay _ _ _ _ _ _ _ _ _ _ hop ho hl,obS,p_behind,obS];exact⟨_,rfl,_,rfl,rfl⟩
 ·rw[deF h1,cnF,if_neg h1,qA5 (p:=bAt t a=45\/(48<=bAt t a/\bAt t a<=57)) (by simp)];by_cases h2:bAt t a=45\/(48<=bAt t a/\bAt t a<=57)
  ·rw[if_pos h2,if_pos h2];obtain⟨g,hg,hg2⟩:=p_num st out op nm key cd bd hop ho hl t hs ha;rw[hg,obS];exact⟨_,rfl,same _ _ hg2⟩
  ·rw[if_neg h2,if_neg h2];by_cases h3:bAt t a=110
   ·rw[deT h3,cnT,if_pos h3];obtain⟨g,hg,hg2⟩:=p_lit st out op nm key cd bd hop ho hl t hs ⟨#[110,117,108,108]⟩ (by decide) (by decide) a (by omega) 1;rw[hg,obS];exact⟨_,rfl,same _ _ hg2⟩
   ·rw[deF h3,cnF,if_neg h3];by_cases h4:bAt t a=102
    ·rw[deT h4,cnT,if_pos h4];obtain⟨g,hg,hg2⟩:=p_lit st out op nm key cd bd hop ho hl t hs ⟨#[102,97,108,115,101]⟩ (by decide) (by decide) a (by omega) 2;rw[hg,obS];exact⟨_,rfl,same _ _ hg2⟩
    ·rw[deF h4,cnF,if_neg h4];by_cases h5:bAt t a=116
     ·rw[deT h5,cnT,if_pos h5];obtain⟨g,hg,hg2⟩:=p_lit st out op nm key cd bd hop ho hl t hs ⟨#[116,114,117,101]⟩ (by decide) (by decide) a (by omega) 3;rw[hg,obS];exact⟨_,rfl,same _ _ hg2⟩
     ·rw[deF h5,cnF,if_neg h5,p_odd,obS];exact⟨_,rfl,rfl,rfl,rfl⟩
end Go.Proofs.YtbokbmjcodoccabDoor
namespace Go.Proofs.YtbokbmjcodoccabDoor
open Go.Eng
def Adv(t:BA)(val:Nat->Rd (List Eng.Node)):Prop:=∀a b l,a<=t.size->val a=.ok b l->a<b/\b<=t.size/\l≠[]/\l.length<=b - a
theorem zeroR_adv{t:BA}{a b:Nat}{x:Unit}(ha:a<=t.size)(h:zeroR t a=.ok b x):a<b/\b<=t.size:=by
 unfold zeroR at h;split at h
 ·have:=qA8 (t:=t) (a:=a) (by omega);cases h;omega
 ·have:=qEh ha h;omega
theorem dotR_adv{t:BA}{a b:Nat}{x:Unit}(ha:a<=t.size)(h:dotR t a=.ok b x):a<=b/\b<=t.size:=by
 unfold dotR at h;split at h
 ·have:=qA8 (t:=t) (a:=a) (by omega);have:=qEh (by omega) h;omega
 ·cases h;omega
theorem powR_adv{t:BA}{a b:Nat}{x:Unit}(ha:a<=t.size)(h:powR t a=.ok b x):a<=b/\b<=t.size:=by
 unfold powR at h;split at h
 ·have:=qA8 (t:=t) (a:=a) (by omega);split at h
  ·have:=qA8 (t:=t) (a:=a+1) (by omega);have:=qEh (by omega) h;omega
  ·have:=qEh (by omega) h;omega
 ·cases h;omega
theorem numR_adv{t:BA}{a b:Nat}{x:Unit}(ha:a<t.size)(h:numR t a=.ok b x):a<b/\b<=t.size:=by
 unfold numR at h;have hs:a<=signS t a/\signS t a<=t.size:=by unfold signS;split <;> omega
 split at h
 ·cases h
 ·rename_i b1 x1 h1;have:=zeroR_adv hs.2 h1;split at h
  ·cases h
  ·rename_i b2 x2 h2;have:=dotR_adv this.2 h2;have:=powR_adv this.2 h;omega
theorem scalR_adv(t:BA):Adv t (qFw t):=by
 intro a b l ha h;unfold qFw at h;split at h
 ·have:=qA8 (t:=t) (a:=a) (by omega);split at h
  ·cases h
  ·rename_i h1;have:=quoR_ok h1 (by simp);cases h;exact⟨by omega,this.2.1,by simp,by simp;omega⟩
 ·split at h
  ·rename_i hc;have:=qA8 (t:=t) (a:=a) (by omega);split at h
   ·cases h
   ·rename_i h1;have:=numR_adv this h1;cases h;exact⟨this.1,this.2,by simp,by simp;omega⟩
  ·split at h
   ·split at h
    ·cases h
    ·rename_i h1;have:=litR_adv (by decide) h1;cases h;exact⟨by rw[this.1];simp,this.2 (by simp),by simp,by rw[this.1];simp⟩
   ·split at h
    ·split at h
     ·cases h
     ·rename_i h1;have:=litR_adv (by decide) h1;cases h;exact⟨by rw[this.1];simp,this.2 (by simp),by simp,by rw[this.1];simp⟩
    ·split at h
     ·split at h
      ·cases h
      ·rename_i h1;have:=litR_adv (by decide) h1;cases h;exact⟨by rw[this.1];simp,this.2 (by simp),by simp,by rw[this.1];simp⟩
     ·cases h
theorem setKey_len(k:BA)(l:List Eng.Node):(qFx k l).length=l.length:=by cases l <;> rfl
theorem setKey_nil{k:BA}{l:List Eng.Node}(h:l≠[]):qFx k l≠[]:=by cases l <;> simp_all [qFx]
theorem itemR_adv{t:BA}{val:Nat->Rd (List Eng.Node)}(hv:Adv t val){obj:Bool}{names:List BA}{a b:Nat}{x:BA × List Eng.Node}(ha:a<=t.size)(h:qFq t val obj names a=.ok b x) :
  a<b/\b<=t.size/\x.2≠[]/\x.2.length<=b - a:=by
 unfold qFq at h;split at h
 ·split at h
  ·have:=qA8 (t:=t) (a:=a) (by omega);split at h
   ·cases h
   ·rename_i b1 l h1;have h2:=quoR_ok h1 (by simp);split at h
    ·cases h
    ·split at h
     ·rename_i hc;have h3:=qA8 (t:=t) (a:=qAl t b1) (by omega);have h4:=qBy t b1;have h5:=qBy t (qAl t b1+1);have h6:=qBg t (qAl t b1+1) (by omega);split at h
      ·cases h
      ·rename_i h7;have h8:=hv _ _ _ h6 h7;cases h;exact⟨by omega,h8.2.1,setKey_nil h8.2.2.1,by simp only[setKey_len];omega⟩
     ·cases h
  ·cases h
 ·split at h
  ·cases h
  ·rename_i h7;have h8:=hv _ _ _ ha h7;cases h;exact h8
theorem qHb(obj:Bool):0<=qD2 obj:=by cases obj <;> decide
theorem rowR_adv{t:BA}{val:Nat->Rd (List Eng.Node)}(hv:Adv t val){obj:Bool}:∀ {m a k:Nat} {acc:List Eng.Node} {names:List BA} {b:Nat} {x:Nat × List Eng.Node},a<=t.size->rowR t val obj m a k acc names=.ok b x ->
  a<b/\b<=t.size/\x.2.length<=acc.length+(b - a)/\k<x.1/\x.1 - k<=b - a
 | 0,a,k,acc,names,b,x,ha,h=>by cases h
 | m+1,a,k,acc,names,b,x,ha,h=>by
  unfold rowR at h;split at h
  ·cases h
  ·rename_i b1 x1 h1;have h2:=itemR_adv hv ha h1;have h4:=qBy t b1;have h3:=qHb obj;split at h
   ·have h5:=qA8 (t:=t) (a:=qAl t b1) (by omega);cases h;exact⟨by omega,by omega,by simp only[List.length_append];omega,by simp,by simp only;omega⟩
   ·split at h
    ·have h5:=qA8 (t:=t) (a:=qAl t b1) (by omega);have h6:=qBy t (qAl t b1+1);have h7:=qBg t (qAl t b1+1) (by omega);have h8:=rowR_adv hv h7 h;rw[List.length_append] at h8;exact⟨by omega,h8.2.1,by omega,by omega,by omega⟩
    ·cases h
theorem boxR_adv{t:BA}{val:Nat->Rd (List Eng.Node)}(hv:Adv t val){obj:Bool}{a b:Nat}{l:List Eng.Node}(ha:a<t.size)(h:boxR t val obj a=.ok b l):a<b/\b<=t.size/\l≠[]/\l.length<=b - a:=by
 unfold boxR at h;have h1:=qBy t (a+1);have h2:=qBg t (a+1) (by omega);have h3:=qHb obj;split at h
 ·have h5:=qA8 (t:=t) (a:=qAl t (a+1)) (by omega);cases h;exact⟨by omega,by omega,by simp,by simp;omega⟩
 ·split at h
  ·cases h
  ·rename_i h4;have h5:=rowR_adv hv h2 h4;cases h;exact⟨by omega,h5.2.1,by simp,by
    have:=h5.2.2.1;simp only[List.length_nil,Nat.zero_add] at this;rw[List.length_cons];omega⟩
theorem qFd(t:BA):∀d,Adv t (valR t d)
 | 0=>λa b l ha h=>by
  unfold valR at h;split at h
  ·cases h
  ·exact scalR_adv t a b l ha h
 | d+1=>λa b l ha h=>by
  unfold valR at h;split at h
  ·exact boxR_adv (qFd t d) (qA8 (t:=t) (a:=a) (by omega)) h
  ·exact scalR_adv t a b l ha h
def GotIs(g:qHi)(r:Rd (List Eng.Node)):Prop:=match r with
 | .bad c b=>g.code=c/\g.bad=(b:Int)/\c≠0
 | .ok b l=>g.at_=(b:Int)/\g.l=l/\g.code=0
theorem r_scal(t:BA)(hs:t.size<=3000000)(self:BA->Int->Int->Option qHi)(a:Nat)(ha:a<=t.size)(o:Int)(hn:¬(bAt t a=91\/bAt t a=123)):∃g,(∀self,zch_t self t (a:Int) o=some g)/\GotIs g (qFw t a):=by
 unfold qFw;have h0:∀self,zch_t self t (a:Int) o=zch_t (λ_ _ _=>none) t (a:Int) o:=by
  intro self;have hb:(decide (bAt t a=91) || decide (bAt t a=123))=false:=by simpa using hn
  unfold zch_t;simp only[r_at,obS,hb,cnF]
 suffices h:∃g,zch_t (λ_ _ _=>none) t (a:Int) o=some g/\GotIs g (qFw t a) by
  obtain⟨g,h1,h2⟩:=h;exact⟨g,λself=>(h0 self).trans h1,by unfold qFw at h2;exact h2⟩
 unfold zch_t qFw;rw[r_at,obS,qA5 (p:=bAt t a=91\/bAt t a=123) (by simp),if_neg hn];by_cases h1:bAt t a=34
 ·have hl:=qA8 (t:=t) (a:=a) (by omega);rw[deT h1,cnT,if_pos h1,qAa (by unfold qAc;omega),show(a:Int)+1=((a+1:Nat):Int) by omega];obtain⟨g,hg,hg2⟩:=r_quo t hs (a+1) (by omega);rw[hg,obS];cases h:quoR t (t.size+1) (a+1) [] with
  | bad c b =>
   rw[h] at hg2;obtain⟨e1,e2,e3⟩:=hg2;rw[deF (by rw[e1];exact e3),cnF];exact⟨_,rfl,e1,e2,e3⟩
  | ok b l =>
   rw[h] at hg2;have hg2:g=⟨(b:Int),[],qAq l,0,0⟩:=hg2;rw[hg2];exact⟨_,rfl,rfl,rfl,rfl⟩
 ·rw[deF h1,cnF,if_neg h1,qA5 (p:=bAt t a=45\/(48<=bAt t a/\bAt t a<=57)) (by simp)];by_cases h2:bAt t a=45\/(48<=bAt t a/\bAt t a<=57)
  ·have hl:=qA8 (t:=t) (a:=a) (by omega);rw[if_pos h2,if_pos h2,r_num t hs hl];cases h:numR t a with
   | bad c b =>
    refine⟨_,rfl,rfl,rfl,?_⟩;have:c=31:=by
     unfold numR at h;split at h
     ·rename_i h3;cases h;unfold zeroR at h3;split at h3
      ·cases h3
      ·exact qDp h3
     ·split at h
      ·rename_i h3;cases h;unfold dotR at h3;split at h3
       ·exact qDp h3
       ·cases h3
      ·unfold powR at h;split at h
       ·exact qDp h
       ·cases h
    omega
   | ok b x=>exact⟨_,rfl,rfl,rfl,rfl⟩
  ·rw[if_neg h2,if_neg h2];have lit:∀(w:BA) (k:Int),w.size<=10->∃g,((zcb_s t (a:Int) w k).bind λr6=>some r6)=some g/\GotIs g (match litR t (qAw w) a with
     | .bad c b=>.bad c b
     | .ok b _=>.ok b [nd0 k ⟨#[]⟩ false 0 0]):=by
    intro w k hw;rw[r_lit t hs w hw a (by omega) k];cases h:litR t (qAw w) a with
    | bad c b =>
     have:=litR_code h;exact⟨_,rfl,rfl,rfl,by omega⟩
    | ok b x=>exact⟨_,rfl,rfl,rfl,rfl⟩
   by_cases h3:bAt t a=110
   ·rw[deT h3,cnT,if_pos h3];exact lit ⟨#[110,117,108,108]⟩ 1 (by decide)
   ·rw[deF h3,cnF,if_neg h3];by_cases h4:bAt t a=102
    ·rw[deT h4,cnT,if_pos h4];exact lit ⟨#[102,97,108,115,101]⟩ 2 (by decide)
    ·rw[deF h4,cnF,if_neg h4];by_cases h5:bAt t a=116
     ·rw[deT h5,cnT,if_pos h5];exact lit ⟨#[116,114,117,101]⟩ 3 (by decide)
     ·rw[deF h5,cnF,if_neg h5];exact⟨_,rfl,rfl,rfl,by decide⟩
section
variable {t:BA} (hs:t.size<=1000000) {val:Nat->Rd (List Eng.Node)} (hv:Adv t val) {o:Int} {V:Nat->qHi} (hV:∀a,a<=t.size->GotIs (V a) (val a))
include hs hv hV
theorem r_item{obj:Bool}{names:List BA}{a:Nat}(ha:a<=t.size)(nm:List BA)(hnm:obj=true->nm=names)(hnl:nm.length<=2000000) :
  ∃g,(∀self:BA->Int->Int->Option qHi,(∀a:Nat,a<=t.size->self t (a:Int) o=some (V a))->zca_t self t (a:Int) obj nm o=some g)/\(match qFq t val obj names a with
   | .bad c b=>g.code=c/\g.bad=(b:Int)/\c≠0
   | .ok b x=>g.at_=(b:Int)/\g.l=x.2/\g.code=0/\(obj=true->g.s=x.1)):=by
 unfold zca_t qFq;cases obj with
 | false =>
  refine⟨V a,λself hself=>?_,?_⟩
  ·rw[Bool.not_false,cnT,hself a ha];rfl
  ·have:=hV a ha;rw[if_neg (by simp)];cases h:val a with
   | bad c b=>rw[h] at this;exact this
   | ok b l=>rw[h] at this;exact⟨this.1,this.2.1,this.2.2,λh=>by cases h⟩
 | true =>
  have hnm:=hnm rfl;subst hnm;simp only[if_true,Bool.not_true,cnF];by_cases h1:bAt t a=34
  ·have hl:=qA8 (t:=t) (a:=a) (by omega);obtain⟨g,hg,hg2⟩:=r_quo t (by omega) (a+1) (by omega);rw[if_pos h1];have e0:∀self:BA->Int->Int->Option qHi,((qDn t (a:Int)).bind λr2 =>
    bif(!decide (r2=(34:Int))) then(
     (qEw (31:Int) (a:Int)).bind λr3 =>
     some r3)
    else(
     gd (qAc ((a:Int)+(1:Int))) <|
     (zcd_s t ((a:Int)+(1:Int))).bind λr4 =>
     bif(!decide (r4.code=(0:Int))) then(
      some r4)
     else(
      (zbs_s nm r4.s).bind λr5 =>
      bif r5 then(
       (qEw (34:Int) (a:Int)).bind λr6 =>
       some r6)
      else(
       (zcg_s t r4.at_).bind λr7 =>
       (qDn t r7).bind λr8 =>
       bif(!decide (r8=(58:Int))) then(
        (qEw (31:Int) r7).bind λr9 =>
        some r9)
       else(
        gd (qAc (r7+(1:Int))) <|
        (zcg_s t (r7+(1:Int))).bind λr10 =>
        (self t r10 o).bind λr11 =>
        bif decide (r11.code=(0:Int)) then(
         gd (0<=(0:Int)/\(0:Int)<r11.l.length) <|
         gd ((Int.toNat (0:Int))<r11.l.length) <|
         gd ((Int.toNat (0:Int))<r11.l.length) <|
         some (⟨r11.at_,(r11.l.set (Int.toNat (0:Int)) (⟨(r11.l.getD (Int.toNat (0:Int)) (ET.dft .node)).kind,r4.s,(r11.l.getD (Int.toNat (0:Int)) (ET.dft .node)).text,(r11.l.getD (Int.toNat (0:Int)) (ET.dft .node)).whole,(r11.l.getD (Int.toNat (0:Int)) (ET.dft .node)).int,(r11.l.getD (Int.toNat (0:Int)) (ET.dft .node)).kids⟩:Eng.Node)),r4.s,r11.code,r11.bad⟩:qHi))
        else(
         some r11)))))) =
     bif(!decide (g.code=(0:Int))) then(
      some g)
     else(
      (zbs_s nm g.s).bind λr5 =>
      bif r5 then(
       (qEw (34:Int) (a:Int)).bind λr6 =>
       some r6)
      else(
       (zcg_s t g.at_).bind λr7 =>
       (qDn t r7).bind λr8 =>
       bif(!decide (r8=(58:Int))) then(
        (qEw (31:Int) r7).bind λr9 =>
        some r9)
       else(
        gd (qAc (r7+(1:Int))) <|
        (zcg_s t (r7+(1:Int))).bind λr10 =>
        (self t r10 o).bind λr11 =>
        bif decide (r11.code=(0:Int)) then(
         gd (0<=(0:Int)/\(0:Int)<r11.l.length) <|
         gd ((Int.toNat (0:Int))<r11.l.length) <|
         gd ((Int.toNat (0:Int))<r11.l.length) <|
         some (⟨r11.at_,(r11.l.set (Int.toNat (0:Int)) (⟨(r11.l.getD (Int.toNat (0:Int)) (ET.dft .node)).kind,g.s,(r11.l.getD (Int.toNat (0:Int)) (ET.dft .node)).text,(r11.l.getD (Int.toNat (0:Int)) (ET.dft .node)).whole,(r11.l.getD (Int.toNat (0:Int)) (ET.dft .node)).int,(r11.l.getD (Int.toNat (0:Int)) (ET.dft .node)).kids⟩:Eng.Node)),g.s,r11.code,r11.bad⟩:qHi))
        else(
         some r11)))):=by
    intro self;rw[r_at,obS,deT h1,Bool.not_true,cnF,qAa (by unfold qAc;omega),show(a:Int)+1=((a+1:Nat):Int) by omega,hg,obS]
   simp only[e0];cases h:quoR t (t.size+1) (a+1) [] with
   | bad c b =>
    rw[h] at hg2;obtain⟨e1,e2,e3⟩:=hg2;refine⟨g,λself _=>?_,e1,e2,e3⟩;rw[deF (by rw[e1];exact e3),Bool.not_false,cnT]
   | ok b l =>
    rw[h] at hg2;have hg2:g=⟨(b:Int),[],qAq l,0,0⟩:=hg2;have hq:=quoR_ok h (by simp);have k1:=qBy t b;have k2:=qBg t b hq.2.1;subst hg2;dsimp only;have e1:∀(X:Option qHi) (Y:Bool->Option qHi),(bif(!decide ((0:Int)=0)) then X else(zbs_s nm (qAq l)).bind Y)=Y (decide (qAq l∈nm)):=by
     intro X Y;rw[deT rfl,Bool.not_true,cnF,p_among _ _ hnl,obS]
    by_cases hm:qAq l∈nm
    ·rw[if_pos hm];refine⟨badG 34 a,λself _=>?_,rfl,rfl,by decide⟩;refine(e1 _ _).trans ?_;rw[deT hm,cnT];rfl
    ·rw[if_neg hm];by_cases hc:bAt t (qAl t b)=58
     ·have hl2:=qA8 (t:=t) (a:=qAl t b) (by omega);have k3:=qBy t (qAl t b+1);have k4:=qBg t (qAl t b+1) (by omega);have hVa:=hV _ k4;rw[if_pos hc];have e2:∀(self:BA->Int->Int->Option qHi),(∀a:Nat,a<=t.size->self t (a:Int) o=some (V a))->∀(A B:Option qHi) (Y:qHi->Option qHi) (D:Int->Option qHi),(bif decide (qAq l∈nm) then A else
        (zcg_s t (b:Int)).bind λr7 =>
        (qDn t r7).bind λr8 =>
        bif(!decide (r8=(58:Int))) then D r7
        else(
         gd (qAc (r7+(1:Int))) <|
         (zcg_s t (r7+(1:Int))).bind λr10 =>
         (self t r10 o).bind Y))=Y (V (qAl t (qAl t b+1))):=by
       intro self hself A B Y D;rw[deF hm,cnF,r_skip t (by omega),obS,r_at,obS,deT hc,Bool.not_true,cnF,qAa (by unfold qAc;omega),show(qAl t b:Int)+1=((qAl t b+1:Nat):Int) by omega,r_skip t (by omega),obS,hself _ k4,obS]
      generalize V (qAl t (qAl t b+1))=v at *
      cases h7:val (qAl t (qAl t b+1)) with
      | bad c e =>
       rw[h7] at hVa;obtain⟨f1,f2,f3⟩:=hVa;refine⟨v,λself hself=>?_,f1,f2,f3⟩;refine(e1 _ _).trans ?_;refine(e2 self hself _ none _ _).trans ?_;rw[deF (by rw[f1];exact f3),cnF]
      | ok e x =>
       rw[h7] at hVa;obtain⟨f1,f2,f3⟩:=hVa;have hx:=(hv _ _ _ k4 h7).2.2.1;cases x with
       | nil=>exact(hx rfl).elim
       | cons n x =>
        refine⟨⟨(e:Int),qFx (qAq l) (n::x),qAq l,0,v.bad⟩,λself hself=>?_,rfl,rfl,rfl,λ_=>rfl⟩;refine(e1 _ _).trans ?_;refine(e2 self hself _ none _ _).trans ?_;rw[deT f3,cnT,qAa (by rw[f2];simp),qAa (by rw[f2];simp),qAa (by rw[f2];simp),f1,f2,f3];rfl
     ·rw[if_neg hc];refine⟨badG 31 (qAl t b),λself _=>?_,rfl,rfl,by decide⟩;refine(e1 _ _).trans ?_;rw[deF hm,cnF,r_skip t (by omega),obS,r_at,obS,deF hc,Bool.not_false,cnT];rfl
  ·rw[if_neg h1];refine⟨badG 31 a,λself _=>?_,rfl,rfl,by decide⟩;rw[r_at,obS,deF h1,Bool.not_false,cnT];rfl
def hdN(obj:Bool)(k:Nat):Eng.Node:=nd0 (qGx obj) ⟨#[]⟩ false 0 (k:Int)
omit hs hv hV in
theorem hd_set(obj:Bool)(k:Nat)(acc:List Eng.Node):(hdN obj k::acc).set (Int.toNat (0:Int)) (⟨((hdN obj k::acc).getD (Int.toNat (0:Int)) (ET.dft .node)).kind,((hdN obj k::acc).getD (Int.toNat (0:Int)) (ET.dft .node)).key,((hdN obj k::acc).getD (Int.toNat (0:Int)) (ET.dft .node)).text,((hdN obj k::acc).getD (Int.toNat (0:Int)) (ET.dft .node)).whole,((hdN obj k::acc).getD (Int.toNat (0:Int)) (ET.dft .node)).int,(((hdN obj k::acc).getD (Int.toNat (0:Int)) (ET.dft .node)).kids)+(1:Int)⟩:Eng.Node)=hdN obj (k+1)::acc:=by
 show(⟨_,_,_,_,_,(k:Int)+1⟩:Eng.Node)::acc=hdN obj (k+1)::acc;unfold hdN nd0;rw[show((k+1:Nat):Int)=(k:Int)+1 by omega];rfl
theorem r_row{obj:Bool}:∀(m a k:Nat) (acc:List Eng.Node) (names nm:List BA),t.size - a<m->a<=t.size->acc.length<=a->k<=a->nm.length<=a->(obj=true->nm=names) ->
  ∃g:Int × BA × Int × Int × (List Eng.Node),(∀self:BA->Int->Int->Option qHi,(∀a:Nat,a<=t.size->self t (a:Int) o=some (V a))->zce_p1 self t (a:Int) obj o (qD2 obj) (hdN obj k::acc) nm=some g)/\(match rowR t val obj m a k acc names with
   | .bad c b=>g.2.2.1=c/\g.2.2.2.1=(b:Int)/\c≠0
   | .ok b x=>g=((b:Int),⟨#[]⟩,0,0,hdN obj x.1::x.2))
 | 0,a,k,acc,names,nm,h,_,_,_,_,_=>by omega
 | m+1,a,k,acc,names,nm,h,ha,hacc,hk,hnl,hnm=>by
  obtain⟨g,hg,hg2⟩:=r_item hs hv hV (o:=o) (obj:=obj) (names:=names) ha nm hnm (by omega);have e1:∀(self:BA->Int->Int->Option qHi) {x},qCw self t (a:Int) obj o (qD2 obj) (hdN obj k::acc) nm=some (.inr x)->zce_p1 self t (a:Int) obj o (qD2 obj) (hdN obj k::acc) nm=some x:=λself _ h=>qAf h
  have e2:∀(self:BA->Int->Int->Option qHi) {a' out' nm'},qCw self t (a:Int) obj o (qD2 obj) (hdN obj k::acc) nm=some (.inl (a',out',nm'))->zce_p1 self t (a:Int) obj o (qD2 obj) (hdN obj k::acc) nm=zce_p1 self t a' obj o (qD2 obj) out' nm':=λself _ _ _ h=>qAm h
  unfold rowR;cases hi:qFq t val obj names a with
  | bad c b =>
   rw[hi] at hg2;obtain⟨f1,f2,f3⟩:=hg2;refine⟨(g.at_,g.s,g.code,g.bad,g.l),λself hself=>e1 self ?_,f1,f2,f3⟩;unfold qCw;rw[hg self hself,obS,deF (by rw[f1];exact f3),Bool.not_false,cnT]
  | ok b x =>
   rw[hi] at hg2;obtain⟨f1,f2,f3,f4⟩:=hg2;dsimp only;have hadv:=itemR_adv hv ha hi;have k1:=qBy t b;have k2:=qBg t b hadv.2.1;have k3:=qHb obj;have pre:∀(self:BA->Int->Int->Option qHi),(∀a:Nat,a<=t.size->self t (a:Int) o=some (V a))->qCw self t (a:Int) obj o (qD2 obj) (hdN obj k::acc) nm =
     bif decide (bAt t (qAl t b)=qD2 obj) then(
      gd (qAc ((qAl t b:Int)+(1:Int))) <|
      some (.inr (((qAl t b:Int)+(1:Int)),(⟨#[]⟩:BA),(0:Int),(0:Int),hdN obj (k+1)::(acc++x.2))))
     else(
      bif decide (bAt t (qAl t b)=(44:Int)) then(
       gd (qAc ((qAl t b:Int)+(1:Int))) <|
       (zcg_s t ((qAl t b:Int)+(1:Int))).bind λr30 =>
       some (.inl (r30,hdN obj (k+1)::(acc++x.2),(nm++[g.s]))))
      else(
       (qEw (31:Int) (qAl t b:Int)).bind λr31 =>
       some (.inr (r31.at_,r31.s,r31.code,r31.bad,r31.l)))):=by
    intro self hself;unfold qCw;rw[hg self hself,obS,deT f3,Bool.not_true,cnF];have hx:=hadv.2.2.2;rw[qAa (by simp only[List.length_cons,List.length_nil];omega),f2,qAa (by simp only[List.length_cons];omega)];rw[show(hdN obj k::acc)++x.2=hdN obj k::(acc++x.2) from rfl];rw[qAa (by simp only[List.length_cons];omega),qAa (by simp),qAa (by simp),qAa (by
     show qAc ((k:Int)+1);unfold qAc;omega),qAa (by simp only[List.length_cons];omega),qAa (by simp),qAa (by simp),hd_set,f1,r_skip t (by omega),obS,r_at,obS]
   by_cases hla:bAt t (qAl t b)=qD2 obj
   ·rw[deT hla] at pre;rw[if_pos hla];refine⟨(((qAl t b+1:Nat):Int),⟨#[]⟩,0,0,hdN obj (k+1)::(acc++x.2)),λself hself=>e1 self ?_,rfl⟩;rw[pre self hself,cnT,qAa (by unfold qAc;omega)];rfl
   ·rw[deF hla] at pre;rw[if_neg hla];by_cases hc:bAt t (qAl t b)=44
    ·have hl2:=qA8 (t:=t) (a:=qAl t b) (by omega);have k4:=qBy t (qAl t b+1);have k5:=qBg t (qAl t b+1) (by omega);rw[deT hc] at pre;rw[if_pos hc];have hx:=hadv.2.2.2;obtain⟨g5,h5,h6⟩:=r_row (obj:=obj) m (qAl t (qAl t b+1)) (k+1) (acc++x.2) (names++[x.1]) (nm++[g.s]) (by omega) k5 (by rw[List.length_append];omega) (by omega) (by rw[List.length_append,List.length_singleton];omega) (λho=>by rw[hnm ho,f4 ho]);refine⟨g5,λself hself=>?_,h6⟩;rw[e2 self (a':=(qAl t (qAl t b+1):Int)) (out':=hdN obj (k+1)::(acc++x.2)) (nm':=nm++[g.s]) (by
      rw[pre self hself,cnF,cnT,qAa (by unfold qAc;omega),show(qAl t b:Int)+1=((qAl t b+1:Nat):Int) by omega,r_skip t (by omega),obS])]
     exact h5 self hself
    ·rw[deF hc] at pre;rw[if_neg hc];refine⟨(0,⟨#[]⟩,31,(qAl t b:Int),[]),λself hself=>e1 self ?_,rfl,rfl,by decide⟩;rw[pre self hself,cnF,cnF];rfl
theorem r_box{obj:Bool}{a:Nat}(ha:a<t.size):∃g,(∀self:BA->Int->Int->Option qHi,(∀a:Nat,a<=t.size->self t (a:Int) o=some (V a))->zce_t self t (a:Int) obj o=some g)/\GotIs g (boxR t val obj a):=by
 have k1:=qBy t (a+1);have k2:=qBg t (a+1) (by omega);have k3:=qHb obj;suffices h:∃g5:Int × BA × Int × Int × (List Eng.Node),(∀self:BA->Int->Int->Option qHi,(∀a:Nat,a<=t.size->self t (a:Int) o=some (V a))->zce_p0 self t (a:Int) obj o (qGx obj) (qD2 obj)=some g5)/\GotIs ⟨g5.1,g5.2.2.2.2,g5.2.1,g5.2.2.1,g5.2.2.2.1⟩ (boxR t val obj a) by
  obtain⟨g5,h1,h2⟩:=h;refine⟨_,λself hself=>?_,h2⟩;unfold zce_t;have h1:=h1 self hself;cases obj with
  | true =>
   rw[cnT];show((zce_p0 self t (a:Int) true o (qGx true) (qD2 true)).bind _)=_;rw[h1];rfl
  | false =>
   rw[cnF];show((zce_p0 self t (a:Int) false o (qGx false) (qD2 false)).bind _)=_;rw[h1];rfl
 have pre:∀self:BA->Int->Int->Option qHi,zce_p0 self t (a:Int) obj o (qGx obj) (qD2 obj) =
   bif decide (bAt t (qAl t (a+1))=qD2 obj) then(
    gd (qAc ((qAl t (a+1):Int)+(1:Int))) <|
    some (((qAl t (a+1):Int)+(1:Int)),(⟨#[]⟩:BA),(0:Int),(0:Int),[hdN obj 0]))
   else(
    (zce_p1 self t (qAl t (a+1):Int) obj o (qD2 obj) [hdN obj 0] []).bind λo32 =>
    some (o32.1,o32.2.1,o32.2.2.1,o32.2.2.2.1,o32.2.2.2.2)):=by
  intro self;unfold zce_p0;rw[qAa (by unfold qAc;omega),show(a:Int)+1=((a+1:Nat):Int) by omega,r_skip t (by omega),obS,r_at,obS];rfl
 unfold boxR;by_cases h:bAt t (qAl t (a+1))=qD2 obj
 ·rw[if_pos h];refine⟨(((qAl t (a+1)+1:Nat):Int),⟨#[]⟩,0,0,[hdN obj 0]),λself _=>?_,rfl,rfl,rfl⟩;rw[pre,deT h,cnT,qAa (by unfold qAc;omega)];rfl
 ·rw[if_neg h];obtain⟨g5,h5,h6⟩:=r_row hs hv hV (o:=o) (obj:=obj) (t.size+1) (qAl t (a+1)) 0 [] [] [] (by omega) k2 (by simp) (by omega) (by simp) (λ_=>rfl);refine⟨g5,λself hself=>?_,?_⟩
  ·rw[pre,deF h,cnF,h5 self hself];rfl
  ·cases hr:rowR t val obj (t.size+1) (qAl t (a+1)) 0 [] [] with
   | bad c b =>
    rw[hr] at h6;exact h6
   | ok b x =>
    rw[hr] at h6;have h6:g5=_:=h6;rw[h6];exact⟨rfl,rfl,rfl⟩
end
theorem value_is(t:BA)(hs:t.size<=1000000):∀d:Nat,d<=32->∀a:Nat,∃g,a<=t.size->(∀n,d<n->zch_n n t (a:Int) (32 - (d:Int))=some g)/\GotIs g (valR t d a):=by
 intro d;induction d with
 | zero =>
  intro hd a;by_cases ha:a<=t.size
  ·unfold valR;by_cases hb:bAt t a=91\/bAt t a=123
   ·refine⟨badG 11 a,λ_=>⟨λn hn=>?_,?_⟩⟩
    ·obtain⟨m,rfl⟩:∃m,n=m+1:=⟨n - 1,by omega⟩;show zch_t (zch_n m) t (a:Int) _=_;unfold zch_t;rw[r_at,obS,qA5 (p:=bAt t a=91\/bAt t a=123) (by simp),if_pos hb];rfl
    ·rw[if_pos hb];exact⟨rfl,rfl,by decide⟩
   ·obtain⟨g,h1,h2⟩:=r_scal t (by omega) (λ_ _ _=>none) a ha (32 - ((0:Nat):Int)) hb;refine⟨g,λ_=>⟨λn hn=>?_,by rw[if_neg hb];exact h2⟩⟩;obtain⟨m,rfl⟩:∃m,n=m+1:=⟨n - 1,by omega⟩;exact h1 _
  ·exact⟨badG 0 0,λh=>(ha h).elim⟩
 | succ d ih =>
  intro hd a;by_cases ha:a<=t.size
  ·unfold valR;by_cases hb:bAt t a=91\/bAt t a=123
   ·obtain⟨V,hV⟩:=Classical.axiomOfChoice (ih (by omega));have hl:=qA8 (t:=t) (a:=a) (by omega);obtain⟨g,h1,h2⟩:=r_box (t:=t) hs (val:=valR t d) (qFd t d) (o:=32 - (d:Int)) (V:=V) (λa ha=>(hV a ha).2) (obj:=decide (bAt t a=123)) hl;refine⟨g,λ_=>⟨λn hn=>?_,by rw[if_pos hb];exact h2⟩⟩;obtain⟨m,rfl⟩:∃m,n=m+1:=⟨n - 1,by omega⟩;show zch_t (zch_n m) t (a:Int) _=_;unfold zch_t;rw[r_at,obS,qA5 (p:=bAt t a=91\/bAt t a=123) (by simp),if_pos hb,deF (by omega),cnF,qAa (by unfold qAc;omega),show(32:Int) - ((d+1:Nat):Int)+1=32 - (d:Int) by omega,h1 _ (λa ha=>(hV a ha).1 m (by omega))];rfl
   ·obtain⟨g,h1,h2⟩:=r_scal t (by omega) (λ_ _ _=>none) a ha (32 - ((d+1:Nat):Int)) hb;refine⟨g,λ_=>⟨λn hn=>?_,by rw[if_neg hb];exact h2⟩⟩;obtain⟨m,rfl⟩:∃m,n=m+1:=⟨n - 1,by omega⟩;exact h1 _
  ·exact⟨badG 0 0,λh=>(ha h).elim⟩
def tellR(r:Rd (List Eng.Node)):(List Eng.Node) × Int × Int:=match r with
 | .bad c b=>([],c,(b:Int))
 | .ok _ l=>(l,0,0)
noncomputable def parseR(t:BA):(List Eng.Node) × Int × Int:=if 262144<t.size then([],10,0) else tellR (readR t)
theorem r_Parse(t:BA):zbq_s t=some (parseR t):=by
 unfold zbq_s parseR;by_cases h:262144<t.size
 ·rw[deT (by omega),cnT,if_pos h]
 ·rw[deF (by omega),cnF,if_neg h];have k:=qBg t 0 (by omega);obtain⟨g,hg⟩:=value_is t (by omega) 32 (by decide) (qAl t 0);obtain⟨h1,h2⟩:=hg k;have hval:zch_s t (qAl t 0:Int) 0=some g:=evt_eq (N:=33) λn hn=>by
   have:=h1 n (by omega);exact this
  rw[show(0:Int)=((0:Nat):Int) from rfl,r_skip t (by omega),obS];rw[show((0:Nat):Int)=0 from rfl,hval,obS];unfold readR;cases hr:valR t 32 (qAl t 0) with
  | bad c b =>
   rw[hr] at h2;obtain⟨f1,f2,f3⟩:=h2;rw[deF (by rw[f1];exact f3),Bool.not_false,cnT,f1,f2];rfl
  | ok b l =>
   rw[hr] at h2;obtain⟨f1,f2,f3⟩:=h2;have hadv:=qFd t 32 _ _ _ k hr;rw[deT f3,Bool.not_true,cnF,f1,r_skip t (by omega),obS];dsimp only;by_cases hl:qAl t b<t.size
   ·rw[deT (by omega),cnT,if_pos hl];rfl
   ·rw[deF (by omega),cnF,if_neg hl,f2];rfl
end Go.Proofs.YtbokbmjcodoccabDoor
