/-
  JsonSpelled: its call returns true.
-/
import Derived.Below
import Derived.Carry
import Derived.ProofKit
import Derived.Deep.Slices
import Derived.Deep.Fields
import Derived.ChangeSame
import Derived.SliceStrings
import Derived.SizedLaws
import Derived.Lib.LaidU8
import Derived.Shelf.Lay
import Derived.Ground.NamesProg
import Derived.Test.YtdcoiccdbgcpaaaDoorPJBack
import Derived.Test.YtdcoiccdbgcpaaaDoorEngN
import Derived.Test.YtdcoiccdbgcpaaaDoorRows
import Derived.Test.YtdcoiccdbgcpaaaDoorEngO
import Derived.Test.YtdcoiccdbgcpaaaDoorProg
namespace Go.Proofs.YtdcoiccdbgcpaaaDoor
open Go.Eng
set_option linter.unusedVariables false
set_option linter.unusedSimpArgs false
theorem and_nat {n k:Nat} {M:Int} (hn:n<4611686018427387904) (hk:k<32) (hM:(BitVec.ofInt 64 M).toNat=2 ^ k - 1):qAw .i64 (n:Int) M=((n % 2 ^ k:Nat):Int):=by
 unfold qAw;show IntKind.i64.wrap ((BitVec.ofInt 64 (n:Int) &&& BitVec.ofInt 64 M).toNat:Int)=_;rw [BitVec.toNat_and,hM,Nat.and_two_pow_sub_one_eq_mod,BitVec.ofInt_natCast,BitVec.toNat_ofNat,Nat.mod_eq_of_lt (show n<2 ^ 64 by omega)];have:=Nat.mod_le n (2 ^ k);exact w64_id (by unfold qAf; omega)
theorem and15 {x:Int} (h:0≤x∧x≤4294967296):qAw .i64 x 15=x % 16:=by
 obtain ⟨n,rfl⟩:=Int.eq_ofNat_of_zero_le h.1;rw [and_nat (k:=4) (by omega) (by decide) (by decide)];omega
theorem and1023 {x:Int} (h:0≤x∧x≤4294967296):qAw .i64 x 1023=x % 1024:=by
 obtain ⟨n,rfl⟩:=Int.eq_ofNat_of_zero_le h.1;rw [and_nat (k:=10) (by omega) (by decide) (by decide)];omega
theorem and63 {x:Int} (h:0≤x∧x≤4294967296):qAw .i64 x 63=x % 64:=by
 obtain ⟨n,rfl⟩:=Int.eq_ofNat_of_zero_le h.1;rw [and_nat (k:=6) (by omega) (by decide) (by decide)];omega
theorem and31' {x:Int} (h:0≤x∧x≤4294967296):qAw .i64 x 31=x % 32:=by
 obtain ⟨n,rfl⟩:=Int.eq_ofNat_of_zero_le h.1;rw [and_nat (k:=5) (by omega) (by decide) (by decide)];omega
theorem and7 {x:Int} (h:0≤x∧x≤4294967296):qAw .i64 x 7=x % 8:=by
 obtain ⟨n,rfl⟩:=Int.eq_ofNat_of_zero_le h.1;rw [and_nat (k:=3) (by omega) (by decide) (by decide)];omega
theorem or_six {u d:Int} (hu:0≤u∧u≤100000000) (hd:0≤d∧d<64):qBq .i64 (u*64) d=64*u+d:=by
 obtain ⟨n,rfl⟩:=Int.eq_ofNat_of_zero_le hu.1;obtain ⟨m,rfl⟩:=Int.eq_ofNat_of_zero_le hd.1;rw [show (n:Int)*64=((2 ^ 6*n:Nat):Int) by omega];have h1:(BitVec.ofInt 64 ((2 ^ 6*n:Nat):Int)).toNat=2 ^ 6*n:=by
  rw [BitVec.ofInt_natCast,BitVec.toNat_ofNat,Nat.mod_eq_of_lt (by omega)]
 have h2:(BitVec.ofInt 64 (m:Int)).toNat=m:=by
  rw [BitVec.ofInt_natCast,BitVec.toNat_ofNat,Nat.mod_eq_of_lt (by omega)]
 unfold qBq;show IntKind.i64.wrap ((BitVec.ofInt 64 ((2 ^ 6*n:Nat):Int) ||| BitVec.ofInt 64 (m:Int)).toNat:Int)=_
 have h3:=Nat.two_pow_add_eq_or_of_lt (i:=6) (b:=m) (by omega) n;rw [BitVec.toNat_or,h1,h2,←h3];have:IntKind.i64.wrap ((2 ^ 6*n+m:Nat):Int)=((2 ^ 6*n+m:Nat):Int):=w64_id (by unfold qAf; omega);rw [this];omega
theorem qE7 {s:BA} {p i size:Nat} {c:Int} (hi:i<size) (hp:p+i<s.size) (hs:s.size≤3000000) (hc:0≤c∧c≤100000000) :
  qDh s (p:Int) c (size:Int) (i:Int)=some (.inl (64*c+(by8 s (p+i):Int) % 64,((i+1:Nat):Int))):=by
 have hb:=qD0 hp;have hl:=by8_lt s (p+i);rw [show ((p+i:Nat):Int)=(p:Int)+i by omega] at hb;unfold qDh;rw [deT (by omega),cnT,qAa (by omega),qAa (by unfold qAf; omega),qAa (by unfold qAf; omega),qAa (by omega),hb,qAa (by unfold qAf; omega),qAa (by unfold qAf; omega),and63 (by omega),or_six hc (by omega)];rfl
theorem point_end {s:BA} {p size:Nat} {c:Int}:qDh s (p:Int) c (size:Int) (size:Int)=some (.inr c):=by
 unfold qDh;rw [deF (by omega),cnF]
theorem p_codepoint {s:BA} {p:Nat} (hp:p<s.size) (hs:s.size≤3000000) (hc:CpOK s p):zbp_s s (p:Int)=some (cpAt s p,(cpW s p:Int)):=by
 have hb:=qD0 hp;have hl:=by8_lt s p;unfold zbp_s;rw [qAa (by omega),hb,qAa (by unfold qAf; omega)];have hle:=hc.le;by_cases h8:by8 s p<128
 ·obtain ⟨e1,e2⟩:=hc.low h8;rw [deF (by omega),cnF,deF (by omega),cnF,deF (by omega),cnF,e1,e2];have:qF0 s (p:Int) (by8 s p:Int) (1:Int)=some ((by8 s p:Int),(1:Int)):=by
   unfold qF0;rw [qAa (by unfold qAf; omega),deF (by omega),cnF];have:zbp_p1 s (p:Int) (by8 s p:Int) (1:Int) (1:Int)=some (by8 s p:Int):=qAo (point_end (size:=1));rw [this,obS]
  rw [this,obS];rfl
 ·obtain ⟨e1,e2,e3,e4⟩:=hc.high (by omega);have hw:=qDv hp (by omega) e2;rw [e4];rcases seq_bytes hp (by omega) e2 with ⟨h,h1,h2,h3,h4⟩ | ⟨h,h1,h2,h3,h4,h5,h6,h7,h9⟩ | ⟨h,h1,h2,h3,h4,h5,h6,h7,h9,h10,h11⟩
  ·rw [deF (by omega),cnF,deF (by omega),cnF,deT (by omega),cnT,and31' (by omega)];have:qF0 s (p:Int) ((by8 s p:Int) % 32) (2:Int)=some (qD1 s p,(2:Int)):=by
    unfold qF0;rw [qAa (by unfold qAf; omega),deF (by omega),cnF];have:zbp_p1 s (p:Int) ((by8 s p:Int) % 32) (2:Int) (1:Int)=some (qD1 s p):=by
     unfold zbp_p1;rw [qAt (qE7 (size:=2) (i:=1) (by omega) (by omega) hs (by omega)),qAo (point_end (size:=2))];unfold qD1;rw [if_pos h];congr 1
     omega
    rw [this,obS]
   rw [this,obS,e3,h];rfl
  ·rw [deF (by omega),cnF,deT (by omega),cnT,and15 (by omega)];have:qF0 s (p:Int) ((by8 s p:Int) % 16) (3:Int)=some (qD1 s p,(3:Int)):=by
    unfold qF0;rw [qAa (by unfold qAf; omega),deF (by omega),cnF];have:zbp_p1 s (p:Int) ((by8 s p:Int) % 16) (3:Int) (1:Int)=some (qD1 s p):=by
     unfold zbp_p1;rw [qAt (qE7 (size:=3) (i:=1) (by omega) (by omega) hs (by omega)),qAt (qE7 (size:=3) (i:=2) (by omega) (by omega) hs (by omega)),qAo (point_end (size:=3))];unfold qD1;rw [if_neg (by omega),if_pos h];congr 1
     omega
    rw [this,obS]
   rw [this,obS,e3,h];rfl
  ·rw [deT (by omega),cnT,and7 (by omega)];have:qF0 s (p:Int) ((by8 s p:Int) % 8) (4:Int)=some (qD1 s p,(4:Int)):=by
    unfold qF0;rw [qAa (by unfold qAf; omega),deF (by omega),cnF];have:zbp_p1 s (p:Int) ((by8 s p:Int) % 8) (4:Int) (1:Int)=some (qD1 s p):=by
     unfold zbp_p1;rw [qAt (qE7 (size:=4) (i:=1) (by omega) (by omega) hs (by omega)),qAt (qE7 (size:=4) (i:=2) (by omega) (by omega) hs (by omega)),qAt (qE7 (size:=4) (i:=3) (by omega) (by omega) hs (by omega)),qAo (point_end (size:=4))];unfold qD1;rw [if_neg (by omega),if_neg (by omega)];congr 1
     omega
    rw [this,obS]
   rw [this,obS,e3,h];rfl
theorem p_hexG {n:Int} (g:Bool) (h:0≤n∧n<16):zbo_s n g=some (hexG g n):=by
 unfold zbo_s hexG;by_cases h1:n<10
 ·rw [deT h1,cnT,if_pos h1,qAa (by unfold qAf; omega)];congr 1
  omega
 ·rw [deF h1,cnF,if_neg h1];cases g with
  | true =>
   rw [cnT,if_pos rfl,qAa (by unfold qAf; omega),qAa (by unfold qAf; omega)];congr 1
   omega
  | false =>
   rw [cnF,if_neg (by decide),qAa (by unfold qAf; omega),qAa (by unfold qAf; omega)];congr 1
   omega
theorem p_unitG {u:Int} (g:Bool) (h:0≤u∧u≤4294967296):zbt_s u g=some (qGd g u):=by
 unfold zbt_s;rw [qAa (by decide),and15 (by omega),p_hexG g (by omega),obS,qAa (by decide),and15 (by omega),p_hexG g (by omega),obS,qAa (by decide),and15 (by omega),p_hexG g (by omega),obS,and15 (by omega),p_hexG g (by omega),obS];rfl
theorem spelled_p1 {s:BA} {p n:Nat} (hp:p<s.size) (hs:s.size≤3000000) (hc:CpOK s p) (hn:n≤3000000) (how:Int) (b:List Int) (hb:b.length≤30000000) :
  zbs_p1 s (n:Int) (p:Int) how b=some (((n+1:Nat):Int),((p+cpW s p:Nat):Int),b++qBb how (cpAt s p)):=by
 have hle:=hc.le;have hcode:=hc.code;unfold Code at hcode;unfold zbs_p1;rw [qAa (by unfold qAf; omega),p_codepoint hp hs hc,obS];dsimp only;rw [qAa (by unfold qAf; omega),qAa (by omega),qAa (by unfold qAf; omega)];have en:(n:Int)+1=((n+1:Nat):Int):=by omega
 have ep:(p:Int)+(cpW s p:Int)=((p+cpW s p:Nat):Int):=by omega
 rw [en,ep];by_cases h12:how=1∨how=2
 ·have e12:(decide (how=(1:Int)) || decide (how=(2:Int)))=true:=by simpa using h12
  rw [e12,Bool.true_and];by_cases h16:cpAt s p<65536
  ·have hl:qBb how (cpAt s p)=qGd (decide (how=2)) (cpAt s p):=by unfold qBb; rw [if_pos h12,if_pos h16]
   rw [deT h16,cnT,p_unitG _ (by omega),obS,qAa (by rw [qDt]; omega),hl]
  ·have hl:qBb how (cpAt s p)=qGd (decide (how=2)) (hiU (cpAt s p))++qGd (decide (how=2)) (loU (cpAt s p)):=by unfold qBb; rw [if_pos h12,if_neg h16]
   rw [deF h16,cnF,cnT,qAa (by unfold qAf; omega),qAa (by decide),qAa (by unfold qAf; omega),p_unitG _ (by omega),obS,qAa (by rw [qDt]; omega),qAa (by unfold qAf; omega),and1023 (by omega),qAa (by unfold qAf; omega),p_unitG _ (by omega),obS,qAa (by rw [List.length_append,qDt,qDt]; omega),hl,List.append_assoc];rfl
 ·have e12:(decide (how=(1:Int)) || decide (how=(2:Int)))=false:=by simpa using h12
  rw [e12,Bool.false_and,cnF,cnF];by_cases h47:how=3∧cpAt s p=47
  ·have hl:qBb how (cpAt s p)=[92,47]:=by unfold qBb; rw [if_neg h12,if_pos h47]
   have e47:(decide (how=(3:Int)) && decide (cpAt s p=(47:Int)))=true:=by simpa using h47
   rw [e47,cnT,qAa (by simp only [List.length_cons,List.length_nil]; omega),hl]
  ·have e47:(decide (how=(3:Int)) && decide (cpAt s p=(47:Int)))=false:=by simpa using h47
   rw [e47,cnF];by_cases h32:cpAt s p<32∨cpAt s p=34∨cpAt s p=92
   ·have hl:qBb how (cpAt s p)=qGd false (cpAt s p):=by unfold qBb; rw [if_neg h12,if_neg h47,if_pos h32]
    have e32:((decide (cpAt s p<(32:Int)) || decide (cpAt s p=(34:Int))) || decide (cpAt s p=(92:Int)))=true:=by
     simp only [Bool.or_eq_true,decide_eq_true_eq]; omega
    rw [e32,cnT,p_unitG _ (by omega),obS,qAa (by rw [qDt]; omega),hl]
   ·have hl:qBb how (cpAt s p)=utfL (cpAt s p):=by unfold qBb; rw [if_neg h12,if_neg h47,if_neg h32]
    have e32:((decide (cpAt s p<(32:Int)) || decide (cpAt s p=(34:Int))) || decide (cpAt s p=(92:Int)))=false:=by
     simp only [Bool.or_eq_false_iff,decide_eq_false_iff_not]; omega
    have ex:qAi (s.extract p (p+cpW s p))=utfL (cpAt s p):=by
     rw [bytesL_ext,List.drop_take,Nat.add_sub_cancel_left,hc.utf]
    have hul:=utfL_len (cpAt s p);rw [e32,cnF,Int.toNat_natCast,Int.toNat_natCast,qAa (by rw [←qAj,ex]; omega),ex,hl]
theorem spelled_loop {s:BA} (hs:s.size≤3000000) {row:List Int} (hrow:row.length≤9223372036854775807):∀(k n p:Nat) (b:List Int),s.size - p≤k→p≤s.size→n≤p→Lib.validD (s.data.toList.drop p)=true→b.length+6*(s.size - p)≤20000000 →
  zbs_p0 s (n:Int) (p:Int) row b=some (b++spF s row k n p)
 | 0,n,p,b,h1,h2,h3,hv,hb=>by
  show _=some (b++[]);rw [List.append_nil];unfold zbs_p0;refine qAo ?_;unfold qDl;dsimp only;rw [deF (by omega),cnF]
 | k+1,n,p,b,h1,h2,h3,hv,hb=>by
  by_cases hp:p<s.size
  ·have hc:=cp_ok hp hv;have c1:=hc.pos;have c2:=hc.le;have hll:=letterL_len (howS row n) (cpAt s p);rw [hc.len] at hll;have ih:=spelled_loop hs hrow k (n+1) (p+cpW s p) (b++qBb (howS row n) (cpAt s p)) (by omega) c2 (by omega) hc.next (by rw [List.length_append]; omega);have e:spF s row (k+1) n p=qBb (howS row n) (cpAt s p)++spF s row k (n+1) (p+cpW s p):=by
    show (if p<s.size then _ else _)=_;rw [if_pos hp]
   have hst:qDl s (n:Int) (p:Int) row b=some (.inl (((n+1:Nat):Int),((p+cpW s p:Nat):Int),b++qBb (howS row n) (cpAt s p))):=by
    unfold qDl;rw [deT (by omega),cnT];cases row with
    | nil =>
     rw [deF (by decide),cnF,show (0:Int)=howS [] n from rfl,spelled_p1 hp hs hc (by omega) _ b (by omega),obS]
    | cons r0 rs =>
     generalize hR:r0::rs=R at *
     have hne:R≠[]:=by rw [←hR]; simp
     have hpos:0<R.length:=List.length_pos_iff.2 hne;have hmod:(n:Int) % (R.length:Int)=((n % R.length:Nat):Int):=(Int.natCast_emod n R.length).symm;have hlt:=Nat.mod_lt n hpos;have hh:R.getD (n % R.length) (ET.dft .i64)=howS R n:=by unfold howS; rw [if_neg hne]; rfl
     rw [deT (by omega),cnT,qAa (by omega),hmod,qAa (by omega),Int.toNat_natCast,qAa hlt,hh,spelled_p1 hp hs hc (by omega) _ b (by omega),obS]
   rw [e,←List.append_assoc,←ih];unfold zbs_p0;rw [qAt hst]
  ·rw [spF_end (by omega),List.append_nil];unfold zbs_p0;refine qAo ?_;unfold qDl;dsimp only;rw [deF (by omega),cnF]
theorem p_spelledQ {s:BA} (hs:s.size≤3000000) (hv:Lib.validD s.data.toList=true) {row:List Int} (hrow:row.length≤9223372036854775807):∃t,zbs_s s row=some t∧qAi t=spQ row s∧t.size≤18000002:=by
 have hl:=spelled_loop hs hrow s.size 0 0 [34] (by omega) (by omega) (by omega) (by rw [List.drop_zero]; exact hv) (by show 1+_≤_; omega);rw [show ((0:Nat):Int)=0 from rfl] at hl;have h1:=spQ_len (row:=row) hv;have h2:([34]++spF s row s.size 0 0)++[(34:Int)]=spQ row s:=by unfold spQ; simp
 have h3:qAi (qA3 (spQ row s))=spQ row s:=bytesL_of (spQ_range hv);refine ⟨qA3 (spQ row s),?_,h3,by rw [←qAj,h3]; omega⟩;unfold zbs_s;rw [hl,obS,h2];refine qAa ?_ _;have h4:([34]++spF s row s.size 0 0).length+([34]:List Int).length=(spQ row s).length:=by rw [←h2]; simp only [List.length_append]
 omega
theorem p_blankS {row:List Int} (hrow:row.length≤9223372036854775807) (i:Nat):∃t,zbn_s row (i:Int)=some t∧qAi t=blS row i∧t.size≤2:=by
 unfold zbn_s;cases row with
 | nil =>
  rw [deT (show ((([]:List Int).length:Nat):Int)=(0:Int) from rfl),cnT];exact ⟨_,rfl,rfl,by decide⟩
 | cons r0 rs =>
  generalize hR:r0::rs=R at *
  have hne:R≠[]:=by rw [←hR]; simp
  have hpos:0<R.length:=List.length_pos_iff.2 hne;have hmod:(i:Int) % (R.length:Int)=((i % R.length:Nat):Int):=(Int.natCast_emod i R.length).symm;have hlt:=Nat.mod_lt i hpos;have hh:R.getD (i % R.length) (ET.dft .i64)=howS R i:=by unfold howS; rw [if_neg hne]; rfl
  rw [deF (by omega),cnF,qAa (by omega),hmod,qAa (by omega),Int.toNat_natCast,qAa hlt,hh];unfold blS;by_cases h4:howS R i=4
  ·rw [deT h4,cnT,if_pos h4];exact ⟨_,rfl,rfl,by decide⟩
  ·rw [deF h4,cnF,if_neg h4];by_cases h5:howS R i=5
   ·rw [deT h5,cnT,if_pos h5];exact ⟨_,rfl,rfl,by decide⟩
   ·rw [deF h5,cnF,if_neg h5];by_cases h6:howS R i=6
    ·rw [deT h6,cnT,if_pos h6];exact ⟨_,rfl,rfl,by decide⟩
    ·rw [deF h6,cnF,if_neg h6];exact ⟨_,rfl,rfl,by decide⟩
theorem spQ_qlen (row:List Int):QLen (spQ row):=fun s hv=>spQ_len hv
def posK (one:Nat→Option Nat):Nat→Nat→List Nat
 | 0,_=>[]
 | k+1,a=>a::posK one k ((one a).getD 0)
theorem posK_places {v:List Eng.Node} {one:Nat→Option Nat} {obj:Bool} (h:∀a e,one a=some e→Tree v a e):∀(k a:Nat) (names:List BA) (e:Nat),qCr v one obj k a names=some e→qEw v k a (posK one k a) e
 | 0,a,names,e,hk=>by cases hk; exact ⟨rfl,rfl⟩
 | k+1,a,names,e,hk=>by
  unfold qCr at hk;cases ho:one a with
  | none=>rw [ho] at hk; cases hk
  | some b =>
   rw [ho] at hk;dsimp only at hk;split at hk
   ·cases hk
   ·refine ⟨b,posK one k b,?_,h a b ho,posK_places h k b _ e hk⟩;show a::posK one k ((one a).getD 0)=a::posK one k b;rw [ho];rfl
section
variable {v:List Eng.Node} {row:List Int}
theorem rs_p0 (hrow:row.length≤9223372036854775807) (self:List Eng.Node→Int→List Int→Option BA) {a:Nat} (ha:a≤3000000) (s:BA) (hs:s.size≤8000000000000000):∃t,qG8 self (a:Int) s row=some t∧qAi t=blS row (a+2)++(qAi s++blS row (a+3)):=by
 obtain ⟨t1,h1,h2,h3⟩:=p_blankS hrow (a+2);obtain ⟨t2,g1,g2,g3⟩:=p_blankS hrow (a+3);unfold qG8;rw [qAa (by unfold qAf; omega),show (a:Int)+2=((a+2:Nat):Int) by omega,h1,obS,qAa (by omega),qAa (by unfold qAf; omega),show (a:Int)+3=((a+3:Nat):Int) by omega,g1,obS,qAa (by rw [qAs]; omega)];exact ⟨_,rfl,by rw [qDm,qDm,h2,g2,List.append_assoc]⟩
theorem rs_p2 (hv:OkL v) (hrow:row.length≤9223372036854775807) {self:List Eng.Node→Int→List Int→Option BA} {a0 i p:Nat} {L:List Int} (hi:i<L.length) (hL:L.getD i (ET.dft .i64)=(p:Int)) (hp:p<v.length) (kd:Int) (hvk:kd=7→Lib.validD (qBz v p).data.toList=true)
  {tp:BA} (hself:self v (p:Int) row=some tp) (s:BA) (hsz:s.size+tp.size≤8000000000000000) (ha:a0≤3000000) (hil:i≤3000000) :
  ∃t,zbq_p2 self (a0:Int) s (i:Int) v row kd L=some t∧qAi t=qAi s++(keyW (spQ row) (blS row) v (decide (kd=7)) a0 i p++qAi tp):=by
 obtain ⟨n,hn,hmem,hget⟩:=nd_some hp;have hk:=(hv.2 n hmem).key;unfold zbq_p2 keyW;by_cases h7:kd=7
 ·have hkey:qBz v p=n.key:=by unfold qBz; rw [hget]
  obtain ⟨tq,q1,q2,q3⟩:=p_spelledQ (s:=n.key) hk (by rw [←hkey]; exact hvk h7) hrow;obtain ⟨t1,h1,h2,h3⟩:=p_blankS hrow a0;obtain ⟨t2,g1,g2,g3⟩:=p_blankS hrow i;rw [deT h7,cnT,if_pos rfl,qAa (by omega),Int.toNat_natCast,qAa hi,hL,qAa (by omega),Int.toNat_natCast,qAa hp,qAa hp,hget,q1,obS,qAa (by omega),h1,obS,qAa (by rw [qAs]; omega),qAa (by rw [qAs,qAs]; show _+1≤_; omega),g1,obS,qAa (by rw [qAs,qAs,qAs]; show _+1+_≤_; omega),qAa (by omega),qAa hi,hself,obS,qAa (by rw [qAs,qAs,qAs,qAs]; show _+1+_+_≤_; omega)];refine ⟨_,rfl,?_⟩;simp only [qDm,q2,h2,g2,hkey,List.append_assoc];rfl
 ·rw [deF h7,cnF,if_neg (by decide),qAa (by omega),Int.toNat_natCast,qAa hi,hL,hself,obS,qAa (by omega)];exact ⟨_,rfl,by rw [qDm,List.nil_append]⟩
theorem getD_mid (pre l:List Nat) (p:Nat):(upN (pre++p::l)).getD pre.length (ET.dft .i64)=(p:Int):=by
 unfold upN;rw [List.getD_eq_getElem?_getD,List.getElem?_map,List.getElem?_append_right (Nat.le_refl _),Nat.sub_self];rfl
theorem rs_p1 (hv:OkL v) (hrow:row.length≤9223372036854775807) {self:List Eng.Node→Int→List Int→Option BA} {d:Nat} (kd:Int) {obj:Bool} (hkd:decide (kd=7)=obj) {a0:Nat} (ha:a0≤3000000)
  (hs:∀(a e:Nat),oneS v d obj a=some e→∃t,self v (a:Int) row=some t∧qAi t=qCb (spQ row) (blS row) v d a) (L:List Nat) :
  ∀(k i p:Nat) (names:List BA) (e:Nat) (s:BA) (pre:List Nat),pre.length=i→L=pre++posK (oneS v d obj) k p→i+k≤3000000→p≤v.length→qCr v (oneS v d obj) obj k p names=some e→s.size+640000000*(e - p)≤3000000000000000 →
   ∃t,zbq_p1 self (a0:Int) s (i:Int) v row kd (upN L)=some t∧qAi t=qAi s++qEr (spQ row) (blS row) v (oneS v d obj) (qCb (spQ row) (blS row) v d) obj a0 k i p∧t.size≤s.size+640000000*(e - p)
 | 0,i,p,names,e,s,pre,hpre,hL,hik,hp,hk,hsz=>by
  cases hk;refine ⟨s,?_,by show _=qAi s++[]; rw [List.append_nil],by omega⟩;unfold zbq_p1;refine qAo ?_;unfold qCt;have:(upN L).length=i:=by rw [upN_len,hL,List.length_append]; show _+0=_; omega
  dsimp only;rw [deF (by omega),cnF]
 | k+1,i,p,names,e,s,pre,hpre,hL,hik,hp,hk,hsz=>by
  unfold qCr at hk;cases ho:oneS v d obj p with
  | none=>rw [ho] at hk; cases hk
  | some b =>
   rw [ho] at hk;dsimp only at hk;split at hk
   ·cases hk
   ·have hle:=qCo v d obj p b ho;have hle2:=qEk (fun a e=>qCo v d obj a e) k b _ e hle.2 hk;have hlen:=prOne_len hv d obj p b ho;have hsh:=short_w (spQ_qlen row) (blS_ok row) hv d obj p b ho;obtain ⟨n,hn1,hn2,hn3,hn4,hn5,hn6,_⟩:=qCx hv ho;have hkk:qBz v p=n.key:=by unfold qBz; rw [List.getD_eq_getElem?_getD,hn1]; rfl
    have hval:Lib.validD (qBz v p).data.toList=true:=by
     unfold okB at hn5;simp only [Bool.and_eq_true] at hn5;rw [hkk];exact hn5.1.2
    have hkey:=(hv.2 n hn2).key;have hql:=spQ_len (row:=row) hval;rw [hkk] at hql;have b0:=(blS_ok row).len a0;have b1:=(blS_ok row).len i;have hkw:(keyW (spQ row) (blS row) v obj a0 i p).length≤18000008:=by
     unfold keyW;split
     ·rw [hkk];simp only [List.length_append,List.length_cons];omega
     ·exact Nat.zero_le _
    obtain ⟨tp,t1,t2⟩:=hs p b ho;have htp:tp.size=(qCb (spQ row) (blS row) v d p).length:=by rw [←qAj,t2]
    have hL2:L=pre++p::posK (oneS v d obj) k b:=by
     rw [hL];show pre++p::posK (oneS v d obj) k ((oneS v d obj p).getD 0)=_;rw [ho];rfl
    have hil:i<(upN L).length:=by rw [upN_len,hL2,List.length_append,List.length_cons]; omega
    have hget:(upN L).getD i (ET.dft .i64)=(p:Int):=by rw [hL2,←hpre]; exact getD_mid _ _ _
    have hcm:∃sc:BA,qAi sc=qAi s++commaW (blS row) a0 i∧sc.size≤s.size+3∧∀r:Option ((BA × Int) ⊕ BA),(zbq_p2 self (a0:Int) sc (i:Int) v row kd (upN L)).bind (fun o48=>gd (qAf ((i:Int)+(1:Int))) <| some (.inl (o48,((i:Int)+(1:Int)))))=r→qCt self (a0:Int) s (i:Int) v row kd (upN L)=r:=by
     by_cases h0:i=0
     ·refine ⟨s,by unfold commaW; rw [if_pos h0,List.append_nil],by omega,fun r hr=>?_⟩;unfold qCt;rw [deT (by omega),cnT,deF (by omega),cnF];exact hr
     ·obtain ⟨tb,h1,h2,h3⟩:=p_blankS hrow (i+a0);refine ⟨(s++(⟨#[44]⟩:BA))++tb,by unfold commaW; rw [if_neg h0,qDm,qDm,h2,List.append_assoc]; rfl,by rw [qAs,qAs]; show _+1+_≤_; omega,fun r hr=>?_⟩;unfold qCt;rw [deT (by omega),cnT,deT (by omega),cnT,qAa (by show _+1≤_; omega),qAa (by unfold qAf; omega),show (i:Int)+(a0:Int)=((i+a0:Nat):Int) by omega,h1,obS,qAa (by rw [qAs]; show _+1+_≤_; omega)];exact hr
    obtain ⟨sc,c1,c2,c3⟩:=hcm;obtain ⟨t,r1,r2⟩:=rs_p2 hv hrow (self:=self) (a0:=a0) hil hget (by omega) kd (fun _=>hval) t1 sc (by omega) ha (by omega);rw [hkd] at r2;have htsz:t.size=sc.size+((keyW (spQ row) (blS row) v obj a0 i p).length+tp.size):=by
     have:=congrArg List.length r2;simp only [List.length_append,qAj] at this;exact this
    have hst:qCt self (a0:Int) s (i:Int) v row kd (upN L)=some (.inl (t,((i+1:Nat):Int))):=by
     refine c3 _ ?_;rw [r1,obS];exact qAa (by unfold qAf; omega) _
    obtain ⟨u,u1,u2,u3⟩:=rs_p1 hv hrow kd hkd ha hs L k (i+1) b _ e t (pre++[p]) (by rw [List.length_append,List.length_singleton]; omega) (by rw [hL2,List.append_assoc]; rfl) (by omega) hle.2 hk (by omega);refine ⟨u,?_,?_,by omega⟩
    ·unfold zbq_p1 at u1 ⊢;rw [qAt hst];exact u1
    ·rw [u2,r2,c1,t2];show _=qAi s++(commaW (blS row) a0 i++(keyW (spQ row) (blS row) v obj a0 i p++(qCb (spQ row) (blS row) v d p++qEr (spQ row) (blS row) v (oneS v d obj) (qCb (spQ row) (blS row) v d) obj a0 k (i+1) ((oneS v d obj p).getD 0))));rw [ho];simp only [List.append_assoc,Option.getD_some]
theorem rs_leaf (hv:OkL v) (hrow:row.length≤9223372036854775807) (self:List Eng.Node→Int→List Int→Option BA) {a:Nat} {nd:Eng.Node} (h1:v[a]?=some nd) (h2:nd∈v) (h3:a<v.length) (h4:v.getD a (ET.dft .node)=nd) (h6:pB nd=true) (hk:nd.kind<6) :
  ∃t,zbq_t self v (a:Int) row=some t∧qAi t=blS row (a+2)++(scQ (spQ row) nd++blS row (a+3)):=by
 have hlen:=hv.1;have htx:=(hv.2 nd h2).text;unfold zbq_t scQ;rw [qAa (by omega),Int.toNat_natCast,qAa h3,h4];have fin:∀s:BA,s.size≤18000002→∃t,((qG8 self (a:Int) s row).bind fun o=>some o)=some t∧qAi t=blS row (a+2)++(qAi s++blS row (a+3)):=fun s hs=>by
  obtain ⟨t,t1,t2⟩:=rs_p0 hrow self (a:=a) (by omega) s (by omega);exact ⟨t,by rw [t1]; rfl,t2⟩
 by_cases k1:nd.kind=1
 ·rw [deT k1,cnT,if_pos k1];exact fin _ (by decide)
 rw [deF k1,cnF,if_neg k1];by_cases k2:nd.kind=2
 ·rw [deT k2,cnT,if_pos k2];exact fin _ (by decide)
 rw [deF k2,cnF,if_neg k2];by_cases k3:nd.kind=3
 ·rw [deT k3,cnT,if_pos k3];exact fin _ (by decide)
 rw [deF k3,cnF,if_neg k3];by_cases k4:nd.kind=4
 ·rw [deT k4,cnT,if_pos k4];exact fin _ (by omega)
 rw [deF k4,cnF,if_neg k4];rcases pB_inv htx h6 with h | h | h | h
 ·omega
 ·obtain ⟨tq,q1,q2,q3⟩:=p_spelledQ htx h.2.2.2.2 hrow;rw [deT h.1,cnT,q1,obS,←q2];exact fin _ q3
 ·omega
 ·omega
theorem rs_all (hv:OkL v) (hlen:v.length≤2000000) (hrow:row.length≤9223372036854775807):∀(d:Nat) (obj:Bool) (a e n:Nat),oneS v d obj a=some e→d<n→∃t,zbq_n n v (a:Int) row=some t∧qAi t=qCb (spQ row) (blS row) v d a:=by
 intro d;induction d with
 | zero =>
  intro obj a e n h hn;obtain ⟨nd,h1,h2,h3,h4,h5,h6,h7,h8,h9,h10⟩:=qCx hv h;rcases h10 with ⟨_,h11,rfl⟩ | ⟨d',h,_⟩
  ·cases n with
   | zero=>omega
   | succ n =>
    have e0:qCb (spQ row) (blS row) v 0 a=blS row (a+2)++(scQ (spQ row) nd++blS row (a+3)):=by
     show blS row (a+2)++(scQ (spQ row) (v.getD a _)++blS row (a+3))=_;rw [h4]
    rw [e0];exact rs_leaf hv hrow _ h1 h2 h3 h4 h6 h11
  ·cases h
 | succ d ih =>
  intro obj a e n h hn;obtain ⟨nd,h1,h2,h3,h4,h5,h6,h7,h8,h9,h10⟩:=qCx hv h;have htree:=oneS_tree hv (d+1) obj a e h;rcases h10 with ⟨h,_⟩ | ⟨d',h,h11⟩
  ·cases h
  ·have:d'=d:=by omega
   subst this;cases n with
   | zero=>omega
   | succ n =>
    by_cases hk6:nd.kind<6
    ·have e0:qCb (spQ row) (blS row) v (d'+1) a=blS row (a+2)++(scQ (spQ row) nd++blS row (a+3)):=by
      unfold qCb;rw [h4,if_pos hk6]
     rw [e0];exact rs_leaf hv hrow _ h1 h2 h3 h4 h6 hk6
    ·have e0:qCb (spQ row) (blS row) v (d'+1) a=blS row (a+2)++(((if nd.kind=7 then 123 else 91)::(blS row (a+1)++(qEr (spQ row) (blS row) v (oneS v d' (decide (nd.kind=7))) (qCb (spQ row) (blS row) v d') (decide (nd.kind=7)) a nd.kids.toNat 0 (a+1)++[if nd.kind=7 then 125 else 93])))++blS row (a+3)):=by
      unfold qCb;rw [h4,if_neg hk6]
     rw [e0];have hle2:=qEk (qCo v d' (decide (nd.kind=7))) _ _ _ _ (by omega) h11;have hpl:=posK_places (oneS_tree hv d' (decide (nd.kind=7))) nd.kids.toNat (a+1) [] e h11;have hkt:=kidsS_tree (oneS_tree hv d' (decide (nd.kind=7))) nd.kids.toNat (a+1) [] e (by omega) h11;have hjk:=j_kids hlen h1 h7 hkt hpl;obtain ⟨u,u1,u2,u3⟩:=rs_p1 hv hrow (self:=zbq_n n) (d:=d') nd.kind (obj:=decide (nd.kind=7)) rfl (a0:=a) (by omega) (fun a e ho=>ih _ a e n ho (by omega)) (posK (oneS v d' (decide (nd.kind=7))) nd.kids.toNat (a+1)) nd.kids.toNat 0 (a+1) [] e ⟨#[]⟩ [] rfl rfl (by omega) (by omega) h11 (by show 0+_≤_; omega);obtain ⟨tb,b1,b2,b3⟩:=p_blankS hrow (a+1);have u2:qAi u=qEr (spQ row) (blS row) v (oneS v d' (decide (nd.kind=7))) (qCb (spQ row) (blS row) v d') (decide (nd.kind=7)) a nd.kids.toNat 0 (a+1):=u2;have u3:u.size≤0+640000000*(e - (a+1)):=u3;show ∃t,zbq_t (zbq_n n) v (a:Int) row=some t∧_;unfold zbq_t;rw [qAa (by omega),Int.toNat_natCast,qAa h3,h4,deF (show ¬nd.kind=1 by omega),cnF,deF (show ¬nd.kind=2 by omega),cnF,deF (show ¬nd.kind=3 by omega),cnF,deF (show ¬nd.kind=4 by omega),cnF,deF (show ¬nd.kind=5 by omega),cnF,hjk,obS];rw [show ((0:Nat):Int)=0 from rfl] at u1;rw [u1,obS];have fin:∀(c0 c1:BA) (x0 x1:Int),qAi c0=[x0]→qAi c1=[x1]→c0.size=1→c1.size=1→∃t,(gd (qAf ((a:Int)+(1:Int))) <| (zbn_s row ((a:Int)+(1:Int))).bind fun r51=>gd (c0.size+r51.size≤9223372036854775807) <| gd ((c0++r51).size+u.size≤9223372036854775807) <| gd (((c0++r51)++u).size+c1.size≤9223372036854775807) <| (qG8 (zbq_n n) (a:Int) (((c0++r51)++u)++c1) row).bind fun o52=>some o52)=some t∧qAi t=blS row (a+2)++((x0::(blS row (a+1)++(qAi u++[x1])))++blS row (a+3)):=by
      intro c0 c1 x0 x1 e0 e1 z0 z1;obtain ⟨t,t1,t2⟩:=rs_p0 hrow (zbq_n n) (a:=a) (by omega) (((c0++tb)++u)++c1) (by rw [qAs,qAs,qAs]; omega);refine ⟨t,?_,?_⟩
      ·rw [qAa (by unfold qAf; omega),show (a:Int)+1=((a+1:Nat):Int) by omega,b1,obS,qAa (by omega),qAa (by rw [qAs]; omega),qAa (by rw [qAs,qAs]; omega),t1];rfl
      ·rw [t2];simp only [qDm,e0,e1,b2,List.append_assoc,List.cons_append,List.nil_append]
     by_cases k7:nd.kind=7
     ·rw [if_pos k7,if_pos k7,←u2];rw [qBy (p:=nd.kind=7) decide_eq_true_iff,if_pos k7];exact fin _ _ _ _ rfl rfl rfl rfl
     ·rw [if_neg k7,if_neg k7,←u2];rw [qBy (p:=nd.kind=7) decide_eq_true_iff,if_neg k7];exact fin _ _ _ _ rfl rfl rfl rfl
end
theorem jsonSpelled_plain (t:BA) (row:List Int) (hrow:row.length≤9223372036854775807):zbl_s t row=some true:=by
 unfold zbl_s;rw [alive_is,obS];by_cases hbig:16384<t.size
 ·rw [deT (show (16384:Int)<(t.size:Int) by omega)];rfl
 ·rw [deF (show ¬(16384:Int)<(t.size:Int) by omega)];show (bif false then _ else _)=_;rw [cnF,p_Parse,obS];rcases parseR_cases t with ⟨l,h1,h2,h3,h4,h5,h6,h7⟩ | ⟨c,b,h1,h2⟩
  ·rw [h1];dsimp only;have hok:OkL l:=⟨by omega,fun n hn=>(h7 n hn).okN (by decide)⟩;have hsh:=readR_shape h2 h3;have hshort:=readR_short h2 h3;have hex:∃s,(∀n,33≤n→zbq_n n l 0 row=some s)∧qAi s=qCb (spQ row) (blS row) l 32 0:=by
    obtain ⟨s,s1,s2⟩:=rs_all hok (by omega) hrow 32 false 0 l.length 33 hsh (by decide);refine ⟨s,fun n hn=>?_,s2⟩;obtain ⟨s',q1,q2⟩:=rs_all hok (by omega) hrow 32 false 0 l.length n hsh (by omega);have:s'=s:=by
     have:=congrArg qA3 (q2.trans s2.symm);rwa [qG0,qG0] at this
    rw [←this];exact q1
   obtain ⟨s,s1,s2⟩:=hex;have hse:zbq_s l 0 row=some s:=evt_eq s1;have hlw:=short_w (spQ_qlen row) (blS_ok row) hok 32 false 0 l.length hsh;have hsz:s.size=(qCb (spQ row) (blS row) l 32 0).length:=by rw [←qAj,s2]
   rw [deT rfl,Bool.not_true,cnF,hse,obS,p_Parse,obS,respelled_back (spQ_ok row) (blS_ok row) hok hsh s2 (by omega)];dsimp only;rw [deT rfl,cnT,same3_self l (by omega)];rfl
  ·rw [h1];dsimp only;rw [deF h2,Bool.not_false,cnT]
end Go.Proofs.YtdcoiccdbgcpaaaDoor
namespace Go.Eng
open Go.RowKit
set_option linter.unusedVariables false
theorem reach_of {x:Nat} (h:decide (x≤reachBytes)=true):x≤140737488351232:=by
 have h2:=of_decide_eq_true h;exact h2
theorem size_of_weights {H:Type} {P:Program} {T:TypeId} {s:BA} (h:∀x∈(DataW.lit (.string s.data.toList):DataW H).weights P T,x≤140737488351232):s.size≤140737488351232:=by
 have h2:=h s.data.toList.length (by simp only [DataW.weights]; exact List.mem_singleton.2 rfl);rw [Array.length_toList] at h2;exact h2
theorem i64_of_wf {a:Int} (h:(Lit.int .i64 a).wf=true) : -9223372036854775808≤a∧a≤9223372036854775807:=by
 simp [Lit.wf,IntKind.min,IntKind.max,IntKind.signed,IntKind.bits] at h;exact h
structure LowB (w w':World):Prop where
 os:w'.os=w.os
 output:w'.output=w.output
 size:w.heap.size≤w'.heap.size
 block:∀k,k<w.heap.size→w'.heap[k]?=w.heap[k]?
theorem lowB_of_stays {w w':World} (h:Stays (fun _=>False) w w'):LowB w w':=⟨h.os,h.output,h.size,fun k hk=>h.block k hk id⟩
theorem LowB.frame {W w':World} (h:LowB W w') (may:MemPlace→Prop):W.keptBut w' may:=by
 refine ⟨h.os,h.output,fun i hi=>?_⟩;rw [h.block i hi];split <;> simp_all
theorem LowB.same {W w':World} (h:LowB W w') {p:MemPlace} (hp:p.block<W.heap.size):W.sameAt w' p:=by
 cases p with
 | cell b o=>exact World.cell?_of_block (w:=W) (h.block b hp)
 | map b=>exact h.block b hp
theorem LowB.trod {H:Type} {enc:TypeId × Value→H} {P:Program} {t:TypeId} (hl:laidOutB P=true) (hr:P.readableRec t=true) (hrow:t<P.types.size) {W W':World} {v:Value} {d:DataW H} {ps:List MemPlace}
  (h:DataW.Trod enc P W 0 (fun _=>true) true t v d ps) (hb:LowB W W') (hlt:∀x∈ps,x.block<W.heap.size) :
  DataW.Trod enc P W' 0 (fun b=>decide (b<W.heap.size)) true t v d ps :=
 WideElems.Trod_stays hl hr hrow h (fun x hx=>hb.same (hlt x hx)) (fun x hx=>by simpa using hlt x hx)
end Go.Eng
namespace Go.Proofs.YtdcoiccdbgcpaaaDoor
open Go.RowKit Go.ChangeShapes Go.WideShapes Go.Deep Go.Eng
set_option linter.unusedVariables false
set_option maxRecDepth 100000
theorem callV {P:Program} {f:Nat} {C:CS} (h:qAn P f C) {args:List SV} {hp hp':List SB} {v:SV} (hc:C args hp (SV × List SB) (fun v hp'=>some (v,hp'))=some (v,hp')) (ha:∀x∈args,x.lt hp.length) (hv:v.shut=true) (w:World) {ρ:Nat→Value} (hs:HpSat noX w w ρ hp) (vs:List Value) (hvs:args.map (SV.den ρ)=vs) :
  Calls P f vs.toArray w fun e w'=>e=.returned (v.den fun _=>undef)∧LowB w w':=by
 have:=h.2 args hp v hp' hc ha noX w ρ hs;rw [hvs] at this;exact this.mono fun e w' ⟨ρ',_,_,a,_,_,b⟩=>⟨by rw [a,SV.shut_den hv ρ' fun _=>undef],lowB_of_stays b⟩
def ViewsOK (w:World):List Value→List SB→Prop
 | [],[]=>True
 | v::vs,.view t l::hp=>qE3 noX w w t v l∧ViewsOK w vs hp
 | _,_=>False
theorem viewsOK_at {w:World}:∀ {vs:List Value} {hp:List SB},ViewsOK w vs hp→∀(i:Nat) (sb:SB),hp[i]?=some sb→∃t l,sb=.view t l∧qE3 noX w w t (vs.getD i undef) l
 | [],[],_,i,sb,h=>by simp at h
 | v::vs,.view t l::hp,h,i,sb,hi=>by
  cases i with
  | zero =>
   simp at hi;exact ⟨t,l,hi.symm,h.1⟩
  | succ i =>
   obtain ⟨t',l',h1,h2⟩:=viewsOK_at h.2 i sb (by simpa using hi);exact ⟨t',l',h1,by simpa using h2⟩
 | [],_::_,h,_,_,_=>h.elim
 | _::_,[],h,_,_,_=>h.elim
 | _::_,.cells ..::_,h,_,_,_=>h.elim
 | _::_,.row ..::_,h,_,_,_=>h.elim
 | _::_,.part ..::_,h,_,_,_=>h.elim
 | _::_,.dead::_,h,_,_,_=>h.elim
theorem views_sat {w:World} {vs:List Value} {hp:List SB} (h:ViewsOK w vs hp) (ht:tabOK noX w):HpSat noX w w (fun i=>vs.getD i undef) hp:=by
 have key:=viewsOK_at h;refine ⟨fun i hi=>?_,fun i sb hi=>?_,fun i sb hi=>?_,fun i j sb sb' b _ hi hj e1 _ _ _=>?_,ht⟩
 ·obtain ⟨t,l,_,a,cap,hv,_⟩:=key i hp[i] (by simp [hi]);show qDq (vs.getD i undef);rw [hv];trivial
 ·obtain ⟨t,l,rfl,hv⟩:=key i sb hi;exact hv
 ·obtain ⟨t,l,rfl,hv⟩:=key i sb hi;trivial
 ·obtain ⟨t,l,rfl,hv⟩:=key i sb hi;cases e1
section
variable {H:Type} {enc:TypeId × Value→H} {W:World} {sp:Nat→Bool} {held:Bool} {r:Reach} {b0:Nat}
theorem bulk_pos (d:DataW H):1≤Rows.uptoBulk d:=by
 cases d with
 | lit l=>cases l <;> simp [Rows.uptoBulk]
 | _=>all_goals simp [Rows.uptoBulk]
theorem bulkAll_len:∀(l:List (DataW H)),l.length≤Rows.uptoBulkAll l
 | []=>by simp
 | x::l=>by
  have h1:=bulk_pos x;have h2:=bulkAll_len l;simp only [Rows.uptoBulkAll,List.length_cons];omega
theorem view_mk {t:ET} {a:Addr} {len cap:Nat} {N:Nat→t.T} (hl:len≤cap) (hb:0<len→a.block<W.heap.size)
  (hc:∀i,i<len→∀j u,(t.enc (N i))[j]?=some u→W.cell? (a.add (i*t.sz+j))=some u):qE3 noX W W t (.slice (some a) len cap) ((List.range len).map N):=by
 refine ⟨some a,cap,by simp,by simpa using hl,fun p u hu=>⟨a,rfl,?_⟩⟩;have hlt:p<((List.range len).map N).length*t.sz:=by
  have:=(List.getElem?_eq_some_iff.1 hu).1;rwa [qBc t.enc_len] at this
 simp only [List.length_map,List.length_range] at hlt;have hsz:=t.sz_pos;have hi:p / t.sz<len:=(Nat.div_lt_iff_lt_mul hsz).2 hlt;have hj:p % t.sz<t.sz:=Nat.mod_lt _ hsz;have he:(t.enc (((List.range len).map N).getD (p / t.sz) t.dft))[p % t.sz]?=some (t.enc (N (p / t.sz)))[p % t.sz]!:=by
  have e1:((List.range len).map N).getD (p / t.sz) t.dft=N (p / t.sz):=by simp [List.getD,hi]
  rw [e1,List.getElem?_eq_getElem (by rw [t.enc_len]; exact hj),List.getElem!_eq_getElem?_getD,List.getElem?_eq_getElem (by rw [t.enc_len]; exact hj)];rfl
 have h1:=qFd t.enc_len t.dft ((List.range len).map N) (p / t.sz) (p % t.sz) _ (by simpa using hi) he;have e2:p / t.sz*t.sz+p % t.sz=p:=Nat.div_add_mod' p t.sz;rw [e2,hu] at h1;have h2:=hc (p / t.sz) hi (p % t.sz) u (by
  have e1:((List.range len).map N).getD (p / t.sz) t.dft=N (p / t.sz):=by simp [List.getD,hi]
  rw [e1] at he;rw [he,←Option.some.inj h1])
 rw [e2] at h2;exact ⟨h2,.inl ⟨hb (Nat.lt_of_le_of_lt (Nat.zero_le _) hi),id⟩⟩
theorem view_nil {t:ET}:qE3 noX W W t (.slice none 0 0) []:=⟨none,0,rfl,Nat.le_refl _,fun j u h=>by simp at h⟩
theorem choose_ltV {α:Type} [Inhabited α] {n:Nat} {P:Nat→α→Prop} (h:∀i,i<n→∃x,P i x):∃f:Nat→α,∀i,i<n→P i (f i):=by
 classical
 refine ⟨fun i=>if hi:i<n then (h i hi).choose else default,fun i hi=>?_⟩;simp only [hi,dif_pos];exact (h i hi).choose_spec
structure NodeB (B:Nat) (n:Eng.Node):Prop where
 kind:qAf n.kind
 key:n.key.size≤B
 text:n.text.size≤B
 int:qAf n.int
 kids:qAf n.kids
instance:Inhabited Eng.Node:=⟨⟨0,.empty,.empty,false,0,0⟩⟩
theorem openV_ints_cells {fuel B:Nat} {c:Value} {y:DataW H × List MemPlace} (h:DataW.trod enc Tryd.prog W 0 sp held fuel 44 [c]=some y) (hz:Rows.uptoBulk y.1≤B) :
  ∃(v:Value) (xs:List Int),[c]=[v]∧qE3 noX W W .i64 v xs∧(∀n∈xs,qAf n)∧xs.length≤B∧xs.length≤9223372036854775807:=by
 have hlt:=DataW.trod_lt _ _ _ _ h;rcases open_slice Tryd.underlying44 h with ⟨hcs,_⟩ | ⟨a,len,cap,m,fu,D,Pl,hcs,_,hl,hm,hmm,rfl,hel⟩
 ·exact ⟨_,[],hcs,view_nil,by simp,by simp,by simp⟩
 ·have hlm:len≤m:=by rw [hmm]; split <;> omega
  rw [show Tryd.prog.cellsOf 3=1 by kernel_rfl] at hel;simp only [Rows.uptoBulk] at hz;have each:∀i,i<len→∃x:Int,qAf x∧∀j u,(ET.i64.enc x)[j]?=some u→W.cell? (a.add (i*1+j))=some u:=by
   intro i hi;obtain ⟨cs',hcells,htr⟩:=hel i (by omega);obtain ⟨x,e,hd,hx⟩:=DataW.trod_int Tryd.underlying3 htr;subst e;obtain ⟨_,hcl,hat⟩:=World.cells?_some hcells;refine ⟨x,Go.Eng.i64_of_wf hx,fun j u hj=>?_⟩;have hj1:j<1:=by
    have:=(List.getElem?_eq_some_iff.1 hj).1;simpa [ET.enc] using this
   have:=hat j hj1;rw [Go.Deep.add_add] at this;rw [this];exact hj
  obtain ⟨N,hN⟩:=choose_ltV (α:=Int) each;refine ⟨_,(List.range len).map N,hcs,view_mk (t:=.i64) hl (fun h0=>?_) (fun i hi=>(hN i hi).2),fun s hs=>?_,?_,?_⟩
  ·exact hlt (.cell a.block a.off) (by
    simp only [MemPlace.row,List.mem_append,List.mem_map,List.mem_range];exact .inl ⟨0,by rw [show Tryd.prog.cellsOf 3=1 by kernel_rfl]; omega,by simp⟩)
  ·obtain ⟨i,hi,rfl⟩:=List.mem_map.1 hs;exact (hN i (List.mem_range.1 hi)).1
  ·have h1:=bulkAll_len (H:=H) ((List.range len).map D);simp only [List.length_map,List.length_range] at h1 ⊢;omega
  ·unfold maxLen at hm;simp only [List.length_map,List.length_range];omega
theorem openV_ints {B:Nat} {v:Value} {d:DataW H} {p:List MemPlace} (hv:Value.okWide Tryd.prog W r b0 44 v) (h:DataW.Trod enc Tryd.prog W 0 sp held 44 v d p) (hz:Rows.uptoBulk d≤B) :
  ∃xs:List Int,qE3 noX W W .i64 v xs∧(∀n∈xs,qAf n)∧xs.length≤B∧xs.length≤9223372036854775807:=by
 obtain ⟨A0,n0,c0,rfl⟩:=okWide_slice Tryd.underlying44 hv;obtain ⟨fuel,hf⟩:=h;obtain ⟨v,xs,e,h⟩:=openV_ints_cells hf hz;simp only [List.cons.injEq,and_true] at e;subst e;exact ⟨xs,h⟩
end
end Go.Proofs.YtdcoiccdbgcpaaaDoor
namespace Go.Proofs
open Go.Shelf
shelf_lay Lays.n260 Nm 260 at Tryd as Tryd.laysSlow
end Go.Proofs
namespace Go.Proofs.YtdcoiccdbgcpaaaDoor
open Go.Eng Go.Shelf
set_option linter.unusedVariables false
theorem first_data:(Rows.laid_unicode_utf8_first:DataW Unit)=Lib.firstData:=by kernel_rfl
theorem accept_data:(Rows.laid_unicode_utf8_acceptRanges:DataW Unit)=Lib.acceptData:=by kernel_rfl
theorem utf8_tabs {W:World} (h3:Lib.VarReads Tryd.prog W "unicode/utf8.first" Rows.laid_unicode_utf8_first) (h4:Lib.VarReads Tryd.prog W "unicode/utf8.acceptRanges" Rows.laid_unicode_utf8_acceptRanges):tabOK noX W:=by
 rw [first_data] at h3;rw [accept_data] at h4;exact ⟨utf8Tabs_of_reads Tryd.laysSlow ⟨by kernel_rfl,by kernel_rfl,by kernel_rfl,by kernel_rfl,by kernel_rfl,by kernel_rfl,by kernel_rfl⟩ h3 h4,fun h=>h,fun h=>h⟩
end Go.Proofs.YtdcoiccdbgcpaaaDoor
namespace Go.Proofs.YtdcoiccdbgcpaaaDoor
open Go.Eng
set_option linter.unusedVariables false
set_option linter.unusedSimpArgs false
theorem jsonSpelled_tabs {W:World} (h:laidMetH Tryd.prog Rows.jsonSpelledRow.laid W):tabOK noX W:=by
 have h':laidMet Tryd.prog Rows.jsonSpelledRow.laid W:=h;exact utf8_tabs (Lib.laidMet.reads h' (List.mem_cons_of_mem _ List.mem_cons_self)) (Lib.laidMet.reads h' List.mem_cons_self)
theorem jsonSpelled_walk {B:Nat} (s0:BA) (v1:Value) (x1:List Int) (W:World) (h0:s0.size≤140737488351232) (h1:qE3 noX W W .i64 v1 x1∧(∀n∈x1,qAf n)∧x1.length≤B∧x1.length≤9223372036854775807) (hT:tabOK noX W) :
  Calls Tryd.prog 11 #[.string s0,v1] W fun e w'=>e=.returned (.bool true)∧LowB W w':=by
 refine callV zbl_val (args:=[.c (.o (.val (.string s0))),.c (.o (.own 0))]) (hp:=[.view .i64 x1]) (hp':=[.view .i64 x1]) (v:=.c (.o (.val (.bool true)))) ?_ ?_ rfl W (views_sat (vs:=[v1]) ⟨h1.1,tV⟩ hT) [.string s0,v1] rfl
 ·show ((zbl_s s0 x1).bind fun r=>some ((.c (.o (.val (.bool r))),[.view .i64 x1]):SV × List SB))=_;rw [jsonSpelled_plain s0 x1 h1.2.2.2];rfl
 ·intro x hx;simp only [List.mem_cons,List.not_mem_nil,or_false] at hx;rcases hx with rfl | rfl
  ·trivial
  ·exact Nat.zero_lt_one
end Go.Proofs.YtdcoiccdbgcpaaaDoor
