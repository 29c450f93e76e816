/-
  JsonBack: the plain law. No program.
-/
import Derived.Test.YtdcoiccdbgcpaaaDoorPShort
import Derived.Test.YtdcoiccdbgcpaaaDoorPFind
namespace Go.Proofs.YtdcoiccdbgcpaaaDoor
open Go.Eng
set_option linter.unusedVariables false
set_option linter.unusedSimpArgs false
set_option maxRecDepth 100000 in
theorem lead_all:∀c:Fin 256,(Lib.firstT c.val=2→194≤c.val∧c.val<224)∧(Lib.firstT c.val=19→c.val=224)∧(Lib.firstT c.val=3→225≤c.val∧c.val<240∧c.val≠237)∧(Lib.firstT c.val=35→c.val=237)∧(Lib.firstT c.val=52→c.val=240)∧(Lib.firstT c.val=4→241≤c.val∧c.val≤243)∧(Lib.firstT c.val=68→c.val=244):=by decide +kernel
theorem seq_bytes {s:BA} {p:Nat} (hp:p<s.size) (h8:128≤by8 s p) (hk:seqK s p=0) :
  (seqW s p=2∧194≤by8 s p∧by8 s p<224∧128≤by8 s (p+1)∧by8 s (p+1)≤191) ∨
  (seqW s p=3∧224≤by8 s p∧by8 s p<240∧128≤by8 s (p+1)∧by8 s (p+1)≤191∧128≤by8 s (p+2)∧by8 s (p+2)≤191∧(by8 s p=224→160≤by8 s (p+1))∧(by8 s p=237→by8 s (p+1)≤159)) ∨
  (seqW s p=4∧240≤by8 s p∧by8 s p≤244∧128≤by8 s (p+1)∧by8 s (p+1)≤191∧128≤by8 s (p+2)∧by8 s (p+2)≤191∧128≤by8 s (p+3)∧by8 s (p+3)≤191∧(by8 s p=240→144≤by8 s (p+1))∧(by8 s p=244→by8 s (p+1)≤143)):=by
 have l0:=by8_lt s p;have hf:=firstT_low ⟨by8 s p,l0⟩ h8;have hl:=lead_all ⟨by8 s p,l0⟩;simp only at hf hl;unfold seqK at hk;unfold seqW;by_cases h1:Lib.firstT (by8 s p)=241
 ·rw [if_pos h1] at hk;cases hk
 ·rw [if_neg h1] at hk;generalize hb1:by8 s (p+1)=b1 at *
  generalize hb2:by8 s (p+2)=b2 at *
  generalize hb3:by8 s (p+3)=b3 at *
  generalize s.size - p=n at *
  generalize by8 s p=b0 at *
  rcases Lib.firstT_cases b0 with g | g | g | g | g | g | g | g | g <;> first | exact (hf g).elim | exact (h1 g).elim | rw [g] at hk hl ⊢
  all_goals
   simp only [Nat.reduceMod,Nat.reduceDiv,Nat.reduceSub,qFw,Lib.accLo,Lib.accHi,Nat.reduceEqDiff,Nat.reduceAdd,Nat.reduceLeDiff,if_true,if_false,hb1,hb2,hb3,Nat.zero_add,Nat.add_zero,forall_const,false_imp_iff,true_and,and_true] at hk hl ⊢;repeat' split at hk
   all_goals first | (cases hk; done) | omega
def qD1 (s:BA) (p:Nat):Int :=
 if seqW s p=2 then ((by8 s p:Int) - 192)*64+((by8 s (p+1):Int) - 128)
 else if seqW s p=3 then ((by8 s p:Int) - 224)*4096+((by8 s (p+1):Int) - 128)*64+((by8 s (p+2):Int) - 128)
 else ((by8 s p:Int) - 240)*262144+((by8 s (p+1):Int) - 128)*4096+((by8 s (p+2):Int) - 128)*64+((by8 s (p+3):Int) - 128)
theorem utf_two {a b:Int} (ha:194≤a∧a<224) (hb:128≤b∧b≤191):utfL ((a - 192)*64+(b - 128))=[a,b]:=by
 unfold utfL;rw [if_neg (by omega),if_pos (by omega),show 192+((a - 192)*64+(b - 128)) / 64=a by omega,show 128+((a - 192)*64+(b - 128)) % 64=b by omega]
theorem utf_three {a b c:Int} (ha:224≤a∧a<240) (hb:128≤b∧b≤191) (hc:128≤c∧c≤191) (h1:a=224→160≤b):utfL ((a - 224)*4096+(b - 128)*64+(c - 128))=[a,b,c]:=by
 unfold utfL;rw [if_neg (by omega),if_neg (by omega),if_pos (by omega),show 224+((a - 224)*4096+(b - 128)*64+(c - 128)) / 4096=a by omega,show 128+((a - 224)*4096+(b - 128)*64+(c - 128)) / 64 % 64=b by omega,show 128+((a - 224)*4096+(b - 128)*64+(c - 128)) % 64=c by omega]
theorem utf_four {a b c d:Int} (ha:240≤a∧a≤244) (hb:128≤b∧b≤191) (hc:128≤c∧c≤191) (hd:128≤d∧d≤191) (h1:a=240→144≤b):utfL ((a - 240)*262144+(b - 128)*4096+(c - 128)*64+(d - 128))=[a,b,c,d]:=by
 unfold utfL;rw [if_neg (by omega),if_neg (by omega),if_neg (by omega),show 240+((a - 240)*262144+(b - 128)*4096+(c - 128)*64+(d - 128)) / 262144=a by omega,show 128+((a - 240)*262144+(b - 128)*4096+(c - 128)*64+(d - 128)) / 4096 % 64=b by omega,show 128+((a - 240)*262144+(b - 128)*4096+(c - 128)*64+(d - 128)) / 64 % 64=c by omega,show 128+((a - 240)*262144+(b - 128)*4096+(c - 128)*64+(d - 128)) % 64=d by omega]
theorem seq_code {s:BA} {p:Nat} (hp:p<s.size) (h8:128≤by8 s p) (hk:seqK s p=0):Code (qD1 s p)∧128≤qD1 s p∧utfL (qD1 s p)=((qAi s).drop p).take (seqW s p):=by
 have hw:=qDv hp h8 hk;have dr:∀i,i<s.size→(qAi s).drop i=(by8 s i:Int)::(qAi s).drop (i+1):=fun i hi=>by rw [qFf hi,qD0 hi]
 rcases seq_bytes hp h8 hk with ⟨h,h1,h2,h3,h4⟩ | ⟨h,h1,h2,h3,h4,h5,h6,h7,h9⟩ | ⟨h,h1,h2,h3,h4,h5,h6,h7,h9,h10,h11⟩
 ·unfold qD1;rw [if_pos h,utf_two (by omega) (by omega),h,dr p hp,dr (p+1) (by omega)];exact ⟨by unfold Code; omega,by omega,rfl⟩
 ·unfold qD1;rw [if_neg (by omega),if_pos h,utf_three (by omega) (by omega) (by omega) (by omega),h,dr p hp,dr (p+1) (by omega),dr (p+1+1) (by omega)];exact ⟨by unfold Code; omega,by omega,rfl⟩
 ·unfold qD1;rw [if_neg (by omega),if_neg (by omega),utf_four (by omega) (by omega) (by omega) (by omega) (by omega),h,dr p hp,dr (p+1) (by omega),dr (p+1+1) (by omega),dr (p+1+1+1) (by omega)];exact ⟨by unfold Code; omega,by omega,rfl⟩
def cpAt (s:BA) (p:Nat):Int:=if by8 s p<128 then (by8 s p:Int) else qD1 s p
def cpW (s:BA) (p:Nat):Nat:=if by8 s p<128 then 1 else seqW s p
structure CpOK (s:BA) (p:Nat):Prop where
 code:Code (cpAt s p)
 utf:utfL (cpAt s p)=((qAi s).drop p).take (cpW s p)
 len:(utfL (cpAt s p)).length=cpW s p
 pos:1≤cpW s p
 le:p+cpW s p≤s.size
 next:Lib.validD (s.data.toList.drop (p+cpW s p))=true
 low:by8 s p<128→cpAt s p=by8 s p∧cpW s p=1
 high:128≤by8 s p→128≤cpAt s p∧seqK s p=0∧cpW s p=seqW s p∧cpAt s p=qD1 s p
theorem cp_ok {s:BA} {p:Nat} (hp:p<s.size) (hv:Lib.validD (s.data.toList.drop p)=true):CpOK s p:=by
 by_cases h8:by8 s p<128
 ·have e1:cpAt s p=by8 s p:=if_pos h8;have e2:cpW s p=1:=if_pos h8;rw [validD_low hp h8] at hv;have e3:utfL (cpAt s p)=((qAi s).drop p).take (cpW s p):=by
   rw [e1,e2,drop_take_one hp,qD0 hp,utfL_one (by omega)]
  exact ⟨by rw [e1]; unfold Code; omega,e3,by rw [e1,e2,utfL_one (by omega)]; rfl,by omega,by omega,by rw [e2]; exact hv,fun _=>⟨e1,e2⟩,fun h=>by omega⟩
 ·have h8':128≤by8 s p:=by omega
  have e1:cpAt s p=qD1 s p:=if_neg h8;have e2:cpW s p=seqW s p:=if_neg h8;have hv2:=qHa hp h8';rw [hv] at hv2;by_cases hk:seqK s p=0
  ·rw [if_pos hk] at hv2;have hw:=qDv hp h8' hk;obtain ⟨c1,c2,c3⟩:=seq_code hp h8' hk;exact ⟨by rw [e1]; exact c1,by rw [e1,e2]; exact c3,by rw [e1,e2,c3,List.length_take,List.length_drop,qAj]; omega,by omega,by omega,by rw [e2]; exact hv2.symm,fun h=>by omega,fun _=>⟨by omega,hk,e2,e1⟩⟩
  ·rw [if_neg hk] at hv2;cases hv2
def hexG (g:Bool) (n:Int):Int:=if n<10 then 48+n else if g=true then 55+n else 87+n
theorem hexS_G {g:Bool} {n:Int} (h:0≤n∧n<16):hexS (hexG g n)=n:=by
 unfold hexS hexG;cases g
 all_goals
  simp only [if_true,if_false,Bool.false_eq_true];repeat' split
  all_goals omega
theorem hexG_range {g:Bool} {n:Int} (h:0≤n∧n<16):0≤hexG g n∧hexG g n<256:=by
 unfold hexG;repeat' split
 all_goals omega
def qGd (g:Bool) (u:Int):List Int:=[92,117,hexG g (u / 4096 % 16),hexG g (u / 256 % 16),hexG g (u / 16 % 16),hexG g (u % 16)]
theorem unitL_range (g:Bool) (u:Int):∀x∈qGd g u,0≤x∧x<256:=by
 have h0:=hexG_range (g:=g) (n:=u / 4096 % 16) (by omega);have h1:=hexG_range (g:=g) (n:=u / 256 % 16) (by omega);have h2:=hexG_range (g:=g) (n:=u / 16 % 16) (by omega);have h3:=hexG_range (g:=g) (n:=u % 16) (by omega);intro x hx;unfold qGd at hx;simp only [List.mem_cons,List.not_mem_nil,or_false] at hx;rcases hx with rfl | rfl | rfl | rfl | rfl | rfl
 ·decide
 ·decide
 ·exact h0
 ·exact h1
 ·exact h2
 ·exact h3
theorem four_unit {t:BA} {a f:Nat} {g:Bool} {u:Int} (hu:0≤u∧u<65536) (hh:Has t a (qGd g u)) (half:Bool) (h1:half=true→56320≤u∧u≤57343) (h2:half=false→¬(56320≤u∧u≤57343)) :
  qFc t half f 4 0 (a+2) 0=.ok (a+6) u∧bAt t (a:Int)=92∧bAt t ((a+1:Nat):Int)=117:=by
 obtain ⟨k1,k2,k3,k4,k5,k6,_⟩:=hh;have hf:=fourR_says (t:=t) (f:=f) (a:=a+2) (d0:=u / 4096 % 16) (d1:=u / 256 % 16) (d2:=u / 16 % 16) (d3:=u % 16) (by rw [show ((a+2:Nat):Int)=((a+1+1:Nat):Int) by omega,k3]; exact hexS_G (by omega)) (by rw [show ((a+2+1:Nat):Int)=((a+1+1+1:Nat):Int) by omega,k4]; exact hexS_G (by omega))
  (by rw [show ((a+2+1+1:Nat):Int)=((a+1+1+1+1:Nat):Int) by omega,k5]; exact hexS_G (by omega)) (by rw [show ((a+2+1+1+1:Nat):Int)=((a+1+1+1+1+1:Nat):Int) by omega,k6]; exact hexS_G (by omega))
  (by omega) (by omega) (by omega) (by omega) half (fun h=>by have:=h1 h; omega) (fun h=>by have:=h2 h; omega)
 rw [show 4096*(u / 4096 % 16)+256*(u / 256 % 16)+16*(u / 16 % 16)+u % 16=u by omega,show a+2+4=a+6 by omega] at hf;exact ⟨hf,k1,k2⟩
theorem escR_one {t:BA} {a:Nat} {g:Bool} {u:Int} (hu:Code u) (h16:u<65536) (hh:Has t a (qGd g u)):bAt t (a:Int)=92∧escR t a=.ok (a+6) u:=by
 unfold Code at hu;obtain ⟨h1,h2,h3⟩:=four_unit (f:=a) (by omega) hh false (fun h=>by cases h) (fun _=>by omega);exact ⟨h2,escR_unit h3 h1 (by omega)⟩
def hiU (u:Int):Int:=55296+(u - 65536) / 1024
def loU (u:Int):Int:=56320+(u - 65536) % 1024
theorem escR_pair {t:BA} {a:Nat} {g:Bool} {u:Int} (hu:Code u) (h16:65536≤u) (hh:Has t a (qGd g (hiU u)++qGd g (loU u))):bAt t (a:Int)=92∧escR t a=.ok (a+12) u:=by
 unfold Code at hu;rw [Has.append] at hh;have e1:55296≤hiU u∧hiU u≤56319:=by unfold hiU; omega
 have e2:56320≤loU u∧loU u≤57343:=by unfold loU; omega
 have e3:65536+1024*(hiU u - 55296)+loU u - 56320=u:=by unfold hiU loU; omega
 obtain ⟨h1,h2,h3⟩:=four_unit (f:=a) (by omega) hh.1 false (fun h=>by cases h) (fun _=>by omega);obtain ⟨g1,g2,g3⟩:=four_unit (f:=a) (by omega) (show Has t (a+6) (qGd g (loU u)) from hh.2) true (fun _=>by omega) (fun h=>by cases h);refine ⟨h2,?_⟩;unfold escR;rw [h3,if_neg (by decide),if_pos rfl,h1];dsimp only;rw [if_neg (by omega)];unfold pairR;rw [g2,g3,if_neg (by decide),if_neg (by decide),if_neg (by decide),if_neg (by decide),g1];dsimp only;rw [e3]
def qBb (how u:Int):List Int :=
 if how=1∨how=2 then (if u<65536 then qGd (decide (how=2)) u else qGd (decide (how=2)) (hiU u)++qGd (decide (how=2)) (loU u))
 else if how=3∧u=47 then [92,47]
 else if u<32∨u=34∨u=92 then qGd false u
 else utfL u
theorem letterL_range {how u:Int} (hu:Code u):∀x∈qBb how u,0≤x∧x<256:=by
 unfold qBb;repeat' split
 ·exact unitL_range _ _
 ·intro x hx;rcases List.mem_append.1 hx with hx | hx
  ·exact unitL_range _ _ x hx
  ·exact unitL_range _ _ x hx
 ·decide
 ·exact unitL_range _ _
 ·exact utfL_range hu
theorem qDt (g:Bool) (u:Int):(qGd g u).length=6:=rfl
theorem letterL_len (how u:Int):(qBb how u).length≤6*(utfL u).length:=by
 have h1:=(utfL_len u).1;have h2:65536≤u→(utfL u).length=4:=fun h=>by unfold utfL; rw [if_neg (by omega),if_neg (by omega),if_neg (by omega)]; rfl
 unfold qBb;split
 ·split
  ·rw [qDt]; omega
  ·rw [List.length_append,qDt,qDt];have:=h2 (by omega);omega
 ·split
  ·show 2≤_; omega
  ·split
   ·rw [qDt]; omega
   ·omega
def howS (row:List Int) (n:Nat):Int:=if row=[] then 0 else row.getD (n % row.length) 0
def spF (s:BA) (row:List Int):Nat→Nat→Nat→List Int
 | 0,_,_=>[]
 | k+1,n,p=>if p<s.size then qBb (howS row n) (cpAt s p)++spF s row k (n+1) (p+cpW s p) else []
def spQ (row:List Int) (s:BA):List Int:=34::(spF s row s.size 0 0++[34])
theorem spF_end {s:BA} {row:List Int} {k n p:Nat} (h:s.size≤p):spF s row k n p=[]:=by
 cases k with
 | zero=>rfl
 | succ k=>unfold spF; rw [if_neg (by omega)]
theorem spF_range {s:BA} {row:List Int}:∀(k n p:Nat),Lib.validD (s.data.toList.drop p)=true→∀x∈spF s row k n p,0≤x∧x<256
 | 0,n,p,hv,x,hx=>by cases hx
 | k+1,n,p,hv,x,hx=>by
  unfold spF at hx;split at hx
  ·rename_i hp;have hc:=cp_ok hp hv;rcases List.mem_append.1 hx with hx | hx
   ·exact letterL_range hc.code x hx
   ·exact spF_range k (n+1) _ hc.next x hx
  ·cases hx
theorem spF_len {s:BA} {row:List Int}:∀(k n p:Nat),p≤s.size→Lib.validD (s.data.toList.drop p)=true→(spF s row k n p).length≤6*(s.size - p)
 | 0,n,p,hp,hv=>by show 0≤_; omega
 | k+1,n,p,hp,hv=>by
  unfold spF;split
  ·rename_i hp;have hc:=cp_ok hp hv;have ih:=spF_len (row:=row) k (n+1) (p+cpW s p) hc.le hc.next;have hl:=letterL_len (howS row n) (cpAt s p);have h1:=hc.len;have h2:=hc.le;rw [List.length_append];omega
  ·show 0≤_; omega
theorem spF_spells {t s:BA} {row:List Int}:∀(k n a p:Nat),s.size - p≤k→p≤s.size→Lib.validD (s.data.toList.drop p)=true→Has t a (spF s row k n p)→Spells t s a (a+(spF s row k n p).length) p s.size
 | 0,n,a,p,h1,h2,hv,hh=>by
  have:p=s.size:=by omega
  subst this;exact Spells.nil a s.size
 | k+1,n,a,p,h1,h2,hv,hh=>by
  by_cases hp:p<s.size
  ·have hc:=cp_ok hp hv;have e:spF s row (k+1) n p=qBb (howS row n) (cpAt s p)++spF s row k (n+1) (p+cpW s p):=by
    show (if p<s.size then _ else _)=_;rw [if_pos hp]
   rw [e,Has.append] at hh;rw [e,List.length_append,←Nat.add_assoc];obtain ⟨g1,g2⟩:=hh;have c1:=hc.pos;have ih:=spF_spells k (n+1) (a+(qBb (howS row n) (cpAt s p)).length) (p+cpW s p) (by omega) hc.le hc.next g2;generalize a+(qBb (howS row n) (cpAt s p)).length+(spF s row k (n+1) (p+cpW s p)).length=b at *
   generalize howS row n=how at *
   have esc:∀l:List Int,qBb how (cpAt s p)=l→bAt t (a:Int)=92∧escR t a=.ok (a+l.length) (cpAt s p)→Spells t s a b p s.size:=fun l hl he=>by
    rw [hl] at ih;refine Spells.esc he.1 he.2 ?_ ?_
    ·rw [hc.len];exact hc.utf.symm
    ·rw [hc.len];exact ih
   by_cases h12:how=1∨how=2
   ·by_cases h16:cpAt s p<65536
    ·have hl:qBb how (cpAt s p)=qGd (decide (how=2)) (cpAt s p):=by unfold qBb; rw [if_pos h12,if_pos h16]
     rw [hl] at g1;exact esc _ hl (escR_one hc.code h16 g1)
    ·have hl:qBb how (cpAt s p)=qGd (decide (how=2)) (hiU (cpAt s p))++qGd (decide (how=2)) (loU (cpAt s p)):=by unfold qBb; rw [if_pos h12,if_neg h16]
     rw [hl] at g1;exact esc _ hl (escR_pair hc.code (by omega) g1)
   ·by_cases h47:how=3∧cpAt s p=47
    ·have hl:qBb how (cpAt s p)=[92,47]:=by unfold qBb; rw [if_neg h12,if_pos h47]
     rw [hl] at g1;refine esc _ hl ⟨g1.1,?_⟩;have:=escR_two (t:=t) (a:=a) (c:=47) g1.2.1 (by decide) (by decide) (by decide);rw [this,h47.2];rfl
    ·by_cases h32:cpAt s p<32∨cpAt s p=34∨cpAt s p=92
     ·have hl:qBb how (cpAt s p)=qGd false (cpAt s p):=by unfold qBb; rw [if_neg h12,if_neg h47,if_pos h32]
      rw [hl] at g1;exact esc _ hl (escR_one hc.code (by omega) g1)
     ·have hl:qBb how (cpAt s p)=utfL (cpAt s p):=by unfold qBb; rw [if_neg h12,if_neg h47,if_neg h32]
      rw [hl] at g1 ih;rw [hc.len] at ih;by_cases h8:by8 s p<128
      ·obtain ⟨l1,l2⟩:=hc.low h8;rw [l1,utfL_one (by omega)] at g1;rw [l2] at ih;have hb:=qD0 hp;exact Spells.raw hp (by rw [hb]; exact g1.1) (by omega) (by omega) (by omega) (by omega) ih
      ·obtain ⟨l1,l2,l3,l4⟩:=hc.high (by omega);rw [l3] at ih;have hw:=qDv hp (by omega) l2;have hgl:=g1.le;rw [hc.len,l3] at hgl;refine Spells.seq hp (by omega) l2 (fun j hj=>?_) hgl ih;have key:∀(L:List Int) (a i:Nat),Has t a L→i<L.length→bAt t ((a+i:Nat):Int)=L.getD i 0:=by
        intro L;induction L with
        | nil=>intro a i _ h; simp at h
        | cons c L ih =>
         intro a i h hi;cases i with
         | zero=>exact h.1
         | succ i =>
          have:=ih (a+1) i h.2 (by simpa using hi);rw [show a+(i+1)=a+1+i by omega,this];rfl
       have h1:=key _ a j g1 (by rw [hc.len,l3]; exact hj);rw [hc.utf,l3,List.getD_eq_getElem?_getD,List.getElem?_take,if_pos hj,List.getElem?_drop,qC1 (by omega)] at h1;have b1:=qD0 (t:=t) (i:=a+j) (by omega);have b2:=qD0 (t:=s) (i:=p+j) (by omega);have h1:bAt t ((a+j:Nat):Int)=bAt s ((p+j:Nat):Int):=h1;omega
  ·have:p=s.size:=by omega
   subst this;rw [spF_end (Nat.le_refl _)];exact Spells.nil a s.size
theorem spQ_ok (row:List Int):QOK (spQ row):=qok_of (m:=fun s=>spF s row s.size 0 0) (fun s=>rfl) fun s t a hv hh =>
 spF_spells s.size 0 a 0 (by omega) (by omega) (by rw [List.drop_zero]; exact hv) hh
theorem spQ_len {row:List Int} {s:BA} (hv:Lib.validD s.data.toList=true):(spQ row s).length≤6*s.size+2:=by
 have:=spF_len (row:=row) s.size 0 0 (by omega) (by rw [List.drop_zero]; exact hv);unfold spQ;rw [List.length_cons,List.length_append,List.length_singleton];omega
theorem spQ_range {row:List Int} {s:BA} (hv:Lib.validD s.data.toList=true):∀x∈spQ row s,0≤x∧x<256:=by
 intro x hx;unfold spQ at hx;simp only [List.mem_cons,List.mem_append,List.not_mem_nil,or_false] at hx;rcases hx with rfl | hx | rfl
 ·decide
 ·exact spF_range s.size 0 0 (by rw [List.drop_zero]; exact hv) x hx
 ·decide
structure BlOK (bl:Nat→List Int):Prop where
 is:∀i,∀c∈bl i,qCk c=true
 len:∀i,(bl i).length≤2
def keyW (q:BA→List Int) (bl:Nat→List Int) (v:List Eng.Node) (obj:Bool) (a0 i p:Nat):List Int:=if obj=true then q (qBz v p)++(bl a0++(58::bl i)) else []
def commaW (bl:Nat→List Int) (a0 i:Nat):List Int:=if i=0 then [] else 44::bl (i+a0)
noncomputable def qEr (q:BA→List Int) (bl:Nat→List Int) (v:List Eng.Node) (one:Nat→Option Nat) (pr:Nat→List Int) (obj:Bool) (a0:Nat):Nat→Nat→Nat→List Int
 | 0,_,_=>[]
 | k+1,i,p=>commaW bl a0 i++(keyW q bl v obj a0 i p++(pr p++qEr q bl v one pr obj a0 k (i+1) ((one p).getD 0)))
noncomputable def qCb (q:BA→List Int) (bl:Nat→List Int) (v:List Eng.Node):Nat→Nat→List Int
 | 0,p=>bl (p+2)++(scQ q (v.getD p (ET.dft .node))++bl (p+3))
 | d+1,p =>
  bl (p+2)++((if (v.getD p (ET.dft .node)).kind<6 then scQ q (v.getD p (ET.dft .node))
  else (if (v.getD p (ET.dft .node)).kind=7 then 123 else 91)::(bl (p+1)++(qEr q bl v (oneS v d (decide ((v.getD p (ET.dft .node)).kind=7))) (qCb q bl v d) (decide ((v.getD p (ET.dft .node)).kind=7)) p (v.getD p (ET.dft .node)).kids.toNat 0 (p+1)++[if (v.getD p (ET.dft .node)).kind=7 then 125 else 93])))++bl (p+3))
theorem skip_bl {t:BA}:∀ {L:List Int} {a:Nat},(∀c∈L,qCk c=true)→Has t a L→qAu t a=qAu t (a+L.length)
 | [],a,_,_=>rfl
 | c::L,a,h,hh=>by
  have hb:qCk (bAt t (a:Int))=true:=by rw [hh.1]; exact h c List.mem_cons_self
  rw [skipS_yes hb,skip_bl (fun c hc=>h c (List.mem_cons_of_mem _ hc)) hh.2,List.length_cons,show a+1+L.length=a+(L.length+1) by omega]
theorem blank_stop {c:Int} (h:qCk c=true):Stop c:=by
 unfold qCk at h;simp only [Bool.or_eq_true,decide_eq_true_eq] at h;unfold Stop;omega
theorem val_close {t:BA} {d a b:Nat} {l:List Eng.Node} (h:valR t d a=.ok b l):bAt t (a:Int)≠93:=by
 intro h93;have hs:qC8 t a=.bad 31 a:=by
  unfold qC8;rw [h93];rfl
 cases d with
 | zero=>unfold valR at h; rw [h93,if_neg (by decide),hs] at h; cases h
 | succ d=>unfold valR at h; rw [h93,if_neg (by decide),hs] at h; cases h
theorem row_close {t:BA} {d m a k b:Nat} {obj:Bool} {acc:List Eng.Node} {names:List BA} {x:Nat × List Eng.Node} (h:rowR t (valR t d) obj m a k acc names=.ok b x):bAt t (a:Int)≠lastC obj:=by
 cases m with
 | zero=>cases h
 | succ m =>
  unfold rowR at h;split at h
  ·cases h
  ·rename_i b1 y h1;unfold qD5 at h1;cases obj with
   | true =>
    rw [if_pos rfl] at h1;split at h1
    ·rename_i h34;rw [h34];decide
    ·cases h1
   | false =>
    rw [if_neg (by decide)] at h1;split at h1
    ·cases h1
    ·rename_i h2;exact val_close h2
def ReadsW (q:BA→List Int) (bl:Nat→List Int) (v:List Eng.Node) (d:Nat):Prop:=∀(obj:Bool) (p e:Nat),oneS v d obj p=some e→∀(t:BA) (a:Nat),Has t a (qCb q bl v d p)→After (bAt t ((a+(qCb q bl v d p).length:Nat):Int)) →
 ∃b,valR t d (qAu t a)=.ok b (qBl ⟨#[]⟩ (part v p e))∧qAu t b=a+(qCb q bl v d p).length
noncomputable def rsBody (q:BA→List Int) (bl:Nat→List Int) (v:List Eng.Node) (d:Nat) (obj:Bool) (a0 k i p e:Nat):List Int:=keyW q bl v obj a0 i p++(qCb q bl v d p++qEr q bl v (oneS v d obj) (qCb q bl v d) obj a0 k (i+1) e)
theorem rsKids_body {q:BA→List Int} {bl:Nat→List Int} {v:List Eng.Node} {d:Nat} {obj:Bool} {a0 k i p e:Nat} (h:oneS v d obj p=some e):qEr q bl v (oneS v d obj) (qCb q bl v d) obj a0 (k+1) i p=commaW bl a0 i++rsBody q bl v d obj a0 k i p e:=by
 show commaW bl a0 i++(keyW q bl v obj a0 i p++(qCb q bl v d p++qEr q bl v (oneS v d obj) (qCb q bl v d) obj a0 k (i+1) ((oneS v d obj p).getD 0)))=_;rw [h];rfl
theorem lt_five (a K P B:Nat):a<a+K+P+1+B:=by omega
theorem rsk_says {q:BA→List Int} {bl:Nat→List Int} (hq:QOK q) (hbl:BlOK bl) {v:List Eng.Node} (hv:OkL v) {d:Nat} (hd:ReadsW q bl v d) {obj:Bool} {a0:Nat}:∀(k i p e1 e:Nat) (names:List BA) (t:BA) (a m k0:Nat) (acc:List Eng.Node),oneS v d obj p=some e1→qCr v (oneS v d obj) obj (k+1) p names=some e →
  Has t a (rsBody q bl v d obj a0 k i p e1)→bAt t ((a+(rsBody q bl v d obj a0 k i p e1).length:Nat):Int)=closeC obj→t.size - a<m →
  rowR t (valR t d) obj m (qAu t a) k0 acc names=.ok (a+(rsBody q bl v d obj a0 k i p e1).length+1) (k0+(k+1),acc++part v p e)
 | k,i,p,e1,e,names,t,a,0,k0,acc,ho,hk,hh,hc,hm=>by omega
 | k,i,p,e1,e,names,t,a,m+1,k0,acc,ho,hk,hh,hc,hm=>by
  unfold qCr at hk;rw [ho] at hk;dsimp only at hk;have hle1:=qCo v d obj p e1 ho;obtain ⟨n,hn1,hn2,hn3,hn4,hn5,hn6,_⟩:=qCx hv ho;split at hk
  ·cases hk
  ·rename_i hnm;have hke:=qEk (fun a e=>qCo v d obj a e) k e1 _ e hle1.2 hk;unfold rsBody at hh hc ⊢;rw [Has.append,Has.append] at hh;obtain ⟨g1,g2,g3⟩:=hh;simp only [List.length_append] at hc ⊢;generalize hK:(keyW q bl v obj a0 i p).length=K at *
   generalize hP:(qCb q bl v d p).length=P at *
   have hle2:=g3.le;have hrest:After (bAt t ((a+K+P:Nat):Int))∧(k=0→qEr q bl v (oneS v d obj) (qCb q bl v d) obj a0 k (i+1) e1=[]) ∧
     (∀k',k=k'+1→∃e2,oneS v d obj e1=some e2∧bAt t ((a+K+P:Nat):Int)=44∧Has t (a+K+P+1) (bl (i+1+a0))∧Has t (a+K+P+1+(bl (i+1+a0)).length) (rsBody q bl v d obj a0 k' (i+1) e1 e2) ∧
      (qEr q bl v (oneS v d obj) (qCb q bl v d) obj a0 k (i+1) e1).length=1+(bl (i+1+a0)).length+(rsBody q bl v d obj a0 k' (i+1) e1 e2).length):=by
    cases k with
    | zero =>
     refine ⟨?_,fun _=>rfl,fun k' h=>by omega⟩;have e0:(qEr q bl v (oneS v d obj) (qCb q bl v d) obj a0 0 (i+1) e1).length=0:=rfl;rw [e0,show a+(K+(P+0))=a+K+P by omega] at hc;rw [hc];cases obj
     ·exact .inr (.inr (.inl rfl))
     ·exact .inr (.inr (.inr rfl))
    | succ k' =>
     cases ho2:oneS v d obj e1 with
     | none=>unfold qCr at hk; rw [ho2] at hk; cases hk
     | some e2 =>
      rw [rsKids_body ho2] at g3 ⊢;have ecm:commaW bl a0 (i+1)=44::bl (i+1+a0):=if_neg (by omega);rw [ecm,List.cons_append] at g3 ⊢;obtain ⟨h44,g4⟩:=g3;rw [Has.append] at g4;refine ⟨.inr (.inl h44),fun h=>by omega,fun k'' hk''=>?_⟩;obtain rfl:k''=k':=by omega
      refine ⟨e2,rfl,h44,g4.1,g4.2,?_⟩;rw [List.length_cons,List.length_append];omega
   obtain ⟨hAft,hk0,hk1⟩:=hrest;have hitem:∃b,qD5 t (valR t d) obj names (qAu t a)=.ok b (bif obj then qBz v p else ⟨#[]⟩,part v p e1)∧qAu t b=a+K+P:=by
    cases obj with
    | false =>
     have e0:keyW q bl v false a0 i p=[]:=rfl;have hK0:K=0:=by rw [←hK,e0]; rfl
     subst hK0;obtain ⟨b,r1,r2⟩:=hd false p e1 ho t a (by simpa using g2) (by rw [hP]; simpa using hAft);refine ⟨b,?_,by rw [r2,hP]; rfl⟩;unfold qD5;rw [if_neg (by decide),r1];dsimp only;have hkey:n.key=⟨#[]⟩:=by
      unfold okB at hn5;simp only [Bool.and_eq_true,Bool.or_eq_true,decide_eq_true_eq,Bool.false_eq_true,false_or] at hn5;exact hn5.2
     have hs:qBl ⟨#[]⟩ (part v p e1)=part v p e1:=by
      rw [part_cons hn1 (by omega)];show (⟨n.kind,⟨#[]⟩,n.text,n.whole,n.int,n.kids⟩:Eng.Node)::_=n::_;rw [←hkey]
     rw [hs];rfl
    | true =>
     have e0:keyW q bl v true a0 i p=q (qBz v p)++(bl a0++(58::bl i)):=rfl;rw [e0,Has.append,Has.append] at g1;obtain ⟨f1,f2,f3,f4⟩:=g1;have hkk:qBz v p=n.key:=by unfold qBz; rw [List.getD_eq_getElem?_getD,hn1]; rfl
     have hval:Lib.validD (qBz v p).data.toList=true:=by
      unfold okB at hn5;simp only [Bool.and_eq_true] at hn5;rw [hkk];exact hn5.1.2
     obtain ⟨q1,q2⟩:=hq (qBz v p) t a hval f1;have hKl:K=(q (qBz v p)).length+((bl a0).length+(1+(bl i).length)):=by rw [←hK,e0,List.length_append,List.length_append,List.length_cons]; omega
     obtain ⟨b,r1,r2⟩:=hd true p e1 ho t (a+K) g2 (by rw [hP]; exact hAft);refine ⟨b,?_,by rw [r2,hP]⟩;have s1:qAu t a=a:=qGe (by rw [q1]; decide);have s2:qAu t (a+(q (qBz v p)).length)=a+(q (qBz v p)).length+(bl a0).length:=by
      rw [skip_bl (hbl.is a0) f2];exact qGe (by rw [f3]; decide)
     have s3:qAu t (a+(q (qBz v p)).length+(bl a0).length+1)=qAu t (a+K):=by
      rw [skip_bl (hbl.is i) f4,hKl];congr 1
      omega
     unfold qD5;rw [s1,if_pos rfl,if_pos q1,q2];dsimp only;rw [qG0,if_neg (fun hm=>hnm ⟨rfl,hm⟩),s2,if_pos f3,s3,r1];dsimp only;rw [setKey_twice,setKey_own hn1 (by omega)];rfl
   obtain ⟨b,hitem,hsb⟩:=hitem;unfold rowR;rw [hitem];dsimp only;rw [hsb];have hpart:=part_app v (p:=p) (m:=e1) (e:=e) (by omega) (by omega);have hlc:=lastC_close obj;have hnc:closeC obj≠44:=by cases obj <;> decide
   cases k with
   | zero =>
    have hk0:=hk0 rfl;have he:e=e1:=by cases hk; rfl
    rw [hk0] at hc ⊢;rw [show a+(K+(P+([]:List Int).length))=a+K+P by simp; omega] at hc ⊢;rw [hlc,if_pos hc,he]
   | succ k' =>
    obtain ⟨e2,ho2,h44,hb1,hb2,hlen⟩:=hk1 k' rfl;rw [hlen] at hc ⊢;rw [hlc,if_neg (by rw [h44]; exact fun h=>hnc h.symm),if_pos h44,skip_bl (hbl.is _) hb1];have hle3:=hb2.le;have hnames:qCr v (oneS v d obj) obj (k'+1) e1 (names++[bif obj then qBz v p else ⟨#[]⟩])=some e:=by
     cases obj with
     | true=>exact hk
     | false =>
      have indep:∀(k p:Nat) (n1 n2:List BA),qCr v (oneS v d false) false k p n1=qCr v (oneS v d false) false k p n2:=by
       intro k;induction k with
       | zero=>intro p n1 n2; rfl
       | succ k ih =>
        intro p n1 n2;unfold qCr;cases oneS v d false p with
        | none=>rfl
        | some e =>
         dsimp only;rw [if_neg (by simp),if_neg (by simp)];exact ih _ _ _
      rw [indep _ _ _ (names++[qBz v p])];exact hk
    generalize hB:(bl (i+1+a0)).length=B at *
    generalize hR:(rsBody q bl v d obj a0 k' (i+1) e1 e2).length=R at *
    have ih:=rsk_says hq hbl hv hd k' (i+1) e1 e2 e (names++[bif obj then qBz v p else ⟨#[]⟩]) t (a+K+P+1+B) m (k0+1) (acc++part v p e1) ho2 hnames hb2 (by
     rw [hR,show a+K+P+1+B+R=a+(K+(P+(1+B+R))) by omega];exact hc) (sub_less hm (Nat.le_trans (Nat.le_add_right _ _) hle3) (lt_five a K P B))
    have ea:a+K+P+1+B+R+1=a+(K+(P+(1+B+R)))+1:=by omega
    rw [ih,hR,hpart,List.append_assoc,ea,show k0+1+(k'+1)=k0+(k'+1+1) by omega]
theorem scal_w {q:BA→List Int} {bl:Nat→List Int} (hq:QOK q) (hbl:BlOK bl) {v:List Eng.Node} {p:Nat} {n:Eng.Node} (hn1:v[p]?=some n) (hn:n.text.size≤3000000) (hp:pB n=true) (hk:n.kind<6) (d:Nat) {t:BA} {a:Nat} (hh:Has t a (bl (p+2)++(scQ q n++bl (p+3)))) (hA:After (bAt t ((a+(bl (p+2)++(scQ q n++bl (p+3))).length:Nat):Int))) :
  ∃b,valR t d (qAu t a)=.ok b (qBl ⟨#[]⟩ (part v p (p+1)))∧qAu t b=a+(bl (p+2)++(scQ q n++bl (p+3))).length:=by
 rw [Has.append,Has.append] at hh;obtain ⟨g1,g2,g3⟩:=hh;simp only [List.length_append] at hA ⊢;have hst:Stop (bAt t ((a+(bl (p+2)).length+(scQ q n).length:Nat):Int)):=by
  cases hb:bl (p+3) with
  | nil =>
   rw [hb] at hA;simp only [List.length_nil,Nat.add_zero,←Nat.add_assoc] at hA;exact hA.stop
  | cons c L =>
   rw [hb] at g3;rw [g3.1];exact blank_stop (hbl.is (p+3) c (by rw [hb]; exact List.mem_cons_self))
 obtain ⟨r1,r2,r3,r4⟩:=scal_saysQ hq hn hp hk g2 hst;refine ⟨a+(bl (p+2)).length+(scQ q n).length,?_,?_⟩
 ·rw [skip_bl (hbl.is _) g1,r4,part_one hn1];cases d with
  | zero=>unfold valR; rw [if_neg (fun h=>h.elim r2 r3),r1]
  | succ d=>unfold valR; rw [if_neg (fun h=>h.elim r2 r3),r1]
 ·rw [skip_bl (hbl.is _) g3];simp only [←Nat.add_assoc] at hA ⊢;exact hA.skip
theorem reads_w {q:BA→List Int} {bl:Nat→List Int} (hq:QOK q) (hbl:BlOK bl) {v:List Eng.Node} (hv:OkL v):∀d:Nat,ReadsW q bl v d
 | 0=>fun obj p e ho t a hh hA=>by
  obtain ⟨n,hn1,hn2,hn3,hn4,hn5,hn6,_⟩:=qCx hv ho;unfold oneS at ho;rw [hn1] at ho;dsimp only at ho;split at ho
  ·rename_i hc;cases ho;have e0:qCb q bl v 0 p=bl (p+2)++(scQ q n++bl (p+3)):=by
    show bl (p+2)++(scQ q (v.getD p _)++bl (p+3))=_;rw [hn4]
   rw [e0] at hh hA ⊢;exact scal_w hq hbl hn1 (hv.2 n hn2).text hn6 hc.2 0 hh hA
  ·cases ho
 | d+1=>fun obj p e ho t a hh hA=>by
  obtain ⟨n,hn1,hn2,hn3,hn4,hn5,hn6,_⟩:=qCx hv ho;unfold oneS at ho;rw [hn1] at ho;dsimp only at ho;rw [if_pos hn5] at ho;by_cases hk6:n.kind<6
  ·have e0:qCb q bl v (d+1) p=bl (p+2)++(scQ q n++bl (p+3)):=by
    unfold qCb;rw [hn4,if_pos hk6]
   rw [e0] at hh hA ⊢;have hkid:n.kids=0:=by
    rcases pB_inv (hv.2 n hn2).text hn6 with h | h | h | h <;> omega
   rw [hkid] at ho;cases ho;exact scal_w hq hbl hn1 (hv.2 n hn2).text hn6 hk6 (d+1) hh hA
  ·rcases pB_inv (hv.2 n hn2).text hn6 with h | h | h | ⟨h67,hk0,hw,hi,ht⟩
   ·omega
   ·omega
   ·omega
   ·have e0:qCb q bl v (d+1) p=bl (p+2)++(((if n.kind=7 then 123 else 91)::(bl (p+1)++(qEr q bl v (oneS v d (decide (n.kind=7))) (qCb q bl v d) (decide (n.kind=7)) p n.kids.toNat 0 (p+1)++[if n.kind=7 then 125 else 93])))++bl (p+3)):=by
     unfold qCb;rw [hn4,if_neg hk6]
    rw [e0] at hh hA ⊢;generalize hob:decide (n.kind=7)=ob at *
    have hop:(if n.kind=7 then 123 else 91:Int)=if ob=true then 123 else 91:=by rw [←hob]; simp
    have hcl:(if n.kind=7 then 125 else 93:Int)=closeC ob:=by unfold closeC; rw [←hob]; simp
    have hkc:n.kind=qCd ob:=by
     unfold qCd;rw [←hob];rcases h67 with h | h <;> rw [h] <;> rfl
    rw [hop,hcl] at hh hA ⊢;rw [Has.append,Has.append] at hh;obtain ⟨g0,g1,gz⟩:=hh;obtain ⟨g1,g2⟩:=g1;rw [Has.append,Has.append] at g2;obtain ⟨gb,g3,g4⟩:=g2;simp only [List.length_append,List.length_cons,List.length_nil] at hA gz ⊢;generalize hB0:(bl (p+2)).length=B0 at *
    generalize hB1:(bl (p+1)).length=B1 at *
    have hclose:=g4.1;have hbr:bAt t ((a+B0:Nat):Int)=91∨bAt t ((a+B0:Nat):Int)=123:=by rw [g1]; cases ob <;> simp
    have hobj:decide (bAt t ((a+B0:Nat):Int)=123)=ob:=by rw [g1]; cases ob <;> rfl
    have hs0:qAu t a=a+B0:=by
     rw [skip_bl (hbl.is _) g0,hB0];exact qGe (by omega)
    have hs1:qAu t (a+B0+1)=qAu t (a+B0+1+B1):=by
     rw [skip_bl (hbl.is _) gb,hB1]
    have hend:∀b R,b=a+B0+1+B1+R+1→R=(qEr q bl v (oneS v d ob) (qCb q bl v d) ob p n.kids.toNat 0 (p+1)).length→qAu t b=a+(B0+(B1+(R+(0+1))+1+(bl (p+3)).length)):=by
     intro b R hb hR;rw [←hR] at hA gz;rw [show a+B0+(B1+(R+(0+1))+1)=b by omega] at gz;rw [skip_bl (hbl.is _) gz,show b+(bl (p+3)).length=a+(B0+(B1+(R+(0+1))+1+(bl (p+3)).length)) by omega];exact hA.skip
    have hnode:∀m:Nat,n.kids=(m:Int)→nd0 (qCd ob) ⟨#[]⟩ false 0 (m:Int)=⟨n.kind,⟨#[]⟩,n.text,n.whole,n.int,n.kids⟩:=fun m hm=>by
     rw [←hkc,hm,hw,hi,ht];rfl
    rw [hs0];unfold valR;rw [if_pos hbr,hobj];unfold boxR;cases hkn:n.kids.toNat with
    | zero =>
     rw [hkn] at ho hclose hend;cases ho;have e1:qEr q bl v (oneS v d ob) (qCb q bl v d) ob p 0 0 (p+1)=[]:=rfl;rw [e1] at hclose;have hclose:bAt t ((a+B0+1+B1:Nat):Int)=closeC ob:=hclose;have hs2:qAu t (a+B0+1+B1)=a+B0+1+B1:=qGe (by rw [hclose]; cases ob <;> decide)
     rw [hs1,hs2,lastC_close,if_pos hclose,part_one hn1];refine ⟨a+B0+1+B1+1,?_,hend _ _ rfl rfl⟩;congr 1
     show [nd0 _ _ _ _ ((0:Nat):Int)]=_;rw [hnode 0 (by omega)];rfl
    | succ k =>
     rw [hkn] at ho hclose hend g3;cases ho2:oneS v d ob (p+1) with
     | none=>unfold qCr at ho; rw [ho2] at ho; cases ho
     | some e1 =>
      have hbody:=rsKids_body (q:=q) (bl:=bl) (a0:=p) (k:=k) (i:=0) ho2;have ecm:commaW bl p 0=[]:=rfl;rw [ecm,List.nil_append] at hbody;rw [hbody] at g3 hclose hend ⊢;have hlen:=g3.le;have ih:=rsk_says hq hbl hv (reads_w hq hbl hv d) k 0 (p+1) e1 e [] t (a+B0+1+B1) (t.size+1) 0 [] ho2 ho g3 hclose (by omega);have hnl:=row_close ih;rw [hs1,if_neg hnl,ih];dsimp only;have hke:=qEk (fun a e=>qCo v d ob a e) (k+1) (p+1) _ e (by omega) ho;refine ⟨_,?_,hend _ _ rfl rfl⟩;rw [part_cons hn1 (by omega),List.nil_append];congr 1
      show nd0 _ _ _ _ ((0+(k+1):Nat):Int)::_=_;rw [hnode (0+(k+1)) (by omega)];rfl
theorem respelled_back {q:BA→List Int} {bl:Nat→List Int} (hq:QOK q) (hbl:BlOK bl) {v:List Eng.Node} (hv:OkL v) (hs:oneS v 32 false 0=some v.length) {t:BA} (ht:qAi t=qCb q bl v 32 0) (hsz:t.size≤262144):parseR t=(v,0,0):=by
 have hall:=has_all t;rw [ht] at hall;have hlen:(qCb q bl v 32 0).length=t.size:=by rw [←ht,qAj]
 obtain ⟨b,h1,h2⟩:=reads_w hq hbl hv 32 false 0 v.length hs t 0 hall (.inl (qBt (by rw [hlen]; omega)));obtain ⟨n,hn1,hn2,hn3,hn4,hn5,hn6,_⟩:=qCx hv hs;have hkey:n.key=⟨#[]⟩:=by
  unfold okB at hn5;simp only [Bool.and_eq_true,Bool.or_eq_true,decide_eq_true_eq,Bool.false_eq_true,false_or] at hn5;exact hn5.2
 have hpart:part v 0 v.length=v:=by unfold part; simp
 have hkk:qBl ⟨#[]⟩ v=v:=by
  have h0:=setKey_own hn1 (e:=v.length) (by omega);rw [hpart] at h0;have:qBz v 0=⟨#[]⟩:=by unfold qBz; rw [hn4,hkey]
  rw [this] at h0;exact h0
 rw [hpart,hkk] at h1;rw [hlen,Nat.zero_add] at h2;unfold parseR;rw [if_neg (by omega)];unfold readR;rw [h1];dsimp only;rw [h2,if_neg (by omega)];rfl
theorem escL_ge:∀l:List Int,l.length≤(escL l).length
 | []=>Nat.le_refl _
 | c::l=>by
  show _≤(escB c++escL l).length;have:=(escB_len c).1;have:=escL_ge l;rw [List.length_append,List.length_cons];omega
def QLen (q:BA→List Int):Prop:=∀s,Lib.validD s.data.toList=true→(q s).length≤6*s.size+2
theorem q_short {q:BA→List Int} (hl:QLen q) {s:BA} (hv:Lib.validD s.data.toList=true):(q s).length≤6*(quoL s).length:=by
 have h1:=hl s hv;have h2:=escL_ge (qAi s);rw [qAj] at h2;unfold quoL;rw [List.length_cons,List.length_append,List.length_singleton];omega
theorem scQ_short {q:BA→List Int} (hl:QLen q) {n:Eng.Node} (hn:n.text.size≤3000000) (hp:pB n=true) (hk:n.kind<6):(scQ q n).length≤6*(scalL n).length:=by
 unfold scQ scalL;split
 ·omega
 split
 ·omega
 split
 ·omega
 split
 ·omega
 ·rcases pB_inv hn hp with h | h | h | h
  ·omega
  ·exact q_short hl h.2.2.2.2
  ·omega
  ·omega
def ShortW (q:BA→List Int) (bl:Nat→List Int) (v:List Eng.Node) (d:Nat):Prop:=∀(obj:Bool) (p e:Nat),oneS v d obj p=some e→(qCb q bl v d p).length≤16*(qBu v d p).length
theorem rsk_short {q:BA→List Int} {bl:Nat→List Int} (hl:QLen q) (hbl:BlOK bl) {v:List Eng.Node} (hv:OkL v) {d:Nat} (hd:ShortW q bl v d) {obj:Bool} {a0:Nat}:∀(k i p e:Nat) (names:List BA),qCr v (oneS v d obj) obj k p names=some e →
  (qEr q bl v (oneS v d obj) (qCb q bl v d) obj a0 k i p).length≤16*(qDa v (oneS v d obj) (qBu v d) obj k p (decide (i=0))).length
 | 0,i,p,e,names,hk=>Nat.zero_le _
 | k+1,i,p,e,names,hk=>by
  unfold qCr at hk;cases ho:oneS v d obj p with
  | none=>rw [ho] at hk; cases hk
  | some e1 =>
   rw [ho] at hk;dsimp only at hk;split at hk
   ·cases hk
   ·have ih:=rsk_short hl hbl hv hd (a0:=a0) k (i+1) e1 e _ hk;rw [deF (show ¬(i+1=0) by omega)] at ih;have h1:=hd obj p e1 ho;unfold qEr qDa;rw [ho,Option.getD_some];simp only [List.length_append];have hcm:(commaW bl a0 i).length≤16*(qGs (decide (i=0))).length:=by
     unfold commaW qGs;have:=hbl.len (i+a0);by_cases hi:i=0
     ·rw [if_pos hi]; exact Nat.zero_le _
     ·rw [if_neg hi,deF hi,if_neg (by decide)];show (bl (i+a0)).length+1≤16*1;omega
    have hky:(keyW q bl v obj a0 i p).length≤16*(keyL v obj p).length:=by
     unfold keyW keyL;cases obj with
     | false=>exact Nat.zero_le _
     | true =>
      obtain ⟨n,hn1,hn2,hn3,hn4,hn5,hn6,_⟩:=qCx hv ho;have hkk:qBz v p=n.key:=by unfold qBz; rw [List.getD_eq_getElem?_getD,hn1]; rfl
      have hval:Lib.validD (qBz v p).data.toList=true:=by
       unfold okB at hn5;simp only [Bool.and_eq_true] at hn5;rw [hkk];exact hn5.1.2
      have:=q_short hl hval;have b1:=hbl.len a0;have b2:=hbl.len i;rw [if_pos rfl,if_pos rfl];simp only [List.length_append,List.length_cons,List.length_nil];omega
    omega
theorem short_w {q:BA→List Int} {bl:Nat→List Int} (hl:QLen q) (hbl:BlOK bl) {v:List Eng.Node} (hv:OkL v):∀d:Nat,ShortW q bl v d
 | 0=>fun obj p e ho=>by
  obtain ⟨n,hn1,hn2,hn3,hn4,hn5,hn6,_⟩:=qCx hv ho;have hne:=List.length_pos_iff.2 (prOne_some hv ho);unfold oneS at ho;rw [hn1] at ho;dsimp only at ho;split at ho
  ·rename_i hc;have h1:=scQ_short hl (hv.2 n hn2).text hn6 hc.2;have b1:=hbl.len (p+2);have b2:=hbl.len (p+3);unfold qBu at hne;unfold qCb qBu;rw [hn4] at hne ⊢;simp only [List.length_append];omega
  ·cases ho
 | d+1=>fun obj p e ho=>by
  obtain ⟨n,hn1,hn2,hn3,hn4,hn5,hn6,_⟩:=qCx hv ho;have hne:=List.length_pos_iff.2 (prOne_some hv ho);unfold oneS at ho;rw [hn1] at ho;dsimp only at ho;rw [if_pos hn5] at ho;have b1:=hbl.len (p+2);have b2:=hbl.len (p+3);have b3:=hbl.len (p+1);unfold qBu at hne;unfold qCb qBu;rw [hn4] at hne ⊢;by_cases hk6:n.kind<6
  ·have h1:=scQ_short hl (hv.2 n hn2).text hn6 hk6;rw [if_pos hk6] at hne ⊢;rw [if_pos hk6];simp only [List.length_append];omega
  ·rw [if_neg hk6,if_neg hk6];have:=rsk_short hl hbl hv (short_w hl hbl hv d) (a0:=p) n.kids.toNat 0 (p+1) e [] ho;rw [deT rfl] at this;simp only [List.length_append,List.length_cons,List.length_nil];omega
def blS (row:List Int) (i:Nat):List Int:=if howS row i=4 then [32] else if howS row i=5 then [10,9] else if howS row i=6 then [13,32] else []
theorem blS_ok (row:List Int):BlOK (blS row):=by
 constructor
 ·intro i;unfold blS;repeat' split
  all_goals decide
 ·intro i;unfold blS;repeat' split
  all_goals decide
theorem same3_loop (v:List Eng.Node) (hv:v.length≤3000000):∀(j i:Nat),i+j=v.length→zbr_p0 (i:Int) v v=some (.inr ())
 | 0,i,h=>by
  unfold zbr_p0;refine qAo ?_;unfold qFl;rw [deF (by omega),cnF]
 | j+1,i,h=>by
  have ih:=same3_loop v hv j (i+1) (by omega);unfold zbr_p0 at ih ⊢;rw [qAt (y:=((i+1:Nat):Int)) ?_,ih];unfold qFl;rw [deT (by omega),cnT,qAa (by omega),qAa (by omega),qAa (by omega),qAa (by omega)];simp only [decide_true,beq_self_eq_true,Bool.and_self,Bool.not_true,cnF];exact qAa (by unfold qAf; omega) _
theorem same3_self (v:List Eng.Node) (hv:v.length≤3000000):zbr_s v v=some true:=by
 have:=same3_loop v hv v.length 0 (by omega);rw [show ((0:Nat):Int)=0 from rfl] at this;unfold zbr_s;rw [deT rfl,Bool.not_true,cnF,this];rfl
def qG3:List Eng.Node:=[nd0 7 ⟨#[]⟩ false 0 1,⟨6,⟨#[97]⟩,⟨#[]⟩,false,0,2⟩,nd0 4 ⟨#[49]⟩ true 1 0,nd0 5 ⟨#[195,169]⟩ false 0 0]
def aliveT:BA:=⟨#[32,123,34,97,34,58,91,49,44,34,92,117,48,48,101,57,34,93,125,32]⟩
theorem alive_read:readR aliveT=.ok 20 qG3:=by kernel_rfl
theorem alive_parse:parseR aliveT=(qG3,0,0):=by
 unfold parseR;rw [if_neg (by decide),alive_read];rfl
theorem alive_ok:OkL qG3:=⟨by decide,fun n hn=>by
 simp only [qG3,List.mem_cons,List.not_mem_nil,or_false] at hn;rcases hn with rfl | rfl | rfl | rfl <;> exact ⟨by decide,by decide,by unfold qAf; decide⟩⟩
theorem alive_shape:oneS qG3 32 false 0=some 4:=by
 rw [oneS_C alive_ok];kernel_rfl
theorem alive_text:qBu qG3 32 0=[123,34,97,34,58,91,49,44,34,195,169,34,93,125]:=by
 rw [prOne_C alive_ok];kernel_rfl
theorem alive_print:zal_s qG3=some ((⟨#[123,34,97,34,58,91,49,44,34,195,169,34,93,125]⟩:BA),0):=by
 rw [p_Print alive_ok,alive_shape,if_pos (show some 4=some qG3.length from rfl),alive_text,if_neg (by decide)];rfl
theorem alive_tree:Tree qG3 0 4:=readR_tree alive_read
theorem alive_member:zaj_s qG3 0 (⟨#[97]⟩:BA)=some 1:=by
 obtain ⟨nd,h1,h2,h3⟩:=alive_tree.node;obtain rfl:nd=nd0 7 ⟨#[]⟩ false 0 1:=by cases h1; rfl
 obtain ⟨l,hl⟩:=h3.places;have:=(member_find (by decide) h1 h2 h3 hl (⟨#[97]⟩:BA)).1;rw [show ((0:Nat):Int)=0 from rfl] at this;rw [this,if_pos (show (nd0 7 ⟨#[]⟩ false 0 1).kind=7 from rfl)];obtain ⟨b,r,rfl,g1,g2⟩:=hl;show some (memI (if (qG3.getD 1 (ET.dft .node)).key=⟨#[97]⟩ then some 1 else _))=_;rw [if_pos (show (qG3.getD 1 (ET.dft .node)).key=⟨#[97]⟩ from rfl)];rfl
theorem alive_is:zbm_s=some true:=by
 unfold zbm_s;rw [show (⟨#[32,123,34,97,34,58,91,49,44,34,92,117,48,48,101,57,34,93,125,32]⟩:BA)=aliveT from rfl,p_Parse,obS,alive_parse];dsimp only;rw [alive_print,obS];dsimp only;have hl:qG3.length=4:=rfl;refine (qAa (fun _=>by rw [hl]; decide) _).trans ((qAa (fun _=>by rw [hl]; decide) _).trans ((qAa (fun _=>by rw [hl]; decide) _).trans ((qAa (fun _=>by rw [hl]; decide) _).trans ((qAa (fun _=>by rw [hl]; decide) _).trans ((qAa (fun _=>by rw [hl]; decide) _).trans ((qAa (fun _=>by rw [hl]; decide) _).trans ((qAa (fun _=>by rw [hl]; decide) _).trans ((qAa (fun _=>by rw [hl]; decide) _).trans ?_))))))));rw [alive_member,obS,deT rfl];kernel_rfl
end Go.Proofs.YtdcoiccdbgcpaaaDoor
