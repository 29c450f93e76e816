/-
  The shortest text of a value is read as that value. No program.
-/
import Derived.Test.YtdcoiccdbgcpaaaDoorPUtf
import Derived.Test.YtdcoiccdbgcpaaaDoorJW
import Derived.Test.YtdcoiccdbgcpaaaDoorPShapeOf
import Derived.Test.YtdcoiccdbgcpaaaDoorPShape
import Derived.Test.YtdcoiccdbgcpaaaDoorPFind
namespace Go.Proofs.YtdcoiccdbgcpaaaDoor
open Go.Eng
set_option linter.unusedVariables false
set_option linter.unusedSimpArgs false
def hexD (n:Int):Int:=if n<10 then 48+n else 87+n
def escB (c:Int):List Int :=
 if c=34∨c=92 then [92,c] else if c=8 then [92,98] else if c=12 then [92,102] else if c=10 then [92,110] else if c=13 then [92,114] else if c=9 then [92,116]
 else if c<32 then [92,117,48,48,hexD (c / 16),hexD (c % 16)] else [c]
def escL (l:List Int):List Int:=l.flatMap escB
def quoL (s:BA):List Int:=34::(escL (qAk s)++[34])
theorem escB_len (c:Int):1≤(escB c).length∧(escB c).length≤6:=by
 unfold escB;repeat' split
 all_goals simp
theorem escL_len:∀l:List Int,(escL l).length≤6*l.length
 | []=>Nat.le_refl _
 | c::l=>by
  have h1:=escB_len c;have h2:=escL_len l;show (escB c++escL l).length≤_;simp only [List.length_append,List.length_cons];omega
theorem qAw (s:BA):(qAk s).length=s.size:=by
 simp [qAk]
theorem qD9 {s:BA} {i:Nat} (h:i<s.size):(qAk s)[i]?=some (bAt s i):=by
 rw [bAt_in h];unfold qAk;have h':i<s.data.toList.length:=by rw [Array.length_toList]; exact h
 rw [List.getElem?_map,List.getElem?_eq_getElem h'];rfl
theorem bytesL_drop {s:BA} {i:Nat} (h:i<s.size):(qAk s).drop i=bAt s i::(qAk s).drop (i+1):=by
 have hl:i<(qAk s).length:=by rw [qAw]; exact h
 have:=qD9 h;rw [List.getElem?_eq_getElem hl,snJ] at this;rw [List.drop_eq_getElem_cons hl,this]
theorem bytesL_app (a b:BA):qAk (a++b)=qAk a++qAk b:=by
 unfold qAk;rw [ByteArray.data_append,Array.toList_append,List.map_append]
theorem bytesL_ext (s:BA) (a b:Nat):qAk (s.extract a b)=((qAk s).take b).drop a:=by
 unfold qAk;rw [ByteArray.data_extract,Array.toList_extract,List.extract_eq_drop_take',List.map_drop,List.map_take]
theorem bytesL_range (s:BA):∀x∈qAk s,0≤x∧x<256:=by
 intro x hx;simp only [qAk,List.mem_map] at hx;obtain ⟨b,_,rfl⟩:=hx;have:=b.toNat_lt;omega
theorem bytesI_of (s:BA):qAr (qAk s)=s:=by
 rw [bytesI_eq];unfold qAk;rw [List.map_map];have:((fun n:Int=>UInt8.ofNat n.toNat) ∘ fun b:UInt8=>(b.toNat:Int))=id:=by
  funext b
  show UInt8.ofNat ((b.toNat:Int)).toNat=b;rw [Int.toNat_natCast];exact UInt8.ofNat_toNat
 rw [this,List.map_id]
theorem bytesL_of {l:List Int} (h:∀x∈l,0≤x∧x<256):qAk (qAr l)=l:=by
 rw [bytesI_eq];unfold qAk;show List.map _ (List.map (fun n:Int=>UInt8.ofNat n.toNat) l).toArray.toList=l;rw [List.map_map];conv=>rhs; rw [←List.map_id l]
 refine List.map_congr_left fun x hx=>?_
 have hx:=h x hx;show ((UInt8.ofNat x.toNat).toNat:Int)=x;have:(UInt8.ofNat x.toNat).toNat=x.toNat:=by
  rw [UInt8.toNat_ofNat'];exact Nat.mod_eq_of_lt (by omega)
 rw [this];omega
theorem escB_range {c:Int} (h:0≤c∧c<256):∀x∈escB c,0≤x∧x<256:=by
 unfold escB hexD;repeat' split
 all_goals intro x hx; simp at hx; omega
theorem escL_range {l:List Int} (h:∀x∈l,0≤x∧x<256):∀x∈escL l,0≤x∧x<256:=by
 intro x hx;unfold escL at hx;rw [List.mem_flatMap] at hx;obtain ⟨c,hc,hx⟩:=hx;exact escB_range (h c hc) x hx
theorem quoL_range (s:BA):∀x∈quoL s,0≤x∧x<256:=by
 intro x hx;simp only [quoL,List.mem_cons,List.mem_append,List.not_mem_nil,or_false] at hx;rcases hx with rfl | hx | rfl
 ·omega
 ·exact escL_range (bytesL_range s) x hx
 ·omega
theorem quoL_len (s:BA):(quoL s).length≤6*s.size+2:=by
 have:=escL_len (qAk s);rw [qAw] at this;simp only [quoL,List.length_cons,List.length_append,List.length_nil];omega
def hexT:BA:=⟨#[48,49,50,51,52,53,54,55,56,57,97,98,99,100,101,102]⟩
theorem p_cc (b:qHd):zbt_s b=some ⟨true,b.buf⟩:=by
 obtain ⟨a,l⟩:=b;unfold zbt_s;cases a <;> rfl
theorem p_ws (a:Bool) (buf:List Int) (s:BA) (h:buf.length+s.size≤140737488355328):zbs_s ⟨a,buf⟩ s=some (⟨true,buf++qAk s⟩,(s.size:Int),()):=by
 unfold zbs_s;rw [p_cc,obS];exact qAa h _
theorem p_wb (a:Bool) (buf:List Int) (c:Int) (h:buf.length≤140737488355000):zbr_s ⟨a,buf⟩ c=some (⟨true,buf++[c]⟩,()):=by
 unfold zbr_s;rw [p_cc,obS];exact qAa (by simp; omega) _
def escT:BA:=⟨#[8,12,10,13,9,34,92]⟩
def escU:BA:=⟨#[98,102,110,114,116,34,92]⟩
def escS (r:Int):BA:=(⟨#[92]⟩:BA)++(escU.extract (Int.toNat r) (Int.toNat (r+1)))
def escV (c:Int):BA:=((⟨#[92,117,48,48]⟩:BA)++(hexT.extract (Int.toNat (c / 16)) (Int.toNat (((c / 16)+1) % 256))))++(hexT.extract (Int.toNat (qBd .u8 c 15)) (Int.toNat (((qBd .u8 c 15)+1) % 256)))
noncomputable def escChk (c:Int):Bool :=
 match zbv_s escT c with
 | some r=>if 0≤r then decide (r+1≤7) && decide (qAk (escS r)=escB c) else
   decide (0≤qBd .u8 c 15∧qBd .u8 c 15≤((qBd .u8 c 15)+1) % 256∧((qBd .u8 c 15)+1) % 256≤16) && decide (0≤c / 16∧c / 16≤((c / 16)+1) % 256∧((c / 16)+1) % 256≤16) && decide (qAk (escV c)=escB c)
 | none=>false
set_option maxRecDepth 100000 in
theorem escChk_all:∀c:Fin 256,c.val<32∨c.val=34∨c.val=92→escChk (c.val:Int)=true:=by decide +kernel
theorem esc_run {c:Int} (h0:0≤c∧c<256) (hc:c<32∨c=34∨c=92):∃r,zbv_s escT c=some r ∧
  ((0≤r∧r+1≤7∧qAk (escS r)=escB c)∨(r<0∧(0≤qBd .u8 c 15∧qBd .u8 c 15≤((qBd .u8 c 15)+1) % 256∧((qBd .u8 c 15)+1) % 256≤16)∧(0≤c / 16∧c / 16≤((c / 16)+1) % 256∧((c / 16)+1) % 256≤16)∧qAk (escV c)=escB c)):=by
 have h:=escChk_all ⟨c.toNat,by omega⟩ (by simp only; omega);simp only at h;rw [Int.toNat_of_nonneg h0.1] at h;unfold escChk at h;cases hr:zbv_s escT c with
 | none=>rw [hr] at h; cases h
 | some r =>
  rw [hr] at h;dsimp only at h;refine ⟨r,rfl,?_⟩;by_cases h1:0≤r
  ·rw [if_pos h1,Bool.and_eq_true,decide_eq_true_eq,decide_eq_true_eq] at h;exact .inl ⟨h1,h⟩
  ·rw [if_neg h1,Bool.and_eq_true,Bool.and_eq_true,decide_eq_true_eq,decide_eq_true_eq,decide_eq_true_eq] at h;exact .inr ⟨by omega,h.1.1,h.1.2,h.2⟩
theorem qA7 (a b:BA):(a++b).size=a.size+b.size:=by
 rw [ByteArray.size_append]
theorem escS_size {c r:Int} (h:qAk (escS r)=escB c):(escS r).size≤6:=by
 rw [←qAw,h];exact (escB_len c).2
theorem escV_size {c:Int} (h:qAk (escV c)=escB c):(escV c).size≤6:=by
 rw [←qAw,h];exact (escB_len c).2
theorem quo_step {s:BA} (hs:s.size≤3000000) {x f:Nat} (hx:x<s.size) (hf:f≤x) (buf:List Int) (hb:buf.length+6*(s.size - f)≤140737488355000) :
  qD6 s (f:Int) (s.size:Int) (x:Int) true buf=if bAt s x<32∨bAt s x=34∨bAt s x=92 then some (.inl (((x+1:Nat):Int),((x+1:Nat):Int),true,buf++qAk (s.extract f x)++escB (bAt s x))) else some (.inl ((f:Int),((x+1:Nat):Int),true,buf)):=by
 have hr:=qF0 s x;have hn:=bAt_nn (s:=s) (i:=(x:Int)) (by omega) (by omega);unfold qD6;rw [deT (by omega),cnT,qAa (by omega)];generalize bAt s (x:Int)=c at *
 have e1:(((decide ((32:Int)≤c)) && (!decide (c=(34:Int)))) && (!decide (c=(92:Int))))=!decide (c<32∨c=34∨c=92):=by
  rw [Bool.eq_iff_iff];simp only [Bool.and_eq_true,Bool.not_eq_true',decide_eq_true_eq,decide_eq_false_iff_not];omega
 rw [e1];by_cases h:c<32∨c=34∨c=92
 ·rw [deT h,Bool.not_true,cnF,if_pos h,qAa (by omega)];have hz:(s.extract f x).size=x - f:=by rw [ByteArray.size_extract]; omega
  rw [show Int.toNat (f:Int)=f from rfl,show Int.toNat (x:Int)=x from rfl,p_ws true buf _ (by omega),obS,qAa (by unfold qAh; omega)];obtain ⟨r,h1,h2⟩:=esc_run (c:=c) (by omega) h;rw [show (⟨#[8,12,10,13,9,34,92]⟩:BA)=escT from rfl,h1,obS];have hbl:(buf++qAk (s.extract f x)).length≤140737488354994:=by
   rw [List.length_append,qAw]; omega
  rcases h2 with ⟨h3,h4,h5⟩ | ⟨h3,h4,h5,h6⟩
  ·have hsz:=escS_size h5;rw [deT h3,cnT,qAa (by unfold qAh; omega),qAa ⟨h3,by omega,h4⟩];have hss:((⟨#[92]⟩:BA)++((⟨#[98,102,110,114,116,34,92]⟩:BA).extract (Int.toNat r) (Int.toNat (r+(1:Int)))))=escS r:=rfl;rw [hss,qAa (by rw [←qA7,hss]; omega),p_ws _ _ _ (by omega),obS,h5];exact qAa (by unfold qAh; omega) _
  ·have hsz:=escV_size h6;rw [deF (by omega),cnF,qAa (by omega),qAa (by omega)];refine (qAa h5 _).trans ?_;have hvv:(((⟨#[92,117,48,48]⟩:BA)++((⟨#[48,49,50,51,52,53,54,55,56,57,97,98,99,100,101,102]⟩:BA).extract (Int.toNat (c / 16)) (Int.toNat (((c / 16)+(1:Int)) % 256))))++((⟨#[48,49,50,51,52,53,54,55,56,57,97,98,99,100,101,102]⟩:BA).extract (Int.toNat (qBd .u8 c (15:Int))) (Int.toNat (((qBd .u8 c (15:Int))+(1:Int)) % 256))))=escV c:=rfl;rw [qAa (by rw [←hvv,qA7,qA7] at hsz; omega)];refine (qAa h4 _).trans ?_;rw [qAa (by rw [←qA7,hvv]; omega),hvv,p_ws _ _ _ (by omega),obS,h6];exact qAa (by unfold qAh; omega) _
 ·rw [deF h,Bool.not_false,cnT,if_neg h];exact qAa (by unfold qAh; omega) _
theorem take_snoc {s:BA} {x f:Nat} (hx:x<s.size) (hf:f≤x):((qAk s).take (x+1)).drop f=((qAk s).take x).drop f++[bAt s x]:=by
 rw [List.take_add_one,qD9 hx];show (_++[bAt s x]).drop f=_;rw [List.drop_append_of_le_length (by rw [List.length_take,qAw]; omega)]
theorem quo_loop {s:BA} (hs:s.size≤3000000):∀(j x f:Nat) (buf:List Int),x+j=s.size→f≤x→buf.length+6*(s.size - f)≤140737488355000 →
  ∃(f':Nat) (buf':List Int),f'≤s.size∧zao_p0 s (f:Int) (s.size:Int) (x:Int) true buf=some ((f':Int),true,buf') ∧
   buf'++qAk (s.extract f' s.size)=buf++(((qAk s).take x).drop f++escL ((qAk s).drop x))∧buf'.length+6*(s.size - f')≤buf.length+6*(s.size - f)
 | 0,x,f,buf,h,hf,hb=>by
  refine ⟨f,buf,by omega,?_,?_,Nat.le_refl _⟩
  ·unfold zao_p0;refine qAq ?_;unfold qD6;rw [deF (by simp only; omega),cnF]
  ·have hx:x=s.size:=by omega
   have hnil:(qAk s).drop x=[]:=List.drop_eq_nil_of_le (by rw [qAw]; omega);rw [bytesL_ext,hnil,hx];show _=buf++(_++[]);rw [List.append_nil]
 | j+1,x,f,buf,h,hf,hb=>by
  have hst:=quo_step hs (x:=x) (f:=f) (by omega) hf buf hb;have hd:=bytesL_drop (s:=s) (i:=x) (by omega);by_cases hc:bAt s x<32∨bAt s x=34∨bAt s x=92
  ·rw [if_pos hc] at hst;have hz:(s.extract f x).size=x - f:=by rw [ByteArray.size_extract]; omega
   have he:=escB_len (bAt s x);have hl:(buf++qAk (s.extract f x)++escB (bAt s x)).length=buf.length+(x - f)+(escB (bAt s x)).length:=by
    rw [List.length_append,List.length_append,qAw,hz]
   obtain ⟨f',buf',g1,g2,g3,g4⟩:=quo_loop hs j (x+1) (x+1) (buf++qAk (s.extract f x)++escB (bAt s x)) (by omega) (Nat.le_refl _) (by rw [hl]; omega);refine ⟨f',buf',g1,?_,?_,by rw [hl] at g4; omega⟩
   ·rw [←g2];unfold zao_p0;exact qAt hst
   ·rw [g3,hd,bytesL_ext];have:((qAk s).take (x+1)).drop (x+1)=[]:=List.drop_eq_nil_of_le (by rw [List.length_take]; omega);rw [this];show _=buf++(_++(escB (bAt s x)++escL ((qAk s).drop (x+1))));simp only [List.append_assoc,List.nil_append]
  ·rw [if_neg hc] at hst;obtain ⟨f',buf',g1,g2,g3,g4⟩:=quo_loop hs j (x+1) f buf (by omega) (by omega) hb;refine ⟨f',buf',g1,?_,?_,g4⟩
   ·rw [←g2];unfold zao_p0;exact qAt hst
   ·rw [g3,hd,take_snoc (by omega) hf];have:escB (bAt s x)=[bAt s x]:=by
     unfold escB;rw [if_neg (by omega),if_neg (by omega),if_neg (by omega),if_neg (by omega),if_neg (by omega),if_neg (by omega),if_neg (by omega)]
    show _=buf++(_++(escB (bAt s x)++escL ((qAk s).drop (x+1))));rw [this];simp only [List.append_assoc]
theorem p_quote (a:Bool) (buf:List Int) (s:BA) (hs:s.size≤3000000) (hb:buf.length≤140737450000000):zao_s ⟨a,buf⟩ s=some ⟨true,buf++quoL s⟩:=by
 obtain ⟨f',buf',g1,g2,g3,g4⟩:=quo_loop hs s.size 0 0 (buf++[34]) (by omega) (by omega) (by simp; omega);rw [show ((0:Nat):Int)=0 from rfl] at g2;unfold zao_s;rw [p_wb _ _ _ (by omega),obS,g2,obS];have hz:(s.extract f' s.size).size=s.size - f':=by rw [ByteArray.size_extract]; omega
 simp only [List.length_append,List.length_singleton] at g4;have h1:((s.extract f' s.size)++(⟨#[34]⟩:BA)).size=s.size - f'+1:=by rw [qA7,hz]; rfl
 rw [qAa (by omega)];simp only [Int.toNat_natCast];rw [qAa (by rw [←qA7,h1]; omega),p_ws _ _ _ (by rw [h1]; omega),obS,bytesL_app,←List.append_assoc,g3];simp only [List.take_zero,List.drop_nil,List.nil_append,List.drop_zero];congr 2
 show buf++[34]++escL (qAk s)++qAk ⟨#[34]⟩=buf++quoL s;rw [show qAk (⟨#[34]⟩:BA)=[34] from rfl];simp [quoL]
end Go.Proofs.YtdcoiccdbgcpaaaDoor
namespace Go.Proofs.YtdcoiccdbgcpaaaDoor
open Go.Eng
set_option linter.unusedVariables false
set_option linter.unusedSimpArgs false
def Has (t:BA):Nat→List Int→Prop
 | a,[]=>a≤t.size
 | a,c::L=>bAt t (a:Int)=c∧Has t (a+1) L
theorem Has.le {t:BA}:∀ {L:List Int} {a:Nat},Has t a L→a+L.length≤t.size
 | [],a,h=>h
 | c::L,a,h=>by
  have:=Has.le h.2;rw [List.length_cons];omega
theorem Has.append {t:BA}:∀ {L M:List Int} {a:Nat},Has t a (L++M)↔Has t a L∧Has t (a+L.length) M
 | [],M,a=>by
  show Has t a M↔a≤t.size∧Has t (a+0) M;exact ⟨fun h=>⟨by have:=h.le; omega,h⟩,fun h=>h.2⟩
 | c::L,M,a=>by
  show (_∧Has t (a+1) (L++M))↔(_∧Has t (a+1) L)∧Has t (a+(L.length+1)) M;rw [Has.append (L:=L),show a+(L.length+1)=a+1+L.length by omega,and_assoc]
theorem has_self {t:BA}:∀(j a:Nat),a+j=t.size→Has t a ((qAk t).drop a)
 | 0,a,h=>by
  rw [List.drop_eq_nil_of_le (by rw [qAw]; omega)];show a≤t.size;omega
 | j+1,a,h=>by
  rw [bytesL_drop (by omega)];exact ⟨rfl,has_self j (a+1) (by omega)⟩
theorem has_all (t:BA):Has t 0 (qAk t):=by
 have:=has_self (t:=t) t.size 0 (by omega);rwa [List.drop_zero] at this
inductive Spells (t s:BA):Nat→Nat→Nat→Nat→Prop
 | nil (a p:Nat):Spells t s a a p p
 | raw {a b p q:Nat}:p<s.size→bAt t (a:Int)=bAt s (p:Int)→32≤bAt s (p:Int)→bAt s (p:Int)<128→bAt s (p:Int)≠34→bAt s (p:Int)≠92→Spells t s (a+1) b (p+1) q→Spells t s a b p q
 | seq {a b p q:Nat}:p<s.size→128≤by8 s p→seqK s p=0→(∀k,k<seqW s p→by8 t (a+k)=by8 s (p+k))→a+seqW s p≤t.size→Spells t s (a+seqW s p) b (p+seqW s p) q→Spells t s a b p q
 | esc {a a' b p q:Nat} {u:Int}:bAt t (a:Int)=92→escR t a=.ok a' u→((qAk s).drop p).take (utfL u).length=utfL u→Spells t s a' b (p+(utfL u).length) q→Spells t s a b p q
theorem escR_two {t:BA} {a:Nat} {c:Int} (h1:bAt t ((a+1:Nat):Int)=c) (h0:0≤c) (hu:c≠117) (hs:0≤qGh c):escR t a=.ok (a+2) (qGh c):=by
 unfold escR;rw [h1,if_neg (by omega),if_neg hu,if_neg (by omega)]
theorem fourR_says {t:BA} {f a:Nat} {d0 d1 d2 d3:Int} (h0:hexS (bAt t (a:Int))=d0) (h1:hexS (bAt t ((a+1:Nat):Int))=d1) (h2:hexS (bAt t ((a+1+1:Nat):Int))=d2) (h3:hexS (bAt t ((a+1+1+1:Nat):Int))=d3)
  (p0:0≤d0) (p1:0≤d1) (p2:0≤d2) (p3:0≤d3) (half:Bool) (hh:half=true→d0=13∧12≤d1) (hn:half=false→¬(d0=13∧12≤d1)):qBt t half f 4 0 a 0=.ok (a+4) (4096*d0+256*d1+16*d2+d3):=by
 have nn:∀ {i:Nat} {d:Int},hexS (bAt t (i:Int))=d→0≤d→¬bAt t (i:Int)<0:=fun {i d} h hd hlt=>by
  unfold hexS at h;rw [if_neg (by omega),if_neg (by omega),if_neg (by omega)] at h;omega
 have hb:∀(i:Nat) (u d:Int),0≤d→(i=0→half=true→d=13)→(i=1→half=true→12≤d)→(i=1→half=false→¬(u=13∧12≤d))→¬qEs half i u d:=by
  intro i u d hd q1 q2 q3 hbad;unfold qEs at hbad;rcases hbad with h | ⟨hh',h⟩ | ⟨hh',h1,h2,h3⟩
  ·omega
  ·rcases h with ⟨h1,h2⟩ | ⟨h1,h2⟩
   ·exact h2 (q1 h1 hh')
   ·have:=q2 h1 hh'; omega
  ·exact q3 h1 hh' ⟨h2,h3⟩
 unfold qBt;rw [if_neg (nn h0 p0),h0,if_neg (hb 0 0 d0 p0 (fun _ h=>(hh h).1) (fun h=>by omega) (fun h=>by omega))];unfold qBt;rw [if_neg (nn h1 p1),h1,if_neg (hb 1 _ d1 p1 (fun h=>by omega) (fun _ h=>(hh h).2) (fun _ h hc=>hn h ⟨by omega,hc.2⟩))];unfold qBt;rw [if_neg (nn h2 p2),h2,if_neg (hb 2 _ d2 p2 (fun h=>by omega) (fun h=>by omega) (fun h=>by omega))];unfold qBt;rw [if_neg (nn h3 p3),h3,if_neg (hb 3 _ d3 p3 (fun h=>by omega) (fun h=>by omega) (fun h=>by omega))];unfold qBt;congr 1
 omega
theorem escR_unit {t:BA} {a:Nat} {u:Int} (hu:bAt t ((a+1:Nat):Int)=117) (hf:qBt t false a 4 0 (a+2) 0=.ok (a+6) u) (hs:u<55296∨57343<u):escR t a=.ok (a+6) u:=by
 unfold escR;rw [hu,if_neg (by decide),if_pos rfl,hf];dsimp only;rw [if_pos hs]
theorem utfL_one {c:Int} (h:c<128):utfL c=[c]:=by unfold utfL; rw [if_pos h]
theorem contN_high {n:Nat} {b:Nat→Nat}:∀ {m i lo hi:Nat},128≤lo→qEk n b m i lo hi=0→∀k,i≤k→k<i+m→128≤b k
 | 0,_,_,_,_,_,k,h1,h2=>by omega
 | m+1,i,lo,hi,hlo,h,k,h1,h2=>by
  unfold qEk at h;split at h
  ·cases h
  ·split at h
   ·cases h
   ·by_cases hk:k=i
    ·subst hk; omega
    ·exact contN_high (by decide) h k (by omega) (by omega)
theorem accLo_ge {x:Nat} (h:x=0∨x=1∨x=2∨x=3∨x=4):128≤Lib.accLo x:=by
 rcases h with h | h | h | h | h <;> rw [h] <;> decide
theorem seq_high {s:BA} {p:Nat} (hp:p<s.size) (h8:128≤by8 s p) (hk:seqK s p=0):∀k,k<seqW s p→128≤by8 s (p+k):=by
 intro k hkw;by_cases h0:k=0
 ·subst h0; exact h8
 ·unfold seqK at hk;unfold seqW at hkw;split at hk
  ·cases hk
  ·rename_i h1;have hf:=qG2 ⟨by8 s p,by8_lt s p⟩ h8;simp only at hf;refine contN_high ?_ hk k (by omega) (by omega);refine accLo_ge ?_;rcases Lib.firstT_cases (by8 s p) with g | g | g | g | g | g | g | g | g <;> rw [g] at h1 hf ⊢ <;> first | omega | (exact (h1 rfl).elim) | (exact (hf rfl).elim)
theorem oneS_ok {v:List Eng.Node} (hv:OkL v) {d:Nat} {obj:Bool} {a e:Nat} (h:oneS v d obj a=some e):∃n,v[a]?=some n∧n∈v∧a<v.length∧v.getD a (ET.dft .node)=n∧okB obj n=true∧pB n=true∧0≤n.kids∧(0<n.kids→6≤n.kind)∧n.kind≤7 ∧
  ((d=0∧n.kind<6∧e=a+1)∨∃d',d=d'+1∧kidsS v (oneS v d' (decide (n.kind=7))) (decide (n.kind=7)) n.kids.toNat (a+1) []=some e):=by
 by_cases ha:a<v.length
 ·obtain ⟨n,hn,hmem,hget⟩:=nd_some ha;have hp:=(pB_j (hv.2 n hmem)).2;have key:okB obj n=true→pB n=true:=fun h=>by unfold okB at h; simp only [Bool.and_eq_true] at h; exact h.1.1
  cases d with
  | zero =>
   unfold oneS at h;rw [hn] at h;dsimp only at h;split at h
   ·rename_i hc;cases h;have hp:=hp (key hc.1);exact ⟨n,hn,hmem,ha,hget,hc.1,key hc.1,hp.1,hp.2.1,hp.2.2,.inl ⟨rfl,hc.2,rfl⟩⟩
   ·cases h
  | succ d =>
   unfold oneS at h;rw [hn] at h;dsimp only at h;split at h
   ·rename_i hc;have hp:=hp (key hc);exact ⟨n,hn,hmem,ha,hget,hc,key hc,hp.1,hp.2.1,hp.2.2,.inr ⟨d,rfl,h⟩⟩
   ·cases h
 ·have:=qE2 v d obj a e h;omega
def scalL (n:Eng.Node):List Int :=
 if n.kind=1 then [110,117,108,108] else if n.kind=2 then [102,97,108,115,101] else if n.kind=3 then [116,114,117,101] else if n.kind=4 then qAk n.text else quoL n.text
def keyL (v:List Eng.Node) (obj:Bool) (a:Nat):List Int:=if obj=true then quoL (keyAt v a)++[58] else []
def commaL (first:Bool):List Int:=if first=true then [] else [44]
noncomputable def prKids (v:List Eng.Node) (one:Nat→Option Nat) (pr:Nat→List Int) (obj:Bool):Nat→Nat→Bool→List Int
 | 0,_,_=>[]
 | k+1,a,first=>commaL first++(keyL v obj a++(pr a++prKids v one pr obj k ((one a).getD 0) false))
noncomputable def qE0 (v:List Eng.Node):Nat→Nat→List Int
 | 0,a=>scalL (v.getD a (ET.dft .node))
 | d+1,a =>
  if (v.getD a (ET.dft .node)).kind<6 then scalL (v.getD a (ET.dft .node))
  else (if (v.getD a (ET.dft .node)).kind=7 then 123 else 91)::(prKids v (oneS v d (decide ((v.getD a (ET.dft .node)).kind=7))) (qE0 v d) (decide ((v.getD a (ET.dft .node)).kind=7)) (v.getD a (ET.dft .node)).kids.toNat (a+1) true++[if (v.getD a (ET.dft .node)).kind=7 then 125 else 93])
theorem scalL_len {n:Eng.Node} (h:OkN n):(scalL n).length≤18000002:=by
 have h1:=quoL_len n.text;have h2:=qAw n.text;have h3:=h.text;unfold scalL;split
 ·simp
 split
 ·simp
 split
 ·simp
 split <;> omega
theorem scalL_range (n:Eng.Node):∀x∈scalL n,0≤x∧x<256:=by
 unfold scalL;split
 ·intro x hx; simp at hx; omega
 split
 ·intro x hx; simp at hx; omega
 split
 ·intro x hx; simp at hx; omega
 split
 ·exact bytesL_range _
 ·exact quoL_range _
theorem keyL_len {v:List Eng.Node} (hv:OkL v) (obj:Bool) {a:Nat} (ha:a<v.length):(keyL v obj a).length≤18000003:=by
 obtain ⟨n,hn,hmem,hget⟩:=nd_some ha;have h1:=quoL_len n.key;have h2:=(hv.2 n hmem).key;unfold keyL keyAt;rw [hget];split
 ·simp only [List.length_append,List.length_singleton]; omega
 ·simp
theorem kids_len {v:List Eng.Node} (hv:OkL v) {one:Nat→Option Nat} {pr:Nat→List Int} {obj:Bool} (hone:∀a e,one a=some e→a<e∧e≤v.length) (hpr:∀a e,one a=some e→(pr a).length+18000004≤40000000*(e - a)) :
  ∀(k a:Nat) (first:Bool) (names:List BA) (e:Nat),a≤v.length→kidsS v one obj k a names=some e→(prKids v one pr obj k a first).length≤40000000*(e - a)
 | 0,a,first,names,e,ha,h=>by simp [prKids]
 | k+1,a,first,names,e,ha,h=>by
  unfold kidsS at h;cases ho:one a with
  | none=>rw [ho] at h; cases h
  | some b =>
   rw [ho] at h;dsimp only at h;split at h
   ·cases h
   ·have hb:=hone a b ho;have hp:=hpr a b ho;have ih:=kids_len hv hone hpr k b false _ e hb.2 h;have hle:=kidsS_le hone k b _ e hb.2 h;have hkl:=keyL_len hv obj (a:=a) (by omega);have hcm:(commaL first).length≤1:=by unfold commaL; split <;> simp
    unfold prKids;rw [ho];simp only [List.length_append,Option.getD_some];omega
theorem prOne_len {v:List Eng.Node} (hv:OkL v):∀(d:Nat) (obj:Bool) (a e:Nat),oneS v d obj a=some e→(qE0 v d a).length+18000004≤40000000*(e - a):=by
 intro d;induction d with
 | zero =>
  intro obj a e h;have hle:=qE2 v 0 obj a e h;obtain ⟨n,h1,h2,h3,h4,h5,h6,h7,h8,h9,h10⟩:=oneS_ok hv h;have:=scalL_len (hv.2 n h2);unfold qE0;rw [h4];omega
 | succ d ih =>
  intro obj a e h;have hle:=qE2 v (d+1) obj a e h;obtain ⟨n,h1,h2,h3,h4,h5,h6,h7,h8,h9,h10⟩:=oneS_ok hv h;have hs:=scalL_len (hv.2 n h2);unfold qE0;rw [h4];split
  ·omega
  ·rcases h10 with ⟨h,_⟩ | ⟨d',h,h11⟩
   ·cases h
   ·have:d'=d:=by omega
    subst this;have:=kids_len hv (qE2 v d' (decide (n.kind=7))) (fun a e=>ih _ a e) _ _ true _ _ (by omega) h11;have hle2:=kidsS_le (qE2 v d' (decide (n.kind=7))) _ _ _ _ (by omega) h11;simp only [List.length_cons,List.length_append,List.length_nil];omega
theorem sp_p2 {v:List Eng.Node} (hv:OkL v) {self:qHd→List Eng.Node→Int→Option (qHd × Int)} {pr:Nat→List Int} {a e1:Nat} (ha:a<v.length) (kd:Int)
  (hs:∀(ad:Bool) (buf:List Int),buf.length+18000000≤120000000000000+18000004→buf.length+40000000*(e1 - a)≤120000000000000+18000004→self ⟨ad,buf⟩ v (a:Int)=some (⟨true,buf++pr a⟩,(e1:Int)))
  (ad:Bool) (buf:List Int) (hb:buf.length+40000000*(e1 - a)≤120000000000000) (he:a<e1) :
  zbj_p2 self (a:Int) ad v kd buf=some ((e1:Int),true,buf++(keyL v (decide (kd=7)) a++pr a)):=by
 have hlen:=hv.1;obtain ⟨n,hn,hmem,hget⟩:=nd_some ha;have hk:=(hv.2 n hmem).key;have hq:=quoL_len n.key;unfold zbj_p2 keyL keyAt;rw [hget];by_cases h7:kd=7
 ·rw [deT h7,cnT,if_pos rfl,qAa (by omega),qAa (by omega),qAa (by omega),Int.toNat_natCast,hget];rw [p_quote _ _ _ hk (by omega),obS,p_wb _ _ _ (by simp only [List.length_append]; omega),obS];rw [hs true (buf++quoL n.key++[58]) (by simp only [List.length_append,List.length_singleton]; omega) (by simp only [List.length_append,List.length_singleton]; omega),obS];simp only [List.append_assoc]
 ·rw [deF h7,cnF,if_neg (by decide),hs ad buf (by omega) (by omega),obS,List.nil_append]
theorem sp_p1 {v:List Eng.Node} (hv:OkL v) {self:qHd→List Eng.Node→Int→Option (qHd × Int)} {one:Nat→Option Nat} {pr:Nat→List Int} (kd:Int) (hone:∀a e,one a=some e→a<e∧e≤v.length)
  (hpr:∀a e,one a=some e→(pr a).length+18000004≤40000000*(e - a))
  (hs:∀(a e:Nat),one a=some e→∀(ad:Bool) (buf:List Int),buf.length+40000000*(e - a)≤120000000000000+18000004→self ⟨ad,buf⟩ v (a:Int)=some (⟨true,buf++pr a⟩,(e:Int))) (K:Nat) (hK:(K:Int)≤9223372036854775807) :
  ∀(k i a:Nat) (names:List BA) (e:Nat) (buf:List Int),i+k=K→a≤v.length→kidsS v one (decide (kd=7)) k a names=some e→buf.length+40000000*(e - a)+1≤120000000000000 →
   zbj_p1 self (a:Int) (K:Int) (i:Int) true v kd buf=some ((e:Int),true,buf++prKids v one pr (decide (kd=7)) k a (decide (i=0)))
 | 0,i,a,names,e,buf,h,ha,hk,hb=>by
  cases hk;show _=some ((a:Int),true,buf++[]);rw [List.append_nil];unfold zbj_p1;refine qAq ?_;unfold qEc;dsimp only;rw [deF (by omega),cnF]
 | k+1,i,a,names,e,buf,h,ha,hk,hb=>by
  unfold kidsS at hk;cases ho:one a with
  | none=>rw [ho] at hk; cases hk
  | some b =>
   rw [ho] at hk;dsimp only at hk;split at hk
   ·cases hk
   ·have hle:=hone a b ho;have hle2:=kidsS_le hone k b _ e hle.2 hk;have hp:=hpr a b ho;have hkl:=keyL_len hv (decide (kd=7)) (a:=a) (by omega);have hst:qEc self (a:Int) (K:Int) (i:Int) true v kd buf=some (.inl ((b:Int),((i+1:Nat):Int),true,buf++commaL (decide (i=0))++(keyL v (decide (kd=7)) a++pr a))):=by
     unfold qEc;rw [deT (by omega),cnT];by_cases hi:i=0
     ·rw [deF (by omega),cnF,sp_p2 hv (pr:=pr) (e1:=b) (by omega) kd (fun ad buf _ h2=>hs a b ho ad buf h2) true buf (by omega) hle.1,obS,deT hi];show gd _ _=some (Sum.inl ((b:Int),((i+1:Nat):Int),true,buf++[]++_));rw [List.append_nil];exact qAa (by unfold qAh; omega) _
     ·rw [deT (by omega),cnT,p_wb _ _ _ (by omega),obS,sp_p2 hv (pr:=pr) (e1:=b) (by omega) kd (fun ad buf _ h2=>hs a b ho ad buf h2) true (buf++[44]) (by simp only [List.length_append,List.length_singleton]; omega) hle.1,obS,deF hi];exact qAa (by unfold qAh; omega) _
    have hcm:(commaL (decide (i=0))).length≤1:=by unfold commaL; split <;> simp
    have ih:=sp_p1 hv kd hone hpr hs K hK k (i+1) b _ e (buf++commaL (decide (i=0))++(keyL v (decide (kd=7)) a++pr a)) (by omega) hle.2 hk (by simp only [List.length_append]; omega);rw [deF (show ¬(i+1=0) by omega)] at ih;unfold prKids;rw [ho,Option.getD_some];simp only [List.append_assoc] at ih ⊢;rw [←ih];unfold zbj_p1;rw [qAt hst];simp only [List.append_assoc]
theorem sp_all {v:List Eng.Node} (hv:OkL v):∀(d:Nat) (obj:Bool) (a e n:Nat),oneS v d obj a=some e→d<n→∀(ad:Bool) (buf:List Int),buf.length+40000000*(e - a)≤120000000000000+18000004 →
  zbj_n n ⟨ad,buf⟩ v (a:Int)=some (⟨true,buf++qE0 v d a⟩,(e:Int)):=by
 have hlen:=hv.1;intro d;induction d with
 | zero =>
  intro obj a e n h hn ad buf hb;have hle:=qE2 v 0 obj a e h;obtain ⟨nd,h1,h2,h3,h4,h5,h6,h7,h8,h9,h10⟩:=oneS_ok hv h;rcases h10 with ⟨_,h11,rfl⟩ | ⟨d',h,_⟩
  ·cases n with
   | zero=>omega
   | succ n =>
    show zbj_t (zbj_n n) ⟨ad,buf⟩ v a=_;have htx:=(hv.2 nd h2).text;unfold zbj_t qE0 scalL;rw [qAa (by omega),qAa (by omega),qAa (by unfold qAh; omega),Int.toNat_natCast,h4];by_cases k1:nd.kind=1
    ·rw [deT k1,cnT,if_pos k1,p_ws _ _ _ (by show _+4≤_; omega)]; rfl
    rw [deF k1,cnF,if_neg k1];by_cases k2:nd.kind=2
    ·rw [deT k2,cnT,if_pos k2,p_ws _ _ _ (by show _+5≤_; omega)]; rfl
    rw [deF k2,cnF,if_neg k2];by_cases k3:nd.kind=3
    ·rw [deT k3,cnT,if_pos k3,p_ws _ _ _ (by show _+4≤_; omega)]; rfl
    rw [deF k3,cnF,if_neg k3];by_cases k4:nd.kind=4
    ·rw [deT k4,cnT,if_pos k4,p_ws _ _ _ (by omega)]; rfl
    rw [deF k4,cnF,if_neg k4];by_cases k5:nd.kind=5
    ·rw [deT k5,cnT,p_quote _ _ _ htx (by omega)]; rfl
    have hc:((((decide (nd.kind<(1:Int))) || (decide ((7:Int)<nd.kind))) || (decide (nd.kids<(0:Int)))) || (((decide ((0:Int)<nd.kids)) && (!decide (nd.kind=(6:Int)))) && (!decide (nd.kind=(7:Int)))))=true:=by
     rw [deT (show nd.kind<1 by omega)]; rfl
    have:=pB_j (hv.2 nd h2);have hj:=this.1;rw [h6] at hj;unfold zan_s at hj;rw [hc,cnT] at hj;cases hj
  ·cases h
 | succ d ih =>
  intro obj a e n h hn ad buf hb;have hle:=qE2 v (d+1) obj a e h;obtain ⟨nd,h1,h2,h3,h4,h5,h6,h7,h8,h9,h10⟩:=oneS_ok hv h;rcases h10 with ⟨h,_⟩ | ⟨d',h,h11⟩
  ·cases h
  ·have:d'=d:=by omega
   subst this;cases n with
   | zero=>omega
   | succ n =>
    show zbj_t (zbj_n n) ⟨ad,buf⟩ v a=_;have htx:=(hv.2 nd h2).text;have hki:=(hv.2 nd h2).kids;unfold qAh at hki;unfold zbj_t qE0 scalL;rw [qAa (by omega),qAa (by omega),qAa (by unfold qAh; omega),Int.toNat_natCast,h4];have hsc:nd.kind<6→e=a+1:=fun hk=>by
     rw [show nd.kids.toNat=0 by omega] at h11;cases h11;rfl
    by_cases k1:nd.kind=1
    ·rw [hsc (by omega),deT k1,cnT,if_pos (by omega),if_pos k1,p_ws _ _ _ (by show _+4≤_; omega)]; rfl
    rw [deF k1,cnF,if_neg k1];by_cases k2:nd.kind=2
    ·rw [hsc (by omega),deT k2,cnT,if_pos (by omega),if_pos k2,p_ws _ _ _ (by show _+5≤_; omega)]; rfl
    rw [deF k2,cnF,if_neg k2];by_cases k3:nd.kind=3
    ·rw [hsc (by omega),deT k3,cnT,if_pos (by omega),if_pos k3,p_ws _ _ _ (by show _+4≤_; omega)]; rfl
    rw [deF k3,cnF,if_neg k3];by_cases k4:nd.kind=4
    ·rw [hsc (by omega),deT k4,cnT,if_pos (by omega),if_pos k4,p_ws _ _ _ (by omega)]; rfl
    rw [deF k4,cnF,if_neg k4];by_cases k5:nd.kind=5
    ·rw [hsc (by omega),deT k5,cnT,if_pos (by omega),p_quote _ _ _ htx (by omega)]; rfl
    rw [deF k5,cnF];by_cases k6:nd.kind<6
    ·exfalso;have hc:((((decide (nd.kind<(1:Int))) || (decide ((7:Int)<nd.kind))) || (decide (nd.kids<(0:Int)))) || (((decide ((0:Int)<nd.kids)) && (!decide (nd.kind=(6:Int)))) && (!decide (nd.kind=(7:Int)))))=true:=by
      rw [deT (show nd.kind<1 by omega)]; rfl
     have:=pB_j (hv.2 nd h2);have hj:=this.1;rw [h6] at hj;unfold zan_s at hj;rw [hc,cnT] at hj;cases hj
    rw [if_neg k6];obtain ⟨kk,hkk⟩:=Int.eq_ofNat_of_zero_le h7;rw [hkk,show ((kk:Int)).toNat=kk from rfl];rw [hkk,show ((kk:Int)).toNat=kk from rfl] at h11;have hle2:=kidsS_le (qE2 v d' (decide (nd.kind=7))) _ _ _ _ (by omega) h11;have hkl:=kids_len hv (qE2 v d' (decide (nd.kind=7))) (fun a e=>prOne_len hv d' _ a e) _ _ true _ _ (by omega) h11;have hp0:∀(c0 c1:Int) (sg:BA),bAt sg 0=c0→bAt sg 1=c1→sg.size=2→zbj_p0 (zbj_n n) ((a:Int)+1) sg ad v buf nd.kind (kk:Int)=some ((e:Int),true,buf++c0::(prKids v (oneS v d' (decide (nd.kind=7))) (qE0 v d') (decide (nd.kind=7)) kk (a+1) true++[c1])):=by
     intro c0 c1 sg e0 e1 hz;unfold zbj_p0;rw [qAa (by omega),e0,p_wb _ _ _ (by omega),obS];have:=sp_p1 hv nd.kind (qE2 v d' (decide (nd.kind=7))) (fun a e=>prOne_len hv d' _ a e) (self:=zbj_n n) (fun a e ho ad buf hb=>ih _ a e n ho (by omega) ad buf hb) kk (by omega) kk 0 (a+1) [] e (buf++[c0]) (by omega) (by omega) h11 (by simp only [List.length_append,List.length_singleton]; omega);rw [show ((a+1:Nat):Int)=(a:Int)+1 by omega,show ((0:Nat):Int)=0 from rfl,deT rfl] at this;dsimp only;rw [this,obS,qAa (by omega),e1,p_wb _ _ _ (by simp only [List.length_append,List.length_singleton]; omega),obS];simp only [List.append_assoc,List.cons_append,List.nil_append]
    by_cases k7:nd.kind=7
    ·rw [deT k7] at hp0 ⊢;rw [cnT,hp0 123 125 _ (by decide) (by decide) rfl,obS,if_pos k7,if_pos k7]
    ·rw [deF k7] at hp0 ⊢;rw [cnF,hp0 91 93 _ (by decide) (by decide) rfl,obS,if_neg k7,if_neg k7]
theorem prOne_some {v:List Eng.Node} (hv:OkL v) {d:Nat} {obj:Bool} {a e:Nat} (h:oneS v d obj a=some e):qE0 v d a≠[]:=by
 obtain ⟨nd,h1,h2,h3,h4,h5,h6,h7,h8,h9,h10⟩:=oneS_ok hv h;have hs:nd.kind<6→scalL nd≠[]:=by
  intro hk;unfold scalL;split
  ·simp
  split
  ·simp
  split
  ·simp
  split
  ·rename_i k4;intro he;have hz:nd.text.size=0:=by rw [←qAw,he]; rfl
   have htx:nd.text=⟨#[]⟩:=eq_none.2 hz;have hj:=(pB_j (hv.2 nd h2)).1;rw [h6] at hj;unfold zan_s at hj;have hw:=whole_j nd.text (hv.2 nd h2).text;rw [hw,p_Valid nd.text (hv.2 nd h2).text,htx] at hj;have hro:qDl (⟨#[]⟩:BA)=false:=by decide +kernel
   rw [hro,deT k4] at hj;simp only [obS,cnT,Bool.false_and] at hj;simp at hj
  ·simp [quoL]
 cases d with
 | zero =>
  unfold qE0;rw [h4];rcases h10 with ⟨_,h11,_⟩ | ⟨d',h,_⟩
  ·exact hs h11
  ·cases h
 | succ d =>
  unfold qE0;rw [h4];split
  ·rename_i hk;exact hs hk
  ·simp
theorem prOne_range (v:List Eng.Node):∀(d a:Nat),∀x∈qE0 v d a,0≤x∧x<256:=by
 intro d;induction d with
 | zero =>
  intro a;exact scalL_range _
 | succ d ih =>
  intro a;have kids:∀(one:Nat→Option Nat) (obj:Bool) (k b:Nat) (first:Bool),∀x∈prKids v one (qE0 v d) obj k b first,0≤x∧x<256:=by
   intro one obj k;induction k with
   | zero=>intro b first x hx; cases hx
   | succ k ihk =>
    intro b first x hx;unfold prKids at hx;simp only [List.mem_append] at hx;rcases hx with hx | hx | hx | hx
    ·unfold commaL at hx;split at hx
     ·cases hx
     ·simp at hx; omega
    ·unfold keyL at hx;split at hx
     ·simp only [List.mem_append,List.mem_singleton] at hx;rcases hx with hx | hx
      ·exact quoL_range _ x hx
      ·omega
     ·cases hx
    ·exact ih b x hx
    ·exact ihk _ _ x hx
  unfold qE0;split
  ·exact scalL_range _
  ·intro x hx;simp only [List.mem_cons,List.mem_append,List.not_mem_nil,or_false] at hx;rcases hx with rfl | hx | rfl
   ·split <;> omega
   ·exact kids _ _ _ _ _ x hx
   ·split <;> omega
def Stop (c:Int):Prop:=¬(48≤c∧c≤57)∧c≠46∧c≠101∧c≠69
theorem litR_says {t:BA}:∀ {w:List Int} {a:Nat},Has t a w→litR t w a=.ok (a+w.length) ()
 | [],a,h=>rfl
 | c::w,a,h=>by
  unfold litR;rw [if_pos h.1,litR_says h.2,List.length_cons];congr 1
  omega
theorem pB_inv {n:Eng.Node} (hn:n.text.size≤3000000) (h:pB n=true) :
  (n.kind=4∧n.kids=0∧qDl n.text=true∧n.whole=(qCk n.text).2∧n.int=(qCk n.text).1) ∨
  (n.kind=5∧n.kids=0∧n.whole=false∧n.int=0∧Lib.validD n.text.data.toList=true) ∨
  ((n.kind=1∨n.kind=2∨n.kind=3)∧n.kids=0∧n.whole=false∧n.int=0∧n.text=⟨#[]⟩) ∨
  ((n.kind=6∨n.kind=7)∧0≤n.kids∧n.whole=false∧n.int=0∧n.text=⟨#[]⟩):=by
 have hu:qBb n.text=some (Lib.validD n.text.data.toList):=qAa (by omega) _;unfold pB zan_s at h;rw [p_Valid _ hn,whole_j _ hn,hu] at h;simp only [obS] at h;cases h1:((((decide (n.kind<(1:Int))) || (decide ((7:Int)<n.kind))) || (decide (n.kids<(0:Int)))) || (((decide ((0:Int)<n.kids)) && (!decide (n.kind=(6:Int)))) && (!decide (n.kind=(7:Int))))) with
 | true=>rw [h1] at h; cases h
 | false =>
  rw [h1,cnF] at h;simp only [Bool.or_eq_false_iff,Bool.and_eq_false_iff,decide_eq_false_iff_not,Bool.not_eq_false',decide_eq_true_eq] at h1;by_cases h4:n.kind=4
  ·rw [deT h4,cnT] at h;simp only [Option.getD_some,Bool.and_eq_true,beq_iff_eq,decide_eq_true_eq] at h;exact .inl ⟨h4,by omega,h.1.1,h.1.2,h.2⟩
  ·rw [deF h4,cnF] at h;cases hw:n.whole with
   | true=>rw [hw] at h; cases h
   | false =>
    rw [hw,Bool.false_or] at h;by_cases hi:n.int=0
    ·rw [deT hi,Bool.not_true,cnF] at h;by_cases h5:n.kind=5
     ·rw [deT h5,cnT] at h;exact .inr (.inl ⟨h5,by omega,rfl,hi,h⟩)
     ·rw [deF h5,cnF] at h;have ht:n.text=⟨#[]⟩:=of_decide_eq_true h;by_cases h6:n.kind=6∨n.kind=7
      ·exact .inr (.inr (.inr ⟨h6,by omega,rfl,hi,ht⟩))
      ·exact .inr (.inr (.inl ⟨by omega,by omega,rfl,hi,ht⟩))
    ·rw [deF hi,Bool.not_false,cnT] at h;cases h
def part (v:List Eng.Node) (p e:Nat):List Eng.Node:=(v.drop p).take (e - p)
theorem skip_no {t:BA} {a:Nat} (h:bAt t (a:Int)≠32∧bAt t (a:Int)≠9∧bAt t (a:Int)≠10∧bAt t (a:Int)≠13):qAm t a=a:=by
 refine qDc ?_;unfold qBf;simp only [Bool.or_eq_false_iff,decide_eq_false_iff_not];omega
end Go.Proofs.YtdcoiccdbgcpaaaDoor
