/-
  JsonLeast: its call returns true.
-/
import Derived.Below
import Derived.Carry
import Derived.Lib.LaidU8
import Derived.Shelf.Lay
import Derived.Ground.NamesProg
import Derived.Test.YtdcoiccdbgcpaaaDoorPJBack
import Derived.Test.YtdcoiccdbgcpaaaDoorEngN
import Derived.Test.YtdcoiccdbgcpaaaDoorEngO
import Derived.Test.YtdcoiccdbgcpaaaDoorProg
import Derived.Test.YtdcoiccdbgcpaaaDoorRows
namespace Go.Proofs.YtdcoiccdbgcpaaaDoor
open Go.Eng
set_option linter.unusedVariables false
set_option linter.unusedSimpArgs false
theorem closers_p2 (O:List Int):∀(j:Nat) (out:List Int),j≤O.length→out.length+j≤1000→zbm_p2 ((j:Int) - 1) O out=some (out++(O.take j).reverse)
 | 0,out,hj,ho=>by
  rw [show out++(O.take 0).reverse=out by simp];unfold zbm_p2;refine qAq ?_;unfold qEj;dsimp only;rw [deF (by omega),cnF]
 | j+1,out,hj,ho=>by
  have ih:=closers_p2 O j (out++[O.getD j (ET.dft .u8)]) (by omega) (by rw [List.length_append,List.length_singleton]; omega);have hst:qEj (((j+1:Nat):Int) - 1) O out=some (.inl ((j:Int) - 1,out++[O.getD j (ET.dft .u8)])):=by
   unfold qEj;rw [show ((j+1:Nat):Int) - 1=(j:Int) by omega,deT (by omega),cnT,qAa (by omega),Int.toNat_natCast,qAa (by omega),qAa (by simp only [List.length_singleton]; omega),qAa (by unfold qAh; omega)]
  have e:(O.take (j+1)).reverse=O.getD j (ET.dft .u8)::(O.take j).reverse:=by
   rw [List.take_add_one,List.getD_eq_getElem?_getD,List.getElem?_eq_getElem (by omega)];simp
  rw [e];unfold zbm_p2 at ih ⊢;rw [qAt hst,ih,List.append_assoc];rfl
theorem closers_is {t:BA} {O:List Int} (h:cl t false 0 []=some O) (hO:O.length≤900):zbm_s t=some (qAr O.reverse):=by
 have h0:zbm_p0 t false (0:Int) []=some O:=h;have h1:=closers_p2 O O.length [] (Nat.le_refl _) (by show 0+_≤_; omega);rw [List.nil_append,List.take_length] at h1;unfold zbm_s;rw [h0,obS,qAa (by unfold qAh; omega),h1,obS]
theorem own_loop:∀(j i:Nat) (L:List Int),i+j=L.length→L.length≤3000000→∃O,zbn_p0 (i:Int) L=some O∧O.length=L.length∧∀x,x<L.length→(i≤x→O[x]?=some 122)∧(x<i→O[x]?=L[x]?)
 | 0,i,L,h,hL=>by
  refine ⟨L,?_,rfl,fun x hx=>⟨fun h1=>by omega,fun _=>rfl⟩⟩;unfold zbn_p0;refine qAq ?_;unfold qD7;dsimp only;rw [deF (by omega),cnF]
 | j+1,i,L,h,hL=>by
  obtain ⟨O,h1,h2,h3⟩:=own_loop j (i+1) (L.set i 122) (by rw [List.length_set]; omega) (by rw [List.length_set]; exact hL);rw [List.length_set] at h2 h3;have hst:qD7 (i:Int) L=some (.inl (((i+1:Nat):Int),L.set i 122)):=by
   unfold qD7;rw [deT (by omega),cnT,qAa (by omega),Int.toNat_natCast,qAa (by omega),qAa (by unfold qAh; omega)];rfl
  refine ⟨O,?_,h2,fun x hx=>?_⟩
  ·unfold zbn_p0 at h1 ⊢;rw [qAt hst];exact h1
  ·obtain ⟨g1,g2⟩:=h3 x hx;refine ⟨fun hix=>?_,fun hxi=>?_⟩
   ·rcases Nat.lt_or_ge x (i+1) with hlt | hge
    ·obtain rfl:x=i:=by omega
     rw [g2 hlt,List.getElem?_set_self (by omega)]
    ·exact g1 hge
   ·rw [g2 (by omega),List.getElem?_set_ne (by omega)]
theorem own_is (n:Nat) (hn:n≤3000000):∃O,zbn_p0 (0:Int) (List.replicate n (0:Int))=some O∧O.length=n∧∀z∈O,z=122:=by
 obtain ⟨O,h1,h2,h3⟩:=own_loop n 0 (List.replicate n (0:Int)) (by rw [List.length_replicate]; omega) (by rw [List.length_replicate]; exact hn);rw [List.length_replicate] at h2 h3;refine ⟨O,h1,h2,fun z hz=>?_⟩;obtain ⟨i,hi,rfl⟩:=List.getElem_of_mem hz;have:=(h3 i (by omega)).1 (Nat.zero_le _);rw [List.getElem?_eq_getElem hi] at this;exact Option.some.inj this
section
variable {text end_:BA} {behind words:List BA} (ht:text.size≤100000) (he:end_.size≤1000) (hb:∀b∈behind,b.size≤200000) (hw:∀w∈words,w.size≤1000) (hbl:behind.length≤1000) (hwl:words.length≤1000)
include ht he hb hw hbl hwl
omit hwl in
theorem search_step {i j:Nat} (hi:i<words.length) (hj:j<behind.length):qEi text end_ (i:Int) (j:Int) behind words=some (if (qD0 (((text++words[i])++behind[j])++end_)).2.1=0 then .inr (.inl true) else .inl ((j+1:Nat):Int)):=by
 have e1:words.getD i (ET.dft .str)=words[i]:=by rw [List.getD_eq_getElem?_getD,List.getElem?_eq_getElem hi]; rfl
 have e2:behind.getD j (ET.dft .str)=behind[j]:=by rw [List.getD_eq_getElem?_getD,List.getElem?_eq_getElem hj]; rfl
 have z1:=hw _ (List.getElem_mem hi);have z2:=hb _ (List.getElem_mem hj);unfold qEi;rw [deT (by omega),cnT,qAa (by omega),Int.toNat_natCast,qAa hi,e1,qAa (by omega),qAa (by omega),Int.toNat_natCast,qAa hj,e2,qAa (by rw [qA7]; omega),qAa (by rw [qA7,qA7]; omega),p_Parse,obS,qAa rfl];by_cases hc:(qD0 (((text++words[i])++behind[j])++end_)).2.1=0
 ·rw [deT hc,cnT,if_pos hc]
 ·rw [deF hc,cnF,if_neg hc,qAa (by unfold qAh; omega)];rfl
omit hwl in
theorem search_in {i:Nat} (hi:i<words.length):∀(k j:Nat),j+k=behind.length→(zbn_p2 text end_ (i:Int) (j:Int) behind words=some (.inl true))∨(zbn_p2 text end_ (i:Int) (j:Int) behind words=some (.inr ())∧∀j',j≤j'→∀hj':j'<behind.length,(qD0 (((text++words[i])++behind[j'])++end_)).2.1≠0)
 | 0,j,h=>by
  refine .inr ⟨?_,fun j' h1 h2=>by omega⟩;unfold zbn_p2;refine qAq ?_;unfold qEi;rw [deF (by omega),cnF]
 | k+1,j,h=>by
  have hst:=search_step ht he hb hw hbl hi (show j<behind.length by omega);by_cases hc:(qD0 (((text++words[i])++behind[j])++end_)).2.1=0
  ·rw [if_pos hc] at hst;left;unfold zbn_p2;exact qAq hst
  ·rw [if_neg hc] at hst;have e:zbn_p2 text end_ (i:Int) (j:Int) behind words=zbn_p2 text end_ (i:Int) ((j+1:Nat):Int) behind words:=by
    unfold zbn_p2;rw [qAt hst]
   rcases search_in hi k (j+1) (by omega) with h1 | ⟨h1,h2⟩
   ·exact .inl (e.trans h1)
   ·refine .inr ⟨e.trans h1,fun j' g1 g2=>?_⟩;by_cases hj:j'=j
    ·subst hj; exact hc
    ·exact h2 j' (by omega) g2
theorem search_all {i0 j0:Nat} (hi0:i0<words.length) (hj0:j0<behind.length) (hgood:(qD0 (((text++words[i0])++behind[j0])++end_)).2.1=0):∀(k i:Nat),i+k=words.length→i≤i0→zbn_p1 text end_ (i:Int) behind words=some (.inl true)
 | 0,i,h,hi=>by omega
 | k+1,i,h,hi=>by
  have hst:qFw text end_ (i:Int) behind words=(zbn_p2 text end_ (i:Int) (0:Int) behind words).bind fun o14=>(Sum.elim (fun (o14_0:Bool)=>some (.inr (.inl o14_0))) (fun (o14_1:Unit)=>gd (qAh ((i:Int)+(1:Int))) <| some (.inl ((i:Int)+(1:Int)))) o14):=by
   unfold qFw;rw [deT (by omega),cnT]
  have hs:=search_in ht he hb hw hbl (show i<words.length by omega) behind.length 0 (by omega);rw [show ((0:Nat):Int)=0 from rfl] at hs;rcases hs with h1 | ⟨h1,h2⟩
  ·rw [h1] at hst;unfold zbn_p1;exact qAq hst
  ·have hne:i≠i0:=fun hii=>by
    subst hii;exact h2 j0 (Nat.zero_le _) hj0 hgood
   rw [h1,obS,Sum.elim_inr,qAa (by unfold qAh; omega),show (i:Int)+1=((i+1:Nat):Int) by omega] at hst;have ih:=search_all hi0 hj0 hgood k (i+1) (by omega) (by omega);unfold zbn_p1 at ih ⊢;rw [qAt hst];exact ih
end
def wordsB:List BA:=[(⟨#[]⟩:BA),(⟨#[48]⟩:BA),(⟨#[110]⟩:BA),(⟨#[117,48,48,48,48]⟩:BA),(⟨#[48,48,48,48]⟩:BA),(⟨#[48,48,48]⟩:BA),(⟨#[48,48]⟩:BA),(⟨#[48]⟩:BA),(⟨#[48,48,92,117,100,99,48,48]⟩:BA),(⟨#[48,92,117,100,99,48,48]⟩:BA),(⟨#[92,117,100,99,48,48]⟩:BA),(⟨#[117,100,99,48,48]⟩:BA),(⟨#[100,99,48,48]⟩:BA),(⟨#[99,48,48]⟩:BA),(⟨#[128]⟩:BA),(⟨#[128,128]⟩:BA),(⟨#[128,128,128]⟩:BA),(⟨#[160,128]⟩:BA),(⟨#[144,128,128]⟩:BA),(⟨#[117,108,108]⟩:BA),(⟨#[108,108]⟩:BA),(⟨#[108]⟩:BA),(⟨#[114,117,101]⟩:BA),(⟨#[117,101]⟩:BA),(⟨#[101]⟩:BA),(⟨#[97,108,115,101]⟩:BA),(⟨#[108,115,101]⟩:BA),(⟨#[115,101]⟩:BA)]
theorem words_is:zbo_s=some wordsB:=rfl
theorem words_parts:wordsB.map qAk=qFo:=by decide +kernel
theorem words_small:∀w∈wordsB,w.size≤1000:=by decide +kernel
theorem words_nb:∀w∈qFo,∀c∈w,qBf c=false:=by decide +kernel
theorem grown {t u:BA} {L:List Int} (h:qAk u=qAk t++L):Agree t u t.size∧Has u t.size L∧u.size=t.size+L.length:=by
 have hsz:u.size=t.size+L.length:=by
  have:=congrArg List.length h;rwa [List.length_append,qAw,qAw] at this
 have hall:=has_all u;rw [h,Has.append,qAw,Nat.zero_add] at hall;refine ⟨⟨Nat.le_refl _,by omega,fun i hi=>?_⟩,hall.2,hsz⟩;have h1:=qD9 (s:=u) (i:=i) (by omega);rw [h,List.getElem?_append_left (by rw [qAw]; exact hi),qD9 hi] at h1;exact Option.some.inj h1
theorem parse_ok {u:BA} {b:Nat} {l:List Eng.Node} (hs:u.size≤262144) (h:qCx u=.ok b l):qD0 u=(l,0,0):=by
 unfold qD0;rw [if_neg (by omega),h];rfl
theorem qFs {u:BA} {c:Int} {b:Nat} (hs:u.size≤262144) (h:qCx u=.bad c b):qD0 u=([],c,(b:Int)):=by
 unfold qD0;rw [if_neg (by omega),h];rfl
theorem completes_is {t:BA} (hs:t.size≤65536) (h:(∃b l,qCx t=.ok b l)∨qCx t=.bad 31 t.size):zbn_s t=some true:=by
 obtain ⟨own,o1,o2,o3⟩:=own_is (t.size+1) (by omega);have hor:∀x∈own,0≤x∧x<256:=fun x hx=>by rw [o3 x hx]; decide
 have hob:qAk (qAr own)=own:=bytesL_of hor;have hosz:(qAr own).size=t.size+1:=by rw [qD5,o2]
 have key:∃(w g C:List Int),w∈qFo∧g∈behL own∧(∀c∈C,c=93∨c=125)∧C.length≤32∧cl t false 0 []=some C.reverse∧∀u,qAk u=qAk t++(w++(g++C))→u.size≤262144→(qD0 u).2.1=0:=by
  rcases h with ⟨b,l,h⟩ | h
  ·refine ⟨[],[],[],by decide,by simp [behL],by simp,by decide,read_open (by omega) h,fun u hu hsz=>?_⟩;have:u=t:=by
    have:=congrArg qAr hu;rwa [List.append_nil,List.append_nil,List.append_nil,bytesI_of,bytesI_of] at this
   rw [this,parse_ok (by omega) h]
  ·obtain ⟨w,g,C,p1,p2,p3,p4,p5,p6⟩:=read_grow (own:=own) (by omega) o3 (by omega) h;refine ⟨w,g,C,p1,p2,p3,p4,p5,fun u hu hsz=>?_⟩;obtain ⟨q1,q2,q3⟩:=grown hu;have hnb:qBf (bAt u (t.size:Int))=false:=by
    have hall:∀c∈w++(g++C),qBf c=false:=fun c hc=>by
     rcases List.mem_append.1 hc with hc | hc
     ·exact words_nb w p1 c hc
     ·rcases List.mem_append.1 hc with hc | hc
      ·unfold behL at p2;simp only [List.mem_cons,List.not_mem_nil,or_false] at p2;have ho:∀c∈own,qBf c=false:=fun c hc=>by rw [o3 c hc]; decide
       rcases p2 with rfl | rfl | rfl | rfl | rfl
       ·cases hc
       ·rw [List.mem_singleton.1 hc]; decide
       ·rcases List.mem_append.1 hc with hc | hc
        ·exact ho c hc
        ·simp only [List.mem_cons,List.not_mem_nil,or_false] at hc;rcases hc with rfl | rfl | rfl <;> decide
       ·simp only [List.mem_cons,List.not_mem_nil,or_false] at hc;rcases hc with rfl | rfl <;> decide
       ·rcases List.mem_cons.1 hc with rfl | hc
        ·decide
        ·rcases List.mem_append.1 hc with hc | hc
         ·exact ho c hc
         ·simp only [List.mem_cons,List.not_mem_nil,or_false] at hc;rcases hc with rfl | rfl | rfl <;> decide
      ·rcases p3 c hc with rfl | rfl <;> decide
    generalize w++(g++C)=L at q2 q3 hall
    cases L with
    | nil =>
     rw [qB0 (by rw [List.length_nil] at q3; omega)];rfl
    | cons c L =>
     rw [q2.1];exact hall c List.mem_cons_self
   obtain ⟨l,hl⟩:=p6 u q1 hnb q2 (by simp only [List.length_append] at q3; omega);rw [parse_ok hsz hl]
 obtain ⟨w,g,C,p1,p2,p3,p4,p5,p6⟩:=key;have hcl:=closers_is p5 (by rw [List.length_reverse]; omega);rw [List.reverse_reverse] at hcl;have hCr:qAk (qAr C)=C:=bytesL_of fun x hx=>by rcases p3 x hx with rfl | rfl <;> decide
 have hCsz:(qAr C).size≤32:=by rw [qD5]; exact p4
 have hbe:([(⟨#[]⟩:BA),(⟨#[34]⟩:BA),((qAr own)++(⟨#[34,58,48]⟩:BA)),(⟨#[58,48]⟩:BA),(((⟨#[34]⟩:BA)++(qAr own))++(⟨#[34,58,48]⟩:BA))]:List BA).map qAk=behL own:=by
  simp only [List.map_cons,List.map_nil,bytesL_app,hob];rfl
 have hbsz:∀b∈([(⟨#[]⟩:BA),(⟨#[34]⟩:BA),((qAr own)++(⟨#[34,58,48]⟩:BA)),(⟨#[58,48]⟩:BA),(((⟨#[34]⟩:BA)++(qAr own))++(⟨#[34,58,48]⟩:BA))]:List BA),b.size≤70000:=by
  intro b hb;simp only [List.mem_cons,List.not_mem_nil,or_false] at hb;rcases hb with rfl | rfl | rfl | rfl | rfl
  ·decide
  ·decide
  ·rw [qA7,hosz]; show _+3≤_; omega
  ·decide
  ·rw [qA7,qA7,hosz]; show 1+_+3≤_; omega
 rw [←words_parts] at p1;rw [←hbe] at p2;unfold zbn_s;rw [show (t.size:Int)+1=((t.size+1:Nat):Int) by omega,qAa (by unfold qAh; omega),qAa (by omega),Int.toNat_natCast,o1,obS,hcl,obS,qAa (by rw [hosz]; show _+3≤_; omega),qAa (by rw [hosz]; show 1+_≤_; omega),qAa (by rw [qA7,hosz]; show 1+_+3≤_; omega),words_is,obS];generalize ([(⟨#[]⟩:BA),(⟨#[34]⟩:BA),((qAr own)++(⟨#[34,58,48]⟩:BA)),(⟨#[58,48]⟩:BA),(((⟨#[34]⟩:BA)++(qAr own))++(⟨#[34,58,48]⟩:BA))]:List BA)=B at *
 obtain ⟨xw,hxw,ew⟩:=List.mem_map.1 p1;obtain ⟨xg,hxg,eg⟩:=List.mem_map.1 p2;obtain ⟨i0,hi0,ei⟩:=List.getElem_of_mem hxw;obtain ⟨j0,hj0,ej⟩:=List.getElem_of_mem hxg;have hBl:B.length=5:=by
  have:=congrArg List.length hbe;rw [List.length_map] at this;rw [this];rfl
 have hgood:(qD0 (((t++wordsB[i0])++B[j0])++qAr C)).2.1=0:=by
  rw [ei,ej];refine p6 _ ?_ ?_
  ·simp only [bytesL_app,ew,eg,hCr,List.append_assoc]
  ·have z1:=words_small _ hxw;have z2:=hbsz _ hxg;rw [qA7,qA7,qA7];omega
 have hall:=search_all (text:=t) (end_:=qAr C) (behind:=B) (words:=wordsB) (by omega) (by omega) (fun b hb=>by have:=hbsz b hb; omega) words_small (by omega) (by decide) hi0 hj0 hgood wordsB.length 0 (by omega) (Nat.zero_le _);rw [show ((0:Nat):Int)=0 from rfl] at hall;rw [hall];rfl
theorem qFd {t:BA} {n:Nat} (hn:n≤t.size):Agree (t.extract 0 n) t n∧(t.extract 0 n).size=n:=by
 have hsz:(t.extract 0 n).size=n:=by rw [ByteArray.size_extract]; omega
 refine ⟨⟨by omega,hn,fun i hi=>?_⟩,hsz⟩;rw [qDh t 0 n (i:Int) (by omega) (by omega),show ((0:Nat):Int)+(i:Int)=(i:Int) by omega]
theorem app_agree (t r:BA):Agree t (t++r) t.size:=(grown (bytesL_app t r)).1
theorem prefix_told {t:BA} {n:Nat} (hn:n≤t.size) (h:∀c b,qCx t=.bad c b→c=31∧n≤b):(∃b l,qCx (t.extract 0 n)=.ok b l)∨qCx (t.extract 0 n)=.bad 31 n:=by
 obtain ⟨ag,hsz⟩:=qFd hn;cases hr:qCx (t.extract 0 n) with
 | ok b l=>exact .inl ⟨b,l,rfl⟩
 | bad c b =>
  right;have hp:=readR_place hr;rw [hsz] at hp;by_cases hT:FTold (t.extract 0 n) n c b
  ·have h1:=readR_like ag hr hT;have h2:=h c b h1;have h3:=hT.1 h2.1;omega
  ·have:¬(c≠31):=fun hc=>hT ⟨fun h=>(hc h).elim,fun _=>hsz.symm⟩
   have hc:c=31:=Decidable.not_not.1 this;subst hc;have:¬b<n:=fun hb=>hT ⟨fun _=>hb,fun h=>(h rfl).elim⟩
   rw [show b=n by omega]
theorem least_loop {t:BA} (hs:t.size≤65536) (h:∀c b,qCx t≠.bad c b):∀(k i:Nat),i+k=min t.size 400→zbk_p0 t (i:Int)=some (.inr ())
 | 0,i,hk=>by
  unfold zbk_p0;refine qAq ?_;unfold qEo;have e:(decide ((i:Int)<(t.size:Int)) && decide ((i:Int)<(400:Int)))=false:=by
   rw [Bool.and_eq_false_iff,decide_eq_false_iff_not,decide_eq_false_iff_not]; omega
  rw [e,cnF]
 | k+1,i,hk=>by
  have ih:=least_loop hs h k (i+1) (by omega);have hst:qEo t (i:Int)=some (.inl ((i+1:Nat):Int)):=by
   unfold qEo;rw [deT (show (i:Int)<(t.size:Int) by omega),deT (show (i:Int)<(400:Int) by omega),Bool.and_self,cnT,qAa (by omega),Int.toNat_natCast,p_Parse,obS];have hsz:=(qFd (t:=t) (n:=i) (by omega)).2;rcases prefix_told (t:=t) (n:=i) (by omega) (fun c b hb=>(h c b hb).elim) with ⟨b,l,h1⟩ | h1
   ·rw [parse_ok (by omega) h1];dsimp only;rw [deT rfl,Bool.not_true,Bool.false_and,cnF,qAa (by unfold qAh; omega)];rfl
   ·rw [qFs (by omega) h1];dsimp only;rw [deF (by decide),deT rfl,deT rfl];show gd _ _=_;rw [qAa (by unfold qAh; omega)];rfl
  unfold zbk_p0 at ih ⊢;rw [qAt hst];exact ih
theorem least_p1 {t:BA} (row:BA) (hs:t.size≤65536) (hr:row.size≤65536) {c:Int} {b:Nat} (h:qCx t=.bad c b):zbk_p1 t row c (b:Int)=some true:=by
 have hp:=readR_place h;unfold zbk_p1;by_cases hc:c=31
 ·subst hc;obtain ⟨ag,hsz⟩:=qFd (t:=t) (n:=b) hp;have hcomp:zbn_s (t.extract 0 b)=some true:=completes_is (by omega) (by
   rw [hsz];exact prefix_told hp fun c' b' h'=>by
    rw [h] at h';cases h';exact ⟨rfl,Nat.le_refl _⟩)
  rw [deT rfl,Bool.not_true,cnF];by_cases hb:b<t.size
  ·obtain ⟨ag1,hsz1⟩:=qFd (t:=t) (n:=b+1) (by omega);have ag2:Agree t (t.extract 0 (b+1)++row) (b+1):=by
    have g:=app_agree (t.extract 0 (b+1)) row;rw [hsz1] at g;exact ⟨by omega,g.lu,fun i hi=>by rw [←ag1.same i hi,g.same i hi]⟩
   have hr2:=readR_like ag2 h ⟨fun _=>by omega,fun h=>(h rfl).elim⟩;rw [deT (by omega),cnT,show (b:Int)+1=((b+1:Nat):Int) by omega,qAa (by unfold qAh; omega),qAa (by omega),Int.toNat_natCast,qAa (by omega),p_Parse,obS,qFs (by rw [qA7]; omega) hr2];dsimp only;rw [deT rfl,deT rfl];show gd _ _=_;rw [qAa (by omega),Int.toNat_natCast,hcomp];rfl
  ·rw [deF (by omega),cnF,qAa (by omega),Int.toNat_natCast,hcomp];rfl
 ·rw [deF hc,Bool.not_false,cnT]
theorem jsonLeast_plain (t row:BA):zbk_s t row=some true:=by
 unfold zbk_s;rw [alive_is,obS,Bool.not_true,cnF];by_cases hbig:65536<t.size∨65536<row.size
 ·have e:(decide ((65536:Int)<(t.size:Int)) || decide ((65536:Int)<(row.size:Int)))=true:=by
   rw [Bool.or_eq_true,decide_eq_true_eq,decide_eq_true_eq]; omega
  rw [e,cnT]
 ·have e:(decide ((65536:Int)<(t.size:Int)) || decide ((65536:Int)<(row.size:Int)))=false:=by
   rw [Bool.or_eq_false_iff,decide_eq_false_iff_not,decide_eq_false_iff_not]; omega
  rw [e,cnF,p_Parse,obS];cases hr:qCx t with
  | ok b l =>
   rw [parse_ok (by omega) hr];dsimp only;have hl:=(readR_len hr).1;have:=List.length_pos_iff.2 hl;have hlp:=least_loop (t:=t) (by omega) (fun c b h=>by rw [hr] at h; cases h) (min t.size 400) 0 (by omega);rw [show ((0:Nat):Int)=0 from rfl] at hlp;rw [deT rfl,cnT,hlp,obS,Sum.elim_inr,deT (by omega)]
  | bad c b =>
   rw [qFs (by omega) hr];dsimp only;have hp:=readR_place hr;have hc0:c≠0:=by
    rcases parseR_cases t with ⟨l,h1,_⟩ | ⟨c',b',h1,h2⟩
    ·rw [qFs (by omega) hr] at h1;rcases parseR_cases t with ⟨l2,g1,g2,g3,_⟩ | ⟨c',b',g1,g2⟩
     ·rw [hr] at g3; cases g3
     ·rw [qFs (by omega) hr] at g1;simp only [Prod.mk.injEq] at g1;rw [g1.2.1];exact g2
    ·rw [qFs (by omega) hr] at h1;simp only [Prod.mk.injEq] at h1;rw [h1.2.1];exact h2
   have hp1:=least_p1 (t:=t) row (by omega) (by omega) hr;rw [deF hc0,cnF];by_cases hT:c≠31∨b<t.size
   ·have e:((!decide (c=(31:Int))) || decide ((b:Int)<(t.size:Int)))=true:=by
     rw [Bool.or_eq_true,Bool.not_eq_true',decide_eq_false_iff_not,decide_eq_true_eq]; omega
    have hr2:=readR_like (app_agree t row) hr ⟨fun h=>by omega,fun _=>rfl⟩;rw [e,cnT,qAa (by omega),p_Parse,obS,qFs (by rw [qA7]; omega) hr2];dsimp only;rw [deT rfl,deT rfl,Bool.not_true,Bool.or_self,cnF,hp1];rfl
   ·have e:((!decide (c=(31:Int))) || decide ((b:Int)<(t.size:Int)))=false:=by
     rw [Bool.or_eq_false_iff,Bool.not_eq_false',decide_eq_true_eq,decide_eq_false_iff_not]; omega
    rw [e,cnF,hp1];rfl
end Go.Proofs.YtdcoiccdbgcpaaaDoor
namespace Go.Eng
open Go.RowKit
set_option linter.unusedVariables false
theorem reach_of {x:Nat} (h:decide (x≤reachBytes)=true):x≤140737488351232:=by
 have h2:=of_decide_eq_true h;exact h2
theorem size_of_weights {H:Type} {P:Program} {T:TypeId} {s:BA} (h:∀x∈(DataW.lit (.string s.data.toList):DataW H).weights P T,x≤140737488351232):s.size≤140737488351232:=by
 have h2:=h s.data.toList.length (by simp only [DataW.weights]; exact List.mem_singleton.2 rfl);rw [Array.length_toList] at h2;exact h2
structure LowB (w w':World):Prop where
 os:w'.os=w.os
 output:w'.output=w.output
 size:w.heap.size≤w'.heap.size
 block:∀k,k<w.heap.size→w'.heap[k]?=w.heap[k]?
theorem lowB_of_stays {w w':World} (h:Stays (fun _=>False) w w'):LowB w w':=⟨h.os,h.output,h.size,fun k hk=>h.block k hk id⟩
theorem LowB.frame {W w':World} (h:LowB W w') (may:MemPlace→Prop):W.keptBut w' may:=by
 refine ⟨h.os,h.output,fun i hi=>?_⟩;rw [h.block i hi];split <;> simp_all
theorem LowB.same {W w':World} (h:LowB W w') {p:MemPlace} (hp:p.block<W.heap.size):W.sameAt w' p:=by
 cases p with
 | cell b o=>exact World.cell?_of_block (w:=W) (h.block b hp)
 | map b=>exact h.block b hp
theorem LowB.trod {H:Type} {enc:TypeId × Value→H} {P:Program} {t:TypeId} (hl:laidOutB P=true) (hr:P.readableRec t=true) (hrow:t<P.types.size) {W W':World} {v:Value} {d:DataW H} {ps:List MemPlace}
  (h:DataW.Trod enc P W 0 (fun _=>true) true t v d ps) (hb:LowB W W') (hlt:∀x∈ps,x.block<W.heap.size) :
  DataW.Trod enc P W' 0 (fun b=>decide (b<W.heap.size)) true t v d ps :=
 WideElems.Trod_stays hl hr hrow h (fun x hx=>hb.same (hlt x hx)) (fun x hx=>by simpa using hlt x hx)
theorem callS {P:Program} {f:Nat} {C:CS} (h:qAp P f C) {args:List SV} {v:SV} (hc:C args [] (SV × List SB) (fun v hp'=>some (v,hp'))=some (v,[])) (hs:args.all SV.shut=true) (hv:v.shut=true) (w:World) (ht:tabOK noX w) (vs:List Value) (hvs:args.map (SV.den fun _=>undef)=vs) :
  Calls P f vs.toArray w fun e w'=>e=.returned (v.den fun _=>undef)∧LowB w w':=by
 have:=h.2 args [] v [] hc (fun v hv=>SV.shut_lt (List.all_eq_true.1 hs v hv) _) noX w (fun _=>undef) (HpSat.nil _ _ ht _);rw [hvs] at this;exact this.mono fun e w' ⟨ρ',_,_,a,_,_,b⟩=>⟨by rw [a,SV.shut_den hv ρ' fun _=>undef],lowB_of_stays b⟩
end Go.Eng
namespace Go.Proofs
open Go.Shelf
shelf_lay Lays.n260 Nm 260 at Tryd as Tryd.laysSlow
end Go.Proofs
namespace Go.Proofs.YtdcoiccdbgcpaaaDoor
open Go.Eng Go.Shelf
set_option linter.unusedVariables false
theorem first_data:(Rows.laid_unicode_utf8_first:DataW Unit)=Lib.firstData:=by kernel_rfl
theorem accept_data:(Rows.laid_unicode_utf8_acceptRanges:DataW Unit)=Lib.acceptData:=by kernel_rfl
theorem utf8_tabs {W:World} (h3:Lib.VarReads Tryd.prog W "unicode/utf8.first" Rows.laid_unicode_utf8_first) (h4:Lib.VarReads Tryd.prog W "unicode/utf8.acceptRanges" Rows.laid_unicode_utf8_acceptRanges):tabOK noX W:=by
 rw [first_data] at h3;rw [accept_data] at h4;exact ⟨utf8Tabs_of_reads Tryd.laysSlow ⟨by kernel_rfl,by kernel_rfl,by kernel_rfl,by kernel_rfl,by kernel_rfl,by kernel_rfl,by kernel_rfl⟩ h3 h4,fun h=>h,fun h=>h⟩
end Go.Proofs.YtdcoiccdbgcpaaaDoor
namespace Go.Proofs.YtdcoiccdbgcpaaaDoor
open Go.Eng
set_option linter.unusedVariables false
set_option linter.unusedSimpArgs false
theorem jsonLeast_tabs {W:World} (h:laidMetH Tryd.prog Rows.jsonLeastRow.laid W):tabOK noX W:=by
 have h':laidMet Tryd.prog Rows.jsonLeastRow.laid W:=h;exact utf8_tabs (Lib.laidMet.reads h' (List.mem_cons_of_mem _ List.mem_cons_self)) (Lib.laidMet.reads h' List.mem_cons_self)
theorem jsonLeast_walk (s0 s1:BA) (W:World) (h0:s0.size≤140737488351232) (h1:s1.size≤140737488351232) (hT:tabOK noX W):Calls Tryd.prog 10 #[.string s0,.string s1] W fun e w'=>e=.returned (.bool true)∧LowB W w':=by
 refine callS zbk_val (args:=[.c (.o (.val (.string s0))),.c (.o (.val (.string s1)))]) (v:=.c (.o (.val (.bool true)))) ?_ rfl rfl W hT [.string s0,.string s1] rfl;show ((zbk_s s0 s1).bind fun r=>some ((.c (.o (.val (.bool r))),[]):SV × List SB))=_;rw [jsonLeast_plain s0 s1];rfl
end Go.Proofs.YtdcoiccdbgcpaaaDoor
