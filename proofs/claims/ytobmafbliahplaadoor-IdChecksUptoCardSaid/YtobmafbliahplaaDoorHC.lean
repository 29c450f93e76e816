/-
  Functions as the engine reads them (printed by gen.py).
-/
import Derived.Test.YtobmafbliahplaaDoorDecKey
import Derived.Test.YtobmafbliahplaaDoorJR
import Derived.Test.YtobmafbliahplaaDoorEngO
import Derived.Test.YtobmafbliahplaaDoorProg
import Derived.Test.YtobmafbliahplaaDoorHB
import Derived.Test.YtobmafbliahplaaDoorPSha
set_option linter.unusedSimpArgs false
set_option linter.unusedVariables false
namespace Go.Proofs.YtobmafbliahplaaDoor
open Go.Eng
theorem nd_get {v:List Eng.Node} {a:Nat} {n:Eng.Node} (h:v[a]?=some n):v.getD a (ET.dft .node)=n:=by
 rw [List.getD_eq_getElem?_getD,h]; rfl
theorem nd_some {v:List Eng.Node} {a:Nat} (h:a<v.length):∃n,v[a]?=some n∧n∈v∧v.getD a (ET.dft .node)=n :=
 ⟨v[a],List.getElem?_eq_getElem h,List.getElem_mem h,nd_get (List.getElem?_eq_getElem h)⟩
structure OkN (n:Eng.Node):Prop where
 key:n.key.size≤3000000
 text:n.text.size≤3000000
 kids:qAc n.kids
def OkL (v:List Eng.Node):Prop:=v.length≤2000000∧∀n∈v,OkN n
theorem read_text (s:BA):(qAv s).text.size≤s.size:=by
 unfold qAv readS;split
 ·exact Nat.zero_le _
 ·split
  ·simp only [ByteArray.size_extract]; omega
  ·split
   ·simp only [ByteArray.size_extract]; omega
   ·split
    ·simp only [ByteArray.size_extract]; omega
    ·simp only [ByteArray.size_extract]; omega
theorem tdiv_low (x:Int) (h1 : -9223372036854775808≤x) (h2:x≤0):x≤10*Int.tdiv x 10∧Int.tdiv x 10≤0:=by
 have h3:Int.tdiv x 10 = -((-x) / 10):=by
  conv=>lhs; rw [show x = -(-x) by omega,Int.neg_tdiv]
  rw [Int.tdiv_eq_ediv_of_nonneg (by omega)]
 rw [h3];omega
theorem whole_loop (t:BA) (hs:t.size≤3000000):∀(j i:Nat) (v:Int),i+j=t.size → -9223372036854775808≤v∧v≤0→∃y,zbs_p0 v (i:Int) t=some y∧∀u,y=.inr u → -9223372036854775808≤u∧u≤0
 | 0,i,v,h,hv=>by
  refine ⟨.inr v,?_,fun u hu=>by cases hu; exact hv⟩;unfold zbs_p0;refine qAe ?_;unfold qDz;dsimp only;rw [deF (by omega),cnF]
 | j+1,i,v,h,hv=>by
  obtain ⟨d,hd⟩:∃d,d=(bAt t i - 48) % 256:=⟨_,rfl⟩;have hd2:0≤d∧d<256:=by omega
  obtain ⟨l1,l2⟩:=tdiv_low (-9223372036854775808+d) (by omega) (by omega);have l3 : -9223372036854775808≤Int.tdiv (-9223372036854775808+d) 10:=by omega
  have step:qDz v (i:Int) t=if v<Int.tdiv (-9223372036854775808+d) 10 then some (.inr (.inl (0,false))) else some (.inl (10*v - d,((i+1:Nat):Int))):=by
   unfold qDz;rw [←hd,deT (by omega),cnT];refine (qAb (by omega) _).trans ?_;refine (qAb (by unfold qAc; omega) _).trans ?_;refine (qAb (by unfold qAc; omega) _).trans ?_;refine (qAb ⟨by decide,by unfold qAc; omega⟩ _).trans ?_;by_cases hl:v<Int.tdiv (-9223372036854775808+d) 10
   ·rw [deT hl,cnT,if_pos hl]
   ·rw [deF hl,cnF,if_neg hl];refine (qAb (by unfold qAc; omega) _).trans ?_;refine (qAb (by unfold qAc; omega) _).trans ?_;exact qAb (by unfold qAc; omega) _
  by_cases hl:v<Int.tdiv (-9223372036854775808+d) 10
  ·rw [if_pos hl] at step;refine ⟨.inl (0,false),?_,fun u hu=>by cases hu⟩;unfold zbs_p0;exact qAe step
  ·rw [if_neg hl] at step;obtain ⟨y,h1,h2⟩:=whole_loop t hs j (i+1) (10*v - d) (by omega) (by omega);refine ⟨y,?_,h2⟩;unfold zbs_p0 at h1 ⊢;rw [qAh step];exact h1
theorem whole_total (s:BA) (hs:s.size≤3000000):∃r,zbs_s s=some r:=by
 have hx:=p_Read s (by omega);have hz:=read_text s;obtain ⟨y,hy,hy2⟩:=whole_loop (qAv s).text (by omega) (qAv s).text.size 0 0 (by omega) (by omega);unfold zbs_s;rw [hx,obS];cases hc:((!qE3 s) || (!(rnum (qAv s)).plain)) with
 | true=>exact ⟨_,by rw [cnT]⟩
 | false =>
  rw [cnF];have hy':zbs_p0 0 0 (rnum (qAv s)).text=some y:=hy;dsimp only;rw [hy',obS];cases y with
  | inl z=>exact ⟨_,rfl⟩
  | inr u =>
   have:=hy2 u rfl;dsimp only [Sum.elim_inr];cases (rnum (qAv s)).minus with
   | true=>exact ⟨_,rfl⟩
   | false =>
    rw [cnF];by_cases h0:u = -9223372036854775808
    ·rw [deT h0,cnT]; exact ⟨_,rfl⟩
    ·rw [deF h0,cnF];exact ⟨_,qAb (by unfold qAc; omega) _⟩
theorem valid_total (s:BA) (hs:s.size≤3000000):∃r,zbr_s s=some r:=by
 unfold zbr_s;rw [p_Read s (by omega)];exact ⟨_,rfl⟩
theorem cond_ex {α:Type} {c:Bool} {a b:Option α} {P:α→Prop} (h1:∃x,a=some x∧P x) (h2:∃x,b=some x∧P x):∃x,(bif c then a else b)=some x∧P x:=by
 cases c
 ·exact h2
 ·exact h1
theorem bounds_some (c:Int):∃x,zcb_s c=some x∧x.1≤3:=by
 have k:∀a b d:Int,a≤3→∃x,(some (a,b,d):Option (Int × Int × Int))=some x∧x.1≤3:=fun a b d h=>⟨_,rfl,h⟩
 unfold zcb_s;exact cond_ex (k _ _ _ (by decide)) (cond_ex (k _ _ _ (by decide)) (cond_ex (k _ _ _ (by decide)) (cond_ex (k _ _ _ (by decide)) (cond_ex (k _ _ _ (by decide)) (cond_ex (k _ _ _ (by decide)) (cond_ex (k _ _ _ (by decide)) (k _ _ _ (by decide))))))))
theorem bAt_byte (t:BA) (i:Int) : -1≤bAt t i∧bAt t i≤255:=by
 unfold bAt;split
 ·split
  ·rename_i b _;have:=b.toNat_lt;omega
  ·omega
 ·omega
theorem byteAt_some (t:BA) (at_:Int) (h0:0≤at_):zcc_s t at_=some (if (t.size:Int)≤at_ then -1 else bAt t at_)∧(0≤(if (t.size:Int)≤at_ then -1 else bAt t at_)→at_<t.size):=by
 have:=bAt_byte t at_;unfold zcc_s;by_cases h:(t.size:Int)≤at_
 ·rw [deT h,cnT,if_pos h];exact ⟨rfl,fun h=>by omega⟩
 ·rw [deF h,cnF,if_neg h];refine ⟨(qAb (by omega) _).trans (qAb (by unfold qAc; omega) _),fun _=>by omega⟩
theorem seq_loop (t:BA) (a:Nat) (n:Int) (hn:n≤3) (ha:a≤t.size) (hs:t.size≤3000000):∀(j:Nat) (i:Int) (lo hi:Int),1≤i→n+1 - i≤j→a+i≤t.size→∃y,zcf_p0 t (a:Int) n lo hi i=some y∧((∃z,y=.inl z∧z.2.2.1≠0)∨(y=.inr ()∧a+n+1≤max (t.size:Int) (a+i)))
 | 0,i,lo,hi,h1,h2,h3=>by
  refine ⟨.inr (),?_,.inr ⟨rfl,by omega⟩⟩;unfold zcf_p0;refine qAe ?_;unfold qC0;dsimp only;rw [deF (by omega),cnF]
 | j+1,i,lo,hi,h1,h2,h3=>by
  by_cases hin:i≤n
  ·obtain ⟨b1,b2⟩:=byteAt_some t (a+i) (by omega);generalize hc:(if (t.size:Int)≤a+i then (-1:Int) else bAt t (a+i))=c at b1 b2
   have step:qC0 t (a:Int) n lo hi i=if c<0 then some (.inr (.inl (0,⟨#[]⟩,31,(t.size:Int),[]))) else bif (decide (c<lo) || decide (hi<c)) then some (.inr (.inl (0,⟨#[]⟩,32,(a:Int),[]))) else some (.inl (128,191,i+1)):=by
    unfold qC0;rw [deT hin,cnT];refine (qAb (by unfold qAc; omega) _).trans ?_;rw [b1,obS];by_cases h:c<0
    ·rw [deT h,cnT,if_pos h]; rfl
    ·rw [deF h,cnF,if_neg h];cases (decide (c<lo) || decide (hi<c)) with
     | true=>rfl
     | false=>exact qAb (by unfold qAc; omega) _
   by_cases h:c<0
   ·rw [if_pos h] at step;refine ⟨.inl (0,⟨#[]⟩,31,(t.size:Int),[]),?_,.inl ⟨_,rfl,show (31:Int)≠0 by decide⟩⟩;unfold zcf_p0;exact qAe step
   ·rw [if_neg h] at step;cases hb:(decide (c<lo) || decide (hi<c)) with
    | true =>
     rw [hb] at step;refine ⟨.inl (0,⟨#[]⟩,32,(a:Int),[]),?_,.inl ⟨_,rfl,show (32:Int)≠0 by decide⟩⟩;unfold zcf_p0;exact qAe step
    | false =>
     rw [hb] at step;have hlt:=b2 (by omega);obtain ⟨y,g1,g2⟩:=seq_loop t a n hn ha hs j (i+1) 128 191 (by omega) (by omega) (by omega);refine ⟨y,?_,?_⟩
     ·unfold zcf_p0 at g1 ⊢;rw [qAh step];exact g1
     ·rcases g2 with g2 | ⟨g2,g3⟩
      ·exact .inl g2
      ·exact .inr ⟨g2,by omega⟩
  ·refine ⟨.inr (),?_,.inr ⟨rfl,by omega⟩⟩;unfold zcf_p0;refine qAe ?_;unfold qC0;dsimp only;rw [deF hin,cnF]
theorem seq_some (t:BA) (a:Nat) (ha:a<t.size) (hs:t.size≤3000000):∃g,zcf_s t (a:Int)=some g∧(g.code=0→∃b:Nat,g.at_=b∧a<b∧b≤t.size):=by
 obtain ⟨x,h1,h2⟩:=bounds_some (bAt t a);have hb:=bAt_byte t a;unfold zcf_s;rw [qAb (by omega),qAb (by unfold qAc; omega),h1,obS];by_cases hn:x.1<0
 ·rw [deT hn,cnT];exact ⟨_,rfl,fun h=>by cases h⟩
 ·rw [deF hn,cnF];obtain ⟨y,g1,g2⟩:=seq_loop t a x.1 h2 (by omega) hs 3 1 x.2.1 x.2.2 (by omega) (by omega) (by omega);rw [g1,obS];rcases g2 with ⟨z,rfl,hz⟩ | ⟨rfl,hz⟩
  ·exact ⟨_,rfl,fun h=>(hz h).elim⟩
  ·have hle:(a:Int)+x.1+1≤t.size:=by omega
   refine ⟨⟨((a:Int)+x.1+1),[],t.extract (Int.toNat (a:Int)) (Int.toNat ((a:Int)+x.1+1)),0,0⟩,?_,fun _=>⟨((a:Int)+x.1+1).toNat,?_,by omega,by omega⟩⟩
   ·exact (qAb (by unfold qAc; omega) _).trans ((qAb (by unfold qAc; omega) _).trans ((qAb (by unfold qAc; omega) _).trans ((qAb (by unfold qAc; omega) _).trans (qAb (by omega) _))))
   ·show (a:Int)+x.1+1=_;omega
theorem utf_loop (s:BA) (hs:s.size≤3000000):∀(j a:Nat),s.size - a≤j→a≤s.size→∃y,zch_p0 s (a:Int)=some y
 | 0,a,h1,h2=>by
  refine ⟨.inr (),?_⟩;unfold zch_p0;refine qAe ?_;unfold qC1;rw [deF (by omega),cnF]
 | j+1,a,h1,h2=>by
  by_cases hlt:a<s.size
  ·have hstep:∃y,qC1 s (a:Int)=some y∧((∃z,y=.inr z)∨∃b:Nat,y=.inl (b:Int)∧a<b∧b≤s.size):=by
    unfold qC1;rw [deT (by omega),cnT,qAb (by omega)];by_cases hc:bAt s a<128
    ·rw [deT hc,cnT];exact ⟨_,qAb (by unfold qAc; omega) _,.inr ⟨a+1,rfl,by omega,by omega⟩⟩
    ·rw [deF hc,cnF];obtain ⟨g,g1,g2⟩:=seq_some s a hlt hs;rw [g1,obS];by_cases h0:g.code=0
     ·rw [deT h0,Bool.not_true,cnF];obtain ⟨b,e1,e2,e3⟩:=g2 h0;exact ⟨_,rfl,.inr ⟨b,by rw [e1],e2,e3⟩⟩
     ·rw [deF h0,Bool.not_false,cnT];exact ⟨_,rfl,.inl ⟨_,rfl⟩⟩
   obtain ⟨y,h3,h4⟩:=hstep;rcases h4 with ⟨z,rfl⟩ | ⟨b,rfl,h5,h6⟩
   ·refine ⟨z,?_⟩;unfold zch_p0;exact qAe h3
   ·obtain ⟨y,h7⟩:=utf_loop s hs j b (by omega) h6;refine ⟨y,?_⟩;unfold zch_p0 at h7 ⊢;rw [qAh h3];exact h7
  ·refine ⟨.inr (),?_⟩;unfold zch_p0;refine qAe ?_;unfold qC1;rw [deF (by omega),cnF]
theorem utf_total (s:BA) (hs:s.size≤3000000):∃b,zch_s s=some b:=by
 obtain ⟨y,hy⟩:=utf_loop s hs s.size 0 (by omega) (by omega);unfold zch_s;rw [show ((0:Nat):Int)=0 from rfl] at hy;rw [hy,obS];cases y <;> exact ⟨_,rfl⟩
theorem plain_total (n:Eng.Node) (hn:OkN n):∃b,zce_s n=some b∧(b=true→0≤n.kids∧(0<n.kids→6≤n.kind)):=by
 obtain ⟨w,hw⟩:=whole_total n.text hn.text;obtain ⟨u,hu⟩:=valid_total n.text hn.text;obtain ⟨x,hx⟩:=utf_total n.text hn.text;unfold zce_s;cases hc:(((decide (n.kind<1) || decide (7<n.kind)) || decide (n.kids<0)) || (decide (0<n.kids) && decide (n.kind<6))) with
 | true=>exact ⟨false,by rw [cnT],fun h=>by cases h⟩
 | false =>
  rw [cnF,hw,obS,hu,obS,hx,obS];have hk:0≤n.kids∧(0<n.kids→6≤n.kind):=by
   simp only [Bool.or_eq_false_iff,Bool.and_eq_false_iff,decide_eq_false_iff_not] at hc;omega
  have go:∀o:Option Bool,(∃b,o=some b)→∃b,o=some b∧(b=true→0≤n.kids∧(0<n.kids→6≤n.kind)):=fun o ⟨b,h⟩=>⟨b,h,fun _=>hk⟩
  refine go _ ?_;cases decide (n.kind=4) with
  | true=>exact ⟨_,rfl⟩
  | false =>
   rw [cnF];cases (n.whole || !decide (n.int=0)) with
   | true=>exact ⟨_,rfl⟩
   | false =>
    rw [cnF];cases decide (n.kind=5) <;> exact ⟨_,rfl⟩
theorem among_loop (s:BA) (l:List BA) (hl:l.length≤2000000):∀(j i:Nat),i+j=l.length→∃y,zca_p0 s (i:Int) l=some y
 | 0,i,h=>by
  refine ⟨.inr (),?_⟩;unfold zca_p0;refine qAe ?_;unfold qD3;rw [deF (by omega),cnF]
 | j+1,i,h=>by
  cases hd:decide (l.getD i (ET.dft .str)=s) with
  | true =>
   refine ⟨.inl true,?_⟩;unfold zca_p0;refine qAe ?_;unfold qD3;rw [deT (by omega),cnT,qAb (by omega),qAb (by omega),Int.toNat_natCast,hd,cnT]
  | false =>
   obtain ⟨y,hy⟩:=among_loop s l hl j (i+1) (by omega);refine ⟨y,?_⟩;unfold zca_p0 at hy ⊢;rw [qAh (y:=((i+1:Nat):Int)) ?_]
   ·exact hy
   ·unfold qD3;rw [deT (by omega),cnT,qAb (by omega),qAb (by omega),Int.toNat_natCast,hd,cnF];exact qAb (by unfold qAc; omega) _
theorem among_total (l:List BA) (hl:l.length≤2000000) (s:BA):∃b,zca_s l s=some b:=by
 obtain ⟨y,hy⟩:=among_loop s l hl l.length 0 (by omega);unfold zca_s;rw [show ((0:Nat):Int)=0 from rfl] at hy;rw [hy,obS];cases y <;> exact ⟨_,rfl⟩
def Told (v:List Eng.Node) (a:Nat) (r:Int):Prop:=r = -1∨∃e:Nat,r=e∧Tree v a e
theorem Told.lt {v:List Eng.Node} {a:Nat} {r:Int} (h:Told v a r) (h0:¬r<0):∃e:Nat,r=e∧Tree v a e∧a<e∧e≤v.length∧a<v.length:=by
 rcases h with h | ⟨e,h1,h2⟩
 ·omega
 ·have:=Trees.le h2;exact ⟨e,h1,h2,by omega,this.2,by omega⟩
theorem take_loop {v:List Eng.Node} (hv:OkL v) {a:Nat} {open_:Int} (ho:0≤open_∧open_≤32) (kd:Int) {kids:Nat} (hk:(kids:Int)≤9223372036854775807)
  (ans:Nat→Bool→Int) (hans:∀(b:Nat) (obj:Bool),a<b→0<kids→Told v b (ans b obj)) :
  ∀(m next i:Nat) (names:List BA),v.length - next≤m→a<next→next≤v.length→names.length=i→i≤kids→Trees v i (a+1) next →
   ∃y,(∀self:List Eng.Node→Int→Bool→Int→Option Int,(∀(b:Nat) (obj:Bool),a<b→0<kids→self v (b:Int) obj (open_+1)=some (ans b obj))→zcg_p0 self open_ (next:Int) (i:Int) v kd (kids:Int) names=some y)∧((y=.inl (-1))∨∃e:Nat,y=.inr (e:Int)∧Trees v kids (a+1) e):=by
 intro m;induction m with
 | zero =>
  intro next i names h1 h2 h3 h4 h5 h6;have hlen:=hv.1;by_cases hik:i<kids
  ·have r2:=hans next (decide (kd=7)) h2 (by omega);generalize hrr:ans next (decide (kd=7))=r at r2
   have hr:r<0:=by
    by_cases h0:r<0
    ·exact h0
    ·obtain ⟨e,_,_,_,_,h⟩:=r2.lt h0;omega
   refine ⟨.inl (-1),fun self hself=>?_,.inl rfl⟩;have r1:=hself next (decide (kd=7)) h2 (by omega);rw [hrr] at r1;unfold zcg_p0;refine qAe ?_;unfold qBw;dsimp only;rw [deT (by omega),cnT,qAb (by unfold qAc; omega),r1,obS,deT hr];rw [qAb (fun _ h=>by cases h),qAb (fun _ h=>by cases h),qAb (fun _ h=>by cases h),cnT]
  ·have:i=kids:=by omega
   subst this;refine ⟨.inr (next:Int),fun self hself=>?_,.inr ⟨next,rfl,h6⟩⟩;unfold zcg_p0;refine qAe ?_;unfold qBw;dsimp only;rw [deF (by omega),cnF]
 | succ m ih =>
  intro next i names h1 h2 h3 h4 h5 h6;have hlen:=hv.1;by_cases hik:i<kids
  ·have r2:=hans next (decide (kd=7)) h2 (by omega);generalize hrr:ans next (decide (kd=7))=r at r2
   by_cases hr:r<0
   ·refine ⟨.inl (-1),fun self hself=>?_,.inl rfl⟩;have r1:=hself next (decide (kd=7)) h2 (by omega);rw [hrr] at r1;unfold zcg_p0;refine qAe ?_;unfold qBw;dsimp only;rw [deT (by omega),cnT,qAb (by unfold qAc; omega),r1,obS,deT hr];rw [qAb (fun _ h=>by cases h),qAb (fun _ h=>by cases h),qAb (fun _ h=>by cases h),cnT]
   ·obtain ⟨e,rfl,ht,e1,e2,e3⟩:=r2.lt hr;have htt:Trees v (i+1) (a+1) e:=by
     have:=h6.app ht;rwa [Nat.add_comm] at this
    have hil:(i:Int)+1+(a+1)≤e:=by
     have:=htt.le;omega
    obtain ⟨n,_,hmem,hget⟩:=nd_some e3;obtain ⟨y,y1,y2⟩:=ih e (i+1) (names++[n.key]) (by omega) (by omega) e2 (by simp [h4]) (by omega) htt;have hg:∀ {R:Type} (k:Option R),gd (names.length+([n.key]:List BA).length≤9223372036854775807∧(names.length+([n.key]:List BA).length)*16≤140737488355328) k=k:=fun k=>qAb (by simp only [List.length_singleton,h4]; omega) k
    have round:∀self:List Eng.Node→Int→Bool→Int→Option Int,(∀(b:Nat) (obj:Bool),a<b→0<kids→self v (b:Int) obj (open_+1)=some (ans b obj)) →
      qBw self open_ (next:Int) (i:Int) v kd (kids:Int) names=bif decide (kd=7) then (zca_s names n.key).bind (fun b=>bif b then some (.inr (.inl (-1))) else some (.inl ((e:Int),((i+1:Nat):Int),names++[n.key]))) else some (.inl ((e:Int),((i+1:Nat):Int),names++[n.key])):=by
     intro self hself;have r1:=hself next (decide (kd=7)) h2 (by omega);rw [hrr] at r1;unfold qBw;rw [deT (show (i:Int)<(kids:Int) by omega),cnT,qAb (by unfold qAc; omega),r1,obS,deF hr,cnF];rw [qAb (fun _ _=>by omega),qAb (fun _ _=>by omega),qAb (fun _ _=>by omega)];simp only [Int.toNat_natCast,hget];by_cases h7:kd=7
     ·rw [deT h7,cnT,cnT];congr 1
      funext b
      cases b with
      | true=>rfl
      | false =>
       rw [cnF,qAb (by omega),qAb (by omega),qAb (by omega),hg,qAb (by unfold qAc; omega)];rfl
     ·rw [deF h7,cnF,cnF,qAb (by omega),qAb (by omega),qAb (by omega),hg,qAb (by unfold qAc; omega)];rfl
    have more:(∀self:List Eng.Node→Int→Bool→Int→Option Int,(∀(b:Nat) (obj:Bool),a<b→0<kids→self v (b:Int) obj (open_+1)=some (ans b obj)) →
      qBw self open_ (next:Int) (i:Int) v kd (kids:Int) names=some (.inl ((e:Int),((i+1:Nat):Int),names++[n.key]))) →
      ∃y,(∀self:List Eng.Node→Int→Bool→Int→Option Int,(∀(b:Nat) (obj:Bool),a<b→0<kids→self v (b:Int) obj (open_+1)=some (ans b obj))→zcg_p0 self open_ (next:Int) (i:Int) v kd (kids:Int) names=some y)∧((y=.inl (-1))∨∃e:Nat,y=.inr (e:Int)∧Trees v kids (a+1) e):=by
     intro hst;refine ⟨y,fun self hself=>?_,y2⟩;have y3:=y1 self hself;unfold zcg_p0 at y3 ⊢;rw [qAh (hst self hself)];exact y3
    by_cases h7:kd=7
    ·obtain ⟨b,hb⟩:=among_total names (by omega) n.key;cases b with
     | true =>
      refine ⟨.inl (-1),fun self hself=>?_,.inl rfl⟩;have:=round self hself;rw [deT h7,cnT,hb,obS,cnT] at this;unfold zcg_p0;exact qAe this
     | false =>
      refine more fun self hself=>?_
      have:=round self hself;rwa [deT h7,cnT,hb,obS,cnF] at this
    ·refine more fun self hself=>?_
     have:=round self hself;rwa [deF h7,cnF] at this
  ·have:i=kids:=by omega
   subst this;refine ⟨.inr (next:Int),fun self hself=>?_,.inr ⟨next,rfl,h6⟩⟩;unfold zcg_p0;refine qAe ?_;unfold qBw;dsimp only;rw [deF (by omega),cnF]
theorem take_total {v:List Eng.Node} (hv:OkL v):∀(m a:Nat) (obj:Bool) (open_:Int),v.length - a≤m→0≤open_∧open_≤32→∃r,(∀n,m<n→zcg_n n v (a:Int) obj open_=some r)∧Told v a r:=by
 intro m;induction m with
 | zero =>
  intro a obj open_ h1 h2;refine ⟨-1,fun n hn=>?_,.inl rfl⟩;cases n with
  | zero=>omega
  | succ n =>
   show zcg_t (zcg_n n) v a obj open_=_;unfold zcg_t;rw [deT (by omega),cnT]
 | succ m ih =>
  intro a obj open_ h1 h2;by_cases ha:a<v.length
  ·obtain ⟨nd,hnd,hmem,hget⟩:=nd_some ha;obtain ⟨p,hp,hp2⟩:=plain_total nd (hv.2 nd hmem);obtain ⟨u,hu⟩:=utf_total nd.key (hv.2 nd hmem).key;have hlen:=hv.1;have hki:=(hv.2 nd hmem).kids;unfold qAc at hki;cases hc:((((!p) || (!u)) || ((!obj) && (!decide (nd.key=⟨#[]⟩)))) || (decide (6≤nd.kind) && decide (open_=32))) with
   | true =>
    refine ⟨-1,fun n hn=>?_,.inl rfl⟩;cases n with
    | zero=>omega
    | succ n =>
     show zcg_t (zcg_n n) v a obj open_=_;unfold zcg_t;rw [deF (by omega),cnF,qAb (by omega),qAb (by omega),Int.toNat_natCast,hget,hp,obS,hu,obS,hc,cnT]
   | false =>
    have hpt:p=true:=by
     cases p
     ·simp at hc
     ·rfl
    obtain ⟨k0,k6⟩:=hp2 hpt;have hop:0<nd.kids→open_<32:=fun h=>by
     have h6:=k6 h;rw [Bool.or_eq_false_iff] at hc;have:=hc.2;rw [deT h6,Bool.true_and,decide_eq_false_iff_not] at this;omega
    obtain ⟨kk,hkk⟩:=Int.eq_ofNat_of_zero_le k0;have hch:∀(b:Nat) (ob:Bool),a<b→0<kk→∃r,(∀n,m<n→zcg_n n v (b:Int) ob (open_+1)=some r)∧Told v b r:=fun b ob hb hk=>ih b ob (open_+1) (by omega) (by have:=hop (by omega); omega)
    obtain ⟨ans,hans⟩:∃ans:Nat→Bool→Int,∀(b:Nat) (ob:Bool),a<b→0<kk→(∀n,m<n→zcg_n n v (b:Int) ob (open_+1)=some (ans b ob))∧Told v b (ans b ob) :=
     ⟨fun b ob=>if h:a<b∧0<kk then (hch b ob h.1 h.2).choose else 0,fun b ob h1 h2=>by
      simp only [dif_pos (And.intro h1 h2)];exact (hch b ob h1 h2).choose_spec⟩
    obtain ⟨y,hy1,hy2⟩:=take_loop hv (a:=a) h2 nd.kind (kids:=kk) (by omega) ans (fun b ob hb hk=>(hans b ob hb hk).2) v.length (a+1) 0 [] (by omega) (by omega) (by omega) rfl (by omega) (Trees.nil _ (by omega));refine ⟨Sum.elim id id y,fun n hn=>?_,?_⟩
    ·cases n with
     | zero=>omega
     | succ n =>
      show zcg_t (zcg_n n) v a obj open_=_;unfold zcg_t;rw [deF (by omega),cnF,qAb (by omega),qAb (by omega),Int.toNat_natCast,hget,hp,obS,hu,obS,hc,cnF,qAb (by unfold qAc; omega),hkk];have:=hy1 (zcg_n n) fun b ob hb hk=>(hans b ob hb hk).1 n (by omega)
      rw [show ((a+1:Nat):Int)=(a:Int)+1 by omega,show ((0:Nat):Int)=0 from rfl] at this;rw [this,obS];cases y <;> rfl
    ·rcases hy2 with rfl | ⟨e,rfl,he⟩
     ·exact .inl rfl
     ·refine .inr ⟨e,rfl,Tree.mk hnd k0 ?_⟩;rw [hkk];exact he
  ·refine ⟨-1,fun n hn=>?_,.inl rfl⟩;cases n with
   | zero=>omega
   | succ n =>
    show zcg_t (zcg_n n) v a obj open_=_;unfold zcg_t;rw [deT (by omega),cnT]
theorem take_some {v:List Eng.Node} (hv:OkL v) (a:Nat) (obj:Bool) (open_:Int) (ho:0≤open_∧open_≤32):∃r,zcg_s v (a:Int) obj open_=some r∧Told v a r:=by
 obtain ⟨r,h1,h2⟩:=take_total hv v.length a obj open_ (by omega) ho;exact ⟨r,evt_eq (N:=v.length+1) fun n hn=>h1 n (by omega),h2⟩
theorem shaped_some {v:List Eng.Node} (hv:OkL v):∃b,zbz_s v=some b∧(b=true→Tree v 0 v.length):=by
 unfold zbz_s;by_cases h0:0<v.length
 ·obtain ⟨r,h1,h2⟩:=take_some hv 0 false 0 (by omega);rw [show ((0:Nat):Int)=0 from rfl] at h1;rw [deT (by omega),cnT,h1,obS];refine ⟨_,rfl,fun h=>?_⟩;have h:=of_decide_eq_true h;rcases h2 with h2 | ⟨e,h2,h3⟩
  ·omega
  ·have:e=v.length:=by omega
   rwa [this] at h3
 ·rw [deF (by omega),cnF];exact ⟨false,rfl,fun h=>by cases h⟩
theorem w64_id {x:Int} (h:qAc x):w64 x=x:=by
 unfold qAc at h;unfold w64 IntKind.wrap;simp [IntKind.signed,IntKind.bits];omega
def jbF (v:List Eng.Node):Nat→Int→Nat→Nat
 | 0,_,a=>a
 | f+1,left,a=>if 0<left∧a<v.length then jbF v f (w64 (left+w64 ((v.getD a (ET.dft .node)).kids - 1))) (a+1) else a
theorem jbF_le (v:List Eng.Node):∀(f:Nat) (left:Int) (a:Nat),a≤jbF v f left a∧(a≤v.length→jbF v f left a≤v.length)
 | 0,_,a=>⟨Nat.le_refl _,fun h=>h⟩
 | f+1,left,a=>by
  unfold jbF;split
  ·rename_i h;obtain ⟨h1,h2⟩:=jbF_le v f (w64 (left+w64 ((v.getD a (ET.dft .node)).kids - 1))) (a+1);exact ⟨by omega,fun _=>h2 (by omega)⟩
  ·exact ⟨Nat.le_refl _,fun h=>h⟩
theorem p_jb (v:List Eng.Node) (hv:v.length≤2000000):∀(f:Nat) (left:Int) (a:Nat),v.length - a≤f→zaq_p0 (a:Int) left v=some (jbF v f left a:Int)
 | 0,left,a,h=>by
  unfold zaq_p0;refine qAe ?_;unfold qDr;dsimp only;rw [deF (show ¬(a:Int)<v.length by omega),Bool.and_false,cnF];rfl
 | f+1,left,a,h=>by
  unfold jbF;by_cases hc:0<left∧a<v.length
  ·rw [if_pos hc];have ih:=p_jb v hv f (w64 (left+w64 ((v.getD a (ET.dft .node)).kids - 1))) (a+1) (by omega);unfold zaq_p0 at ih ⊢;rw [qAh (y:=(((a+1:Nat):Int),w64 (left+w64 ((v.getD a (ET.dft .node)).kids - 1)))) ?_]
   ·exact ih
   ·unfold qDr;dsimp only;rw [deT hc.1,deT (show (a:Int)<v.length by omega),Bool.and_self,cnT,qAb (by omega),qAb (by omega),qAb (by omega),qAb (by unfold qAc; omega)];rfl
  ·rw [if_neg hc];unfold zaq_p0;refine qAe ?_;unfold qDr;dsimp only;have:(decide (0<left) && decide ((a:Int)<v.length))=false:=by
    rw [Bool.and_eq_false_iff,decide_eq_false_iff_not,decide_eq_false_iff_not];omega
   rw [this,cnF]
theorem p_jBehind (v:List Eng.Node) (hv:v.length≤2000000) {a:Nat} (ha:a<v.length):zaq_s v (a:Int)=some (jbF v (v.length - a) 1 a:Int):=by
 unfold zaq_s;rw [deF (show ¬(a:Int)<0 by omega),deF (show ¬(v.length:Int)≤a by omega),Bool.or_self,cnF,p_jb v hv (v.length - a) 1 a (Nat.le_refl _)];rfl
theorem p_jBehind_out (v:List Eng.Node) {a:Int} (ha:a<0∨(v.length:Int)≤a):zaq_s v a=some (-1):=by
 unfold zaq_s;have:(decide (a<0) || decide ((v.length:Int)≤a))=true:=by
  rw [Bool.or_eq_true,decide_eq_true_eq,decide_eq_true_eq]; exact ha
 rw [this,cnT]
theorem jbF_trees {v:List Eng.Node} (hv:v.length≤2000000) {k a e:Nat} (h:Trees v k a e):∀(L:Nat),L+e≤4000000→jbF v (v.length - a) ((L+k:Nat):Int) a=jbF v (v.length - e) (L:Int) e:=by
 induction h with
 | nil a ha=>intro L hL; rfl
 | @cons k a b e n hn h0 h1 h2 i1 i2 =>
  intro L hL;have ha:=(List.getElem?_eq_some_iff.1 hn).1;have l1:=h1.le;have l2:=h2.le;obtain ⟨m,hm⟩:=Int.eq_ofNat_of_zero_le h0;have hmn:n.kids.toNat=m:=by omega
  rw [hmn] at i1 l1;have ih1:=i1 (L+k) (by omega);rw [i2 L hL] at ih1;rw [←ih1,show v.length - a=(v.length - (a+1))+1 by omega];conv=>lhs; unfold jbF
  rw [if_pos ⟨by omega,ha⟩,nd_get hn,hm,w64_id (x:=(m:Int) - 1) (by unfold qAc; omega),w64_id (by unfold qAc; omega)];congr 1
  omega
theorem jBehind_tree {v:List Eng.Node} (hv:v.length≤2000000) {a e:Nat} (h:Tree v a e):zaq_s v (a:Int)=some (e:Int):=by
 have hl:=Trees.le h;rw [p_jBehind v hv (by omega)];have:=jbF_trees hv h 0 (by omega);rw [show ((0+1:Nat):Int)=1 from rfl] at this;rw [this];congr 1
 cases hf:v.length - e with
 | zero=>rfl
 | succ f =>
  unfold jbF;rw [if_neg (fun h=>by have:=h.1; simp at this)]
theorem jBehind_some (v:List Eng.Node) (hv:v.length≤2000000) (a:Nat):∃r:Int,zaq_s v (a:Int)=some r∧(a<v.length→∃b:Nat,r=b∧a<b∧b≤v.length) ∧ -1≤r∧r≤2000000:=by
 by_cases ha:a<v.length
 ·obtain ⟨h1,h2⟩:=jbF_le v (v.length - a) 1 a;have h3:=h2 (by omega);refine ⟨_,p_jBehind v hv ha,fun _=>⟨_,rfl,?_,h3⟩,by omega,by omega⟩;rw [show v.length - a=(v.length - (a+1))+1 by omega];unfold jbF;rw [if_pos ⟨by omega,ha⟩];have:=(jbF_le v (v.length - (a+1)) (w64 (1+w64 ((v.getD a (ET.dft .node)).kids - 1))) (a+1)).1;omega
 ·exact ⟨-1,p_jBehind_out v (.inr (by omega)),fun h=>(ha h).elim,by omega,by omega⟩
theorem rb_loop {v:List Eng.Node} (hv:v.length≤2000000) {a:Nat} (ha:a<v.length) {kids:Nat} (hk:(v.getD a (ET.dft .node)).kids=kids) (hkb:kids≤4000000) {self:List Eng.Node→Int→Option Int} (hself:∀b e:Nat,a<b→Tree v b e→self v (b:Int)=some (e:Int)) :
  ∀(k i next e:Nat),i+k=kids→a<next→Trees v k next e→zbv_p0 self (a:Int) (next:Int) (i:Int) v=some (e:Int)
 | 0,i,next,e,h1,h2,h=>by
  have:=h.zero;subst this;unfold zbv_p0;refine qAe ?_;unfold qFk;dsimp only;rw [qAb (by omega),qAb (by omega),qAb (by omega),Int.toNat_natCast,hk,deF (show ¬(i:Int)<kids by omega),Bool.false_and,cnF]
 | k+1,i,next,e,h1,h2,h=>by
  obtain ⟨b,g1,g2⟩:=h.one;have l1:=Trees.le g1;have l3:=h.le;have ih:=rb_loop hv ha hk hkb hself k (i+1) b e (by omega) (by omega) g2;unfold zbv_p0 at ih ⊢;rw [qAh (y:=((b:Int),((i+1:Nat):Int))) ?_]
  ·exact ih
  ·unfold qFk;dsimp only;rw [qAb (by omega),qAb (by omega),qAb (by omega),Int.toNat_natCast,hk,deT (show (i:Int)<kids by omega),deT (show (0:Int)≤next by omega),Bool.and_self,cnT,hself next b h2 g1,obS];exact (qAb (by unfold qAc; omega) _).trans rfl
theorem rb_all {v:List Eng.Node} (hv:v.length≤2000000):∀(m a e:Nat),v.length - a≤m→Tree v a e→∀n,m<n→zbv_n n v (a:Int)=some (e:Int)
 | 0,a,e,h,ht,n,hn=>by
  have:=Trees.le ht;omega
 | m+1,a,e,h,ht,n,hn=>by
  obtain ⟨nd,h1,h2,h3⟩:=ht.node;have ha:=(List.getElem?_eq_some_iff.1 h1).1;have l3:=h3.le;obtain ⟨kk,hkk⟩:=Int.eq_ofNat_of_zero_le h2;rw [hkk,Int.toNat_natCast] at h3 l3;cases n with
  | zero=>omega
  | succ n =>
   show zbv_t (zbv_n n) v a=_;unfold zbv_t;rw [deF (show ¬(a:Int)<0 by omega),deF (show ¬(v.length:Int)≤a by omega),Bool.or_self,cnF,qAb (by unfold qAc; omega)];have:=rb_loop hv ha (kids:=kk) (by rw [nd_get h1,hkk]) (by omega) (self:=zbv_n n) (fun b e' hb hb2=>rb_all hv m b e' (by omega) hb2 n (by omega)) kk 0 (a+1) e (by omega) (by omega) h3;rw [show ((a+1:Nat):Int)=(a:Int)+1 by omega,show ((0:Nat):Int)=0 from rfl] at this;rw [this];rfl
theorem rBehind_tree {v:List Eng.Node} (hv:v.length≤2000000) {a e:Nat} (h:Tree v a e):zbv_s v (a:Int)=some (e:Int) :=
 evt_eq (N:=v.length+1) fun n hn=>rb_all hv v.length a e (by omega) h n (by omega)
def upN (l:List Nat):List Int:=l.map fun x:Nat=>(x:Int)
theorem upN_len (l:List Nat):(upN l).length=l.length:=by simp [upN]
theorem r_kids_loop {v:List Eng.Node} (hv:v.length≤2000000) {a:Nat} (ha:a<v.length) {kids:Nat} (hk:(v.getD a (ET.dft .node)).kids=kids) (hkb:kids≤4000000) :
  ∀(k i next e:Nat) (l:List Nat) (out:List Int),i+k=kids→out.length=i→Trees v k next e→placesT v k next l e→zbx_p0 (a:Int) (next:Int) (i:Int) v out=some (out++upN l)
 | 0,i,next,e,l,out,h1,ho,h,hp=>by
  obtain ⟨rfl,rfl⟩:=hp;unfold zbx_p0;refine qAe ?_;unfold qFl;dsimp only;rw [qAb (by omega),qAb (by omega),qAb (by omega),Int.toNat_natCast,hk,deF (show ¬(i:Int)<kids by omega),Bool.false_and,Bool.false_and,cnF];simp [upN]
 | k+1,i,next,e,l,out,h1,ho,h,hp=>by
  obtain ⟨b,r,rfl,g1,g3⟩:=hp;obtain ⟨b',g1',g2⟩:=h.one;have:=Trees.det g1 g1';subst this;have l1:=Trees.le g1;have ih:=r_kids_loop hv ha hk hkb k (i+1) b e r (out++[(next:Int)]) (by omega) (by simp [ho]) g2 g3;unfold zbx_p0 at ih ⊢;rw [qAh (y:=((b:Int),((i+1:Nat):Int),out++[(next:Int)])) ?_]
  ·rw [ih];simp [upN]
  ·unfold qFl;dsimp only;rw [qAb (by omega),qAb (by omega),qAb (by omega),Int.toNat_natCast,hk,deT (show (i:Int)<kids by omega),deT (show (0:Int)≤next by omega),deT (show (next:Int)<v.length by omega),Bool.and_self,Bool.and_self,cnT];rw [qAb (by simp only [List.length_singleton,ho]; omega),rBehind_tree hv g1,obS];exact (qAb (by unfold qAc; omega) _).trans rfl
theorem r_kids {v:List Eng.Node} (hv:v.length≤2000000) {a e:Nat} {nd:Eng.Node} (h1:v[a]?=some nd) (h2:0≤nd.kids) (h3:Trees v nd.kids.toNat (a+1) e) {l:List Nat} (hl:placesT v nd.kids.toNat (a+1) l e):zbx_s v (a:Int)=some (upN l):=by
 have ha:=(List.getElem?_eq_some_iff.1 h1).1;have l3:=h3.le;obtain ⟨kk,hkk⟩:=Int.eq_ofNat_of_zero_le h2;rw [hkk,Int.toNat_natCast] at h3 l3 hl;unfold zbx_s;rw [deF (show ¬(a:Int)<0 by omega),deF (show ¬(v.length:Int)≤a by omega),Bool.or_self,cnF,qAb (by unfold qAc; omega)];have:=r_kids_loop hv ha (kids:=kk) (by rw [nd_get h1,hkk]) (by omega) kk 0 (a+1) e l [] (by omega) rfl h3 hl;rw [show ((a+1:Nat):Int)=(a:Int)+1 by omega,show ((0:Nat):Int)=0 from rfl] at this;rw [this];rfl
def findK (v:List Eng.Node) (key:BA):List Nat→Option Nat
 | []=>none
 | p::r=>if (v.getD p (ET.dft .node)).key=key then some p else findK v key r
theorem j_mem_loop {v:List Eng.Node} (hv:v.length≤2000000) {a:Nat} (ha:a<v.length) {kids:Nat} (hk:(v.getD a (ET.dft .node)).kids=kids) (hkb:kids≤4000000) (key:BA) :
  ∀(k i next e:Nat) (l:List Nat),i+k=kids→Trees v k next e→placesT v k next l e→zar_p0 (a:Int) key (next:Int) (i:Int) v=some (match findK v key l with | some p=>.inl (p:Int) | none=>.inr ())
 | 0,i,next,e,l,h1,h,hp=>by
  obtain ⟨rfl,rfl⟩:=hp;unfold zar_p0;refine qAe ?_;unfold qBv;dsimp only;rw [qAb (by omega),qAb (by omega),qAb (by omega),Int.toNat_natCast,hk,deF (show ¬(i:Int)<kids by omega),Bool.false_and,Bool.false_and,cnF];rfl
 | k+1,i,next,e,l,h1,h,hp=>by
  obtain ⟨b,r,rfl,g1,g3⟩:=hp;obtain ⟨b',g1',g2⟩:=h.one;have:=Trees.det g1 g1';subst this;have l1:=Trees.le g1;have ih:=j_mem_loop hv ha hk hkb key k (i+1) b e r (by omega) g2 g3;unfold findK;by_cases hkey:(v.getD next (ET.dft .node)).key=key
  ·rw [if_pos hkey];unfold zar_p0;refine qAe ?_;unfold qBv;dsimp only;rw [qAb (by omega),qAb (by omega),qAb (by omega),Int.toNat_natCast,hk,deT (show (i:Int)<kids by omega),deT (show (0:Int)≤next by omega),deT (show (next:Int)<v.length by omega),Bool.and_self,Bool.and_self,cnT];rw [qAb (by omega),qAb (by omega),qAb (by omega),Int.toNat_natCast,deT hkey,cnT]
  ·rw [if_neg hkey,←ih];unfold zar_p0;rw [qAh (y:=((b:Int),((i+1:Nat):Int))) ?_];unfold qBv;dsimp only;rw [qAb (by omega),qAb (by omega),qAb (by omega),Int.toNat_natCast,hk,deT (show (i:Int)<kids by omega),deT (show (0:Int)≤next by omega),deT (show (next:Int)<v.length by omega),Bool.and_self,Bool.and_self,cnT];rw [qAb (by omega),qAb (by omega),qAb (by omega),Int.toNat_natCast,deF hkey,cnF,jBehind_tree hv g1,obS];exact (qAb (by unfold qAc; omega) _).trans rfl
theorem r_mem_loop {v:List Eng.Node} (hv:v.length≤2000000) (key:BA) {L:List Nat} (hL:L.length≤4000000) (hin:∀p∈L,p<v.length) :
  ∀(pre l:List Nat),L=pre++l→zby_p0 key (pre.length:Int) v (upN L)=some (match findK v key l with | some p=>.inl (p:Int) | none=>.inr ())
 | pre,[],h=>by
  unfold zby_p0;refine qAe ?_;unfold qD2;rw [upN_len,deF (by rw [h]; simp),cnF];rfl
 | pre,p::r,h=>by
  have ih:=r_mem_loop hv key hL hin (pre++[p]) r (by rw [h]; simp);have hlt:pre.length<L.length:=by rw [h]; simp
  have hget:(upN L).getD pre.length (ET.dft .i64)=(p:Int):=by
   rw [List.getD_eq_getElem?_getD];unfold upN;rw [List.getElem?_map,h,List.getElem?_append_right (Nat.le_refl _),Nat.sub_self];rfl
  have hp:=hin p (by rw [h]; simp);unfold findK;by_cases hkey:(v.getD p (ET.dft .node)).key=key
  ·rw [if_pos hkey];unfold zby_p0;refine qAe ?_;unfold qD2;rw [upN_len,deT (by omega),cnT,qAb (by omega),Int.toNat_natCast,qAb (by omega),hget,Int.toNat_natCast,qAb (by omega),qAb (by omega),qAb (by omega),deT hkey,cnT,qAb (by omega),qAb (by omega)]
  ·rw [if_neg hkey,←ih];unfold zby_p0;rw [qAh (y:=((pre++[p]).length:Int)) ?_];unfold qD2;rw [upN_len,deT (by omega),cnT,qAb (by omega),Int.toNat_natCast,qAb (by omega),hget,Int.toNat_natCast,qAb (by omega),qAb (by omega),qAb (by omega),deF hkey,cnF];refine (qAb (by unfold qAc; omega) _).trans ?_;rw [List.length_append];rfl
theorem places_in {v:List Eng.Node}:∀ {k a e:Nat} {l:List Nat},placesT v k a l e→∀p∈l,p<v.length
 | 0,a,e,l,h,p,hp=>by rw [h.1] at hp; cases hp
 | k+1,a,e,l,h,p,hp=>by
  obtain ⟨b,r,rfl,g1,g2⟩:=h;rcases List.mem_cons.1 hp with rfl | hp
  ·have:=Trees.le g1; omega
  ·exact places_in g2 p hp
theorem member_tree {v:List Eng.Node} (hv:v.length≤2000000) {a e:Nat} (h:Tree v a e) (key:BA):∃r,zar_s v (a:Int) key=some r∧zby_s v (a:Int) key=some r ∧ -1≤r∧r<v.length:=by
 obtain ⟨nd,h1,h2,h3⟩:=h.node;have ha:=(List.getElem?_eq_some_iff.1 h1).1;have l3:=h3.le;obtain ⟨l,hl⟩:=h3.places;have hkids:=r_kids hv h1 h2 h3 hl;have hlen:=hl.len;obtain ⟨kk,hkk⟩:=Int.eq_ofNat_of_zero_le h2;rw [hkk,Int.toNat_natCast] at h3 l3 hl hlen;have hj:=j_mem_loop hv ha (kids:=kk) (by rw [nd_get h1,hkk]) (by omega) key kk 0 (a+1) e l (by omega) h3 hl;have hr:=r_mem_loop hv key (L:=l) (by omega) (places_in hl) [] l rfl;rw [show ((a+1:Nat):Int)=(a:Int)+1 by omega,show ((0:Nat):Int)=0 from rfl] at hj;rw [show (([]:List Nat).length:Int)=0 from rfl] at hr;have e1:(decide ((a:Int)<0) || decide ((v.length:Int)≤a))=false:=by
  rw [deF (show ¬(a:Int)<0 by omega),deF (show ¬(v.length:Int)≤a by omega)]; rfl
 unfold zar_s zby_s;rw [e1];simp only [Int.toNat_natCast];rw [qAb (fun _=>by omega),qAb (fun _=>by omega),qAb (fun _=>by omega),qAb (fun _=>by omega),qAb (fun _=>by omega),qAb (fun _=>by omega),Bool.false_or];by_cases h7:(v.getD a (ET.dft .node)).kind=7
 ·rw [deT h7,Bool.not_true,cnF,cnF,qAb (by unfold qAc; omega),hj,obS,hkids,obS,hr,obS];cases hf:findK v key l with
  | none=>exact ⟨-1,rfl,rfl,by omega,by omega⟩
  | some p =>
   refine ⟨(p:Int),rfl,rfl,by omega,?_⟩;have:p∈l:=by
    clear hj hr hl hkids hlen;induction l with
    | nil=>cases hf
    | cons q r ih =>
     unfold findK at hf;split at hf
     ·cases hf; exact List.mem_cons_self
     ·exact List.mem_cons_of_mem _ (ih hf)
   have:=places_in hl p this;omega
 ·rw [deF h7,Bool.not_false,cnT,cnT];exact ⟨-1,rfl,rfl,by omega,by omega⟩
theorem member_out {v:List Eng.Node} {a:Int} (ha:a<0∨(v.length:Int)≤a) (key:BA):zar_s v a key=some (-1)∧zby_s v a key=some (-1):=by
 have e1:(decide (a<0) || decide ((v.length:Int)≤a))=true:=by
  rw [Bool.or_eq_true,decide_eq_true_eq,decide_eq_true_eq]; exact ha
 unfold zar_s zby_s;rw [e1];rw [qAb (fun h=>by cases h),qAb (fun h=>by cases h),qAb (fun h=>by cases h),qAb (fun h=>by cases h),qAb (fun h=>by cases h),qAb (fun h=>by cases h),Bool.true_or,cnT,cnT];exact ⟨rfl,rfl⟩
end Go.Proofs.YtobmafbliahplaaDoor
namespace Go.Eng
open Go.RowKit
end Go.Eng
namespace Go.Proofs.YtobmafbliahplaaDoor
open Go.Eng
set_option maxRecDepth 100000
noncomputable section
structure qGu where
 has:Bool
 at_:Int
structure qGw where
 value:(List Eng.Node)
 iss:BA
 hasIss:Bool
 sub:BA
 hasSub:Bool
 aud:(List BA)
 hasAud:Bool
 jti:BA
 hasJti:Bool
 exp_:qGu
 nbf:qGu
 iat:qGu
structure qGy where
 client:BA
 nonce:BA
 hasNonce:Bool
 access:BA
 hasAccess:Bool
 code:BA
 hasCode:Bool
 maxAge:Int
 hasAge:Bool
 leeway:Int
structure idtoken_check where
 c:qGw
 a:Int
 w:qGy
 now:Int
def zan_q:IQ:=(.seq (rg 2 [oP 2 (.mv vF)]) (.seq (rg 2 [oM 3 t0,oP 4 (.nk t3),oP 5 (.faddr 16 t4),oP 6 (.faddr 9 t5),oP 7 (.load none t6),oP 8 (.bi .lss t7 (vI 0)),oM 9 t8,oE 10 (.mv t0) 9,oE 11 (.nk t10) 9,oE 12 (.faddr 16 t11) 9,oE 13 (.faddr 9 t12) 9,oE 14 (.load none t13) 9,oE 15 (.bi .gtr t14 (vI 600)) 9,oP 16 (.pick t9 vT t15),oM 17 t16,oE 18 (.mv t0) 17,oE 19 (.nk t18) 17,oE 20 (.faddr 16 t19) 17,oE 21 (.faddr 8 t20) 17,oE 22 (.load none t21) 17,oE 23 (.mv t22) 17,oF 24 (.mv t0) 23,oF 25 (.nk t24) 23,oF 26 (.faddr 16 t25) 23,oF 27 (.faddr 7 t26) 23,oF 28 (.load none t27) 23,oF 29 (.bi .lss t28 (vI 0)) 23,oF 30 (.mv t29) 23,oE 31 (.mv t0) 30,oE 32 (.nk t31) 30,oE 33 (.faddr 16 t32) 30,oE 34 (.faddr 7 t33) 30,oE 35 (.load none t34) 30,oE 36 (.bi .gtr t35 (vI 2147483648)) 30,oF 37 (.pick t30 vT t36) 23,oE 38 (.pick t23 t37 vF) 17,oP 39 (.pick t17 vT t38),oM 2 t39]) (.cn [2] .ret)))
def zan_s (k_:idtoken_check):Option Bool :=
 some (((decide (k_.w.leeway<(0:Int))) || (decide ((600:Int)<k_.w.leeway))) || (k_.w.hasAge && ((decide (k_.w.maxAge<(0:Int))) || (decide ((2147483648:Int)<k_.w.maxAge)))))
def zDHC1:=(qAa dB (qAa dS (qAa dB (qAa dB (qAa dZ (qAa dB (qAa dZ (qAa dB (qAa dZ (qAa dZ (qAa dS (qAa dS (qAa dB (qAa dS (qAa dB (qAa dS (qAa dB (qAa dZ (qAa dB (qAa dZ (qAa dZ dNil)))))))))))))))))))))
def zDHC2:=(qAy 54 (qAa (dO 1) (qAa dS (qAa dB (qAa dS (qAa dB (qAa (dO 2) zDHC1)))))))
def zDHC3:=(qAa (qAt .node) (qAa (qAt .str) dNil))
def zYHC0 (y:dTy (qAa zDHC2 zDHC3)):idtoken_check:=(⟨(⟨y.2.1,y.1.2.1,y.1.2.2.1,y.1.2.2.2.1,y.1.2.2.2.2.1,y.2.2.1,y.1.2.2.2.2.2.2.1,y.1.2.2.2.2.2.2.2.1,y.1.2.2.2.2.2.2.2.2.1,(⟨y.1.2.2.2.2.2.2.2.2.2.1,y.1.2.2.2.2.2.2.2.2.2.2.1⟩:qGu),(⟨y.1.2.2.2.2.2.2.2.2.2.2.2.1,y.1.2.2.2.2.2.2.2.2.2.2.2.2.1⟩:qGu),(⟨y.1.2.2.2.2.2.2.2.2.2.2.2.2.2.1,y.1.2.2.2.2.2.2.2.2.2.2.2.2.2.2.1⟩:qGu)⟩:qGw),y.1.2.2.2.2.2.2.2.2.2.2.2.2.2.2.2.1,(⟨y.1.2.2.2.2.2.2.2.2.2.2.2.2.2.2.2.2.1,y.1.2.2.2.2.2.2.2.2.2.2.2.2.2.2.2.2.2.1,y.1.2.2.2.2.2.2.2.2.2.2.2.2.2.2.2.2.2.2.1,y.1.2.2.2.2.2.2.2.2.2.2.2.2.2.2.2.2.2.2.2.1,y.1.2.2.2.2.2.2.2.2.2.2.2.2.2.2.2.2.2.2.2.2.1,y.1.2.2.2.2.2.2.2.2.2.2.2.2.2.2.2.2.2.2.2.2.2.1,y.1.2.2.2.2.2.2.2.2.2.2.2.2.2.2.2.2.2.2.2.2.2.2.1,y.1.2.2.2.2.2.2.2.2.2.2.2.2.2.2.2.2.2.2.2.2.2.2.2.1,y.1.2.2.2.2.2.2.2.2.2.2.2.2.2.2.2.2.2.2.2.2.2.2.2.2.1,y.1.2.2.2.2.2.2.2.2.2.2.2.2.2.2.2.2.2.2.2.2.2.2.2.2.2.1⟩:qGy),y.1.2.2.2.2.2.2.2.2.2.2.2.2.2.2.2.2.2.2.2.2.2.2.2.2.2.2.1⟩:idtoken_check)
def zYHC1 (y:dTy (qAa zDHC2 zDHC3)):List SB:=[.cells 54 [.own 1,.vS y.1.2.1,.vB y.1.2.2.1,.vS y.1.2.2.2.1,.vB y.1.2.2.2.2.1,.own 2,.vB y.1.2.2.2.2.2.2.1,.vS y.1.2.2.2.2.2.2.2.1,.vB y.1.2.2.2.2.2.2.2.2.1,.vB y.1.2.2.2.2.2.2.2.2.2.1,.vI y.1.2.2.2.2.2.2.2.2.2.2.1,.vB y.1.2.2.2.2.2.2.2.2.2.2.2.1,.vI y.1.2.2.2.2.2.2.2.2.2.2.2.2.1,.vB y.1.2.2.2.2.2.2.2.2.2.2.2.2.2.1,.vI y.1.2.2.2.2.2.2.2.2.2.2.2.2.2.2.1,.vI y.1.2.2.2.2.2.2.2.2.2.2.2.2.2.2.2.1,.vS y.1.2.2.2.2.2.2.2.2.2.2.2.2.2.2.2.2.1,.vS y.1.2.2.2.2.2.2.2.2.2.2.2.2.2.2.2.2.2.1,.vB y.1.2.2.2.2.2.2.2.2.2.2.2.2.2.2.2.2.2.2.1,.vS y.1.2.2.2.2.2.2.2.2.2.2.2.2.2.2.2.2.2.2.2.1,.vB y.1.2.2.2.2.2.2.2.2.2.2.2.2.2.2.2.2.2.2.2.2.1,.vS y.1.2.2.2.2.2.2.2.2.2.2.2.2.2.2.2.2.2.2.2.2.2.1,.vB y.1.2.2.2.2.2.2.2.2.2.2.2.2.2.2.2.2.2.2.2.2.2.2.1,.vI y.1.2.2.2.2.2.2.2.2.2.2.2.2.2.2.2.2.2.2.2.2.2.2.2.1,.vB y.1.2.2.2.2.2.2.2.2.2.2.2.2.2.2.2.2.2.2.2.2.2.2.2.2.1,.vI y.1.2.2.2.2.2.2.2.2.2.2.2.2.2.2.2.2.2.2.2.2.2.2.2.2.2.1,.vI y.1.2.2.2.2.2.2.2.2.2.2.2.2.2.2.2.2.2.2.2.2.2.2.2.2.2.2.1],.view .node y.2.1,.view .str y.2.2.1]
def zan_c:CS:=mkC (qAa (dVC (dCO (dH 0 0))) dNil) (qAa zDHC2 zDHC3) (fun x y=>zan_s (zYHC0 y)) (fun x y r=>.c (.o (.vB r))) fun x y r=>(zYHC1 y)
theorem zan_val:qAl Tryd.prog 21 zan_c:=vl0 zan_q [.tmp 2] 40 3 3 [] trivial fun x y=>by
 simp only [zan_s,-eq_self,sZ];kernel_rfl
def zan_w:CQ:=qBk [(0,some 0,some (.node,39)),(0,some 5,some (.str,9))] (qDb [true,false,false] zan_c)
theorem zan_ok:qAi Tryd.prog 21 zan_w:=qBd zan_val
def zaf_q:IQ:=(.seq (rg 2 [oP 2 (.mv vF)]) (.seq (rg 2 (rF 3 t0 15++[oP 7 (.call 14 [t6]),oP 8 (.bi .eql t7 (vI 0)),oM 2 t8])) (.cn [2] .ret)))
def zaf_s (k_:idtoken_check):Option Bool :=
 (zap_s k_.a).bind fun r1 =>
 some (decide (r1=(0:Int)))
def zaf_c:CS:=mkC (qAa (dVC (dCO (dH 0 0))) dNil) (qAa zDHC2 zDHC3) (fun x y=>zaf_s (zYHC0 y)) (fun x y r=>.c (.o (.vB r))) fun x y r=>(zYHC1 y)
theorem zaf_val:qAl Tryd.prog 22 zaf_c:=vl0 zaf_q [.tmp 2] 9 3 3 [(14,zap_w)] ⟨zap_ok,tV⟩ fun x y=>by
 simp only [zaf_s,-eq_self,sZ];kernel_rfl
def zaf_w:CQ:=qBk [(0,some 0,some (.node,39)),(0,some 5,some (.str,9))] (qDb [true,false,false] zaf_c)
theorem zaf_ok:qAi Tryd.prog 22 zaf_w:=qBd zaf_val
def zal_q:IQ:=(.seq (rg 2 [oP 2 (.mv vF)]) (.seq (rg 2 [oM 3 t0,oP 4 (.nk t3),oP 5 (.faddr 0 t4),oP 6 (.faddr 2 t5),oP 7 (.load none t6),oM 8 t7,oF 9 (.mv t0) 8,oF 10 (.nk t9) 8,oF 11 (.faddr 0 t10) 8,oF 12 (.faddr 4 t11) 8,oF 13 (.load none t12) 8,oP 14 (.pick t8 t13 vF),oM 15 t14,oF 16 (.mv t0) 15,oF 17 (.nk t16) 15,oF 18 (.faddr 0 t17) 15,oF 19 (.faddr 6 t18) 15,oF 20 (.load none t19) 15,oP 21 (.pick t15 t20 vF),oM 22 t21,oF 23 (.mv t0) 22,oF 24 (.nk t23) 22,oF 25 (.faddr 0 t24) 22,oF 26 (.faddr 9 t25) 22,oF 27 (.faddr 0 t26) 22,oF 28 (.load none t27) 22,oP 29 (.pick t22 t28 vF),oM 30 t29,oF 31 (.mv t0) 30,oF 32 (.nk t31) 30,oF 33 (.faddr 0 t32) 30,oF 34 (.faddr 13 t33) 30,oF 35 (.faddr 0 t34) 30,oF 36 (.load none t35) 30,oP 37 (.pick t30 t36 vF),oP 38 (.un .not t37),oM 2 t38]) (.cn [2] .ret)))
def zal_s (k_:idtoken_check):Option Bool :=
 some (!((((k_.c.hasIss && k_.c.hasSub) && k_.c.hasAud) && k_.c.exp_.has) && k_.c.iat.has))
def zal_c:CS:=mkC (qAa (dVC (dCO (dH 0 0))) dNil) (qAa zDHC2 zDHC3) (fun x y=>zal_s (zYHC0 y)) (fun x y r=>.c (.o (.vB r))) fun x y r=>(zYHC1 y)
theorem zal_val:qAl Tryd.prog 23 zal_c:=vl0 zal_q [.tmp 2] 39 3 3 [] trivial fun x y=>by
 simp only [zal_s,-eq_self,sZ];kernel_rfl
def zal_w:CQ:=qBk [(0,some 0,some (.node,39)),(0,some 5,some (.str,9))] (qDb [true,false,false] zal_c)
theorem zal_ok:qAi Tryd.prog 23 zal_w:=qBd zal_val
def zcr_b0:IQ:=(.loop [0,1,7,8] (.seq (rg 9 [oP 9 (.bi .lss t8 t7)]) (.seq (.cond t9 .skip (.cn [] (.exit 0))) (.seq (.block 1 (.seq (rg 5 [oM 10 t8,oM 5 t10]) (.seq (rg 16 [oM 11 t1,oM 12 t0,oM 13 t5,oP 14 (.iaddr 1 t12 t13),oP 15 (.load none t14),oP 16 (.bi .eql t11 t15)]) (.cond t16 (.seq (rg 4 [oM 17 t5,oM 4 t17]) (.cn [4] .ret)) .skip)))) (rg 8 [oP 18 (.bi .add t8 (vI 1)),oM 8 t18])))))
def zcr_q:IQ:=(.seq (rg 4 [oP 4 (.mv (vI 0))]) (.seq (.seq (rg 8 [oM 6 t0,oP 7 (.len t6),oP 8 (.mv (vI 0))]) (.block 0 (.cn [0,1,7,8] (.sub 0 zcr_b0)))) (.seq (rg 4 [oP 4 (.mv (.v (.int .i64 (-1))))]) (.cn [4] .ret))))
def qC6 (v:BA) (x7_ x8_:Int) (s:List BA):Option (Int ⊕ (Int ⊕ Unit)) :=
 bif decide (x8_<x7_) then (
  gd (0≤x8_∧x8_<s.length) <|
  gd ((Int.toNat x8_)<s.length) <|
  bif decide (v=(s.getD (Int.toNat x8_) (ET.dft .str))) then (
   some (.inr (.inl x8_)))
  else (
   gd (qAc (x8_+(1:Int))) <|
   some (.inl (x8_+(1:Int)))))
 else (
  some (.inr (.inr ())))
def zcr_p0 (v:BA) (x7_ x8_:Int) (s:List BA):Option (Int ⊕ Unit) :=
 qAn (fun x:Int=>qC6 v x7_ x s) x8_
def zcr_s (s:(List BA)) (v:BA):Option Int :=
 (zcr_p0 v (s.length:Int) (0:Int) s).bind fun o1=>(Sum.elim (fun (o1_0:Int) =>
  some o1_0) (fun (o1_1:Unit) =>
  some (-1:Int))) o1
def zcr_G:Nat→Option CQ:=tblQ []
def zcr_d0:=(dQS (qAa (dSO 0 (dO 0)) (qAa (dSO 1 dS) (qAa (dSO 7 dZ) (qAa (dSO 8 dZ) dNil)))) (qAa (qAt .str) dNil))
def zcr_l0:SubQ:=mkL zcr_d0 (fun x=>zcr_p0 x.1.2.1 x.1.2.2.1 x.1.2.2.2.1 x.2.1) fun x r R kn kx kr=>(Sum.elim (fun (r_0:Int)=>kr ⟨[sL 4 (.vI r_0)],[],[.view .str x.2.1]⟩) (fun (r_1:Unit)=>kx 0 ⟨[],[],[.view .str x.2.1]⟩)) r
def zcr_L:Nat→SubQ:=tblL [(0,zcr_l0)]
theorem zcr_sub0:qA2 zcr_L zcr_G 1 9 19 0 zcr_b0:=qAm (show zcr_L 0=zcr_l0 from by kernel_rfl) fun x R kn kx kr=>qAf (step:=fun y=>qC6 x.1.2.1 x.1.2.2.1 y x.2.1) (enc:=fun (y:Int)=>zcr_d0.e ((x.1.1,x.1.2.1,x.1.2.2.1,y,x.1.2.2.2.2),x.2)) (fun y=>by kernel_rfl) (fun y ki=>by simp only [qC6,-eq_self,sZ]; kernel_rfl) x.1.2.2.2.1
def zcr_c:CS:=mkC (qAa (dVC (dCO (dO 0))) (qAa (dVC (dCO dS)) dNil)) (qAa (qAt .str) dNil) (fun x y=>zcr_s y.1 x.2.1) (fun x y r=>.c (.o (.vI r))) fun x y r=>[.view .str y.1]
theorem zcr_val:qAl Tryd.prog 58 zcr_c:=vl1 zcr_q [.tmp 4] 19 9 1 (show qA8 zcr_L zcr_G 1 9 19 [(0,zcr_b0)] from ⟨zcr_sub0,tV⟩) (fun f C h=>by cases h) fun x y=>by
 simp only [zcr_s,-eq_self,sZ];kernel_rfl
def zcr_w:CQ:=qBk [(0,none,some (.str,9))] (qBu [false] zcr_c)
theorem zcr_ok:qAi Tryd.prog 58 zcr_w:=qAr zcr_val
def zcp_q:IQ:=(.seq (rg 4 [oP 4 (.mv vF)]) (.seq (rg 4 [oM 5 t0,oM 6 t1,oP 7 (.call 58 [t5,t6]),oP 8 (.bi .geq t7 (vI 0)),oM 4 t8]) (.cn [4] .ret)))
def zcp_s (s:(List BA)) (v:BA):Option Bool :=
 (zcr_s s v).bind fun r1 =>
 some (decide ((0:Int)≤r1))
def zcp_c:CS:=mkC (qAa (dVC (dCO (dO 0))) (qAa (dVC (dCO dS)) dNil)) (qAa (qAt .str) dNil) (fun x y=>zcp_s y.1 x.2.1) (fun x y r=>.c (.o (.vB r))) fun x y r=>[.view .str y.1]
theorem zcp_val:qAl Tryd.prog 41 zcp_c:=vl0 zcp_q [.tmp 4] 9 5 1 [(58,zcr_w)] ⟨zcr_ok,tV⟩ fun x y=>by
 simp only [zcp_s,-eq_self,sZ];kernel_rfl
def zcp_w:CQ:=qBk [(0,none,some (.str,9))] (qBu [false] zcp_c)
theorem zcp_ok:qAi Tryd.prog 41 zcp_w:=qAr zcp_val
def zag_q:IQ:=(.seq (rg 2 [oP 2 (.mv vF)]) (.seq (.reg 2 (some [0,1,2,3,4,5,6,7,8,9,10,11,12]) [oM 3 t0,oP 4 (.nk t3),oP 5 (.faddr 0 t4),oP 6 (.faddr 5 t5),oP 7 (.load none t6),oM 8 t0,oP 9 (.nk t8),oP 10 (.faddr 16 t9),oP 11 (.faddr 0 t10),oP 12 (.load none t11),oP 13 (.call 41 [t7,t12]),oP 14 (.un .not t13),oM 2 t14]) (.cn [2] .ret)))
def zag_s (k_:idtoken_check):Option Bool :=
 (zcp_s k_.c.aud k_.w.client).bind fun r1 =>
 some (!r1)
def zag_c:CS:=mkC (qAa (dVC (dCO (dH 0 0))) dNil) (qAa zDHC2 zDHC3) (fun x y=>zag_s (zYHC0 y)) (fun x y r=>.c (.o (.vB r))) fun x y r=>(zYHC1 y)
theorem zag_val:qAl Tryd.prog 24 zag_c:=vl0 zag_q [.tmp 2] 15 3 3 [(41,zcp_w)] ⟨zcp_ok,tV⟩ fun x y=>by
 simp only [zag_s,-eq_self,sZ];kernel_rfl
def zag_w:CQ:=qBk [(0,some 0,some (.node,39)),(0,some 5,some (.str,9))] (qDb [true,false,false] zag_c)
theorem zag_ok:qAi Tryd.prog 24 zag_w:=qBd zag_val
def zao_q:IQ:=(.seq (rg 6 [oP 6 (.mv vF)]) (.seq (rg 7 [oM 8 t0,oP 9 (.nk t8),oP 10 (.faddr 0 t9),oP 11 (.faddr 0 t10),oP 12 (.load none t11),oM 13 t1,oP 14 (.call 42 [t12,(vI 0),t13]),oM 7 t14]) (.seq (rg 6 [oM 15 t7,oP 16 (.bi .geq t15 (vI 0)),oM 17 t16,oF 18 (.mv t0) 17,oF 19 (.nk t18) 17,oF 20 (.faddr 0 t19) 17,oF 21 (.faddr 0 t20) 17,oF 22 (.load none t21) 17,oF 23 (.mv t7) 17,oF 24 (.iaddr 6 t22 t23) 17,oF 25 (.faddr 0 t24) 17,oF 26 (.load none t25) 17,oF 27 (.bi .eql t26 (vI 5)) 17,oP 28 (.pick t17 t27 vF),oM 29 t28,oF 30 (.mv t0) 29,oF 31 (.nk t30) 29,oF 32 (.faddr 0 t31) 29,oF 33 (.faddr 0 t32) 29,oF 34 (.load none t33) 29,oF 35 (.mv t7) 29,oF 36 (.iaddr 6 t34 t35) 29,oF 37 (.faddr 2 t36) 29,oF 38 (.load none t37) 29,oF 39 (.mv t2) 29,oF 40 (.bi .eql t38 t39) 29,oP 41 (.pick t29 t40 vF),oM 6 t41]) (.cn [6] .ret))))
def zao_s (k_:idtoken_check) (name text:BA):Option Bool :=
 (zar_s k_.c.value (0:Int) name).bind fun r1 =>
 gd ((decide ((0:Int)≤r1))=true→0≤r1∧r1<k_.c.value.length) <|
 gd ((decide ((0:Int)≤r1))=true→(Int.toNat r1)<k_.c.value.length) <|
 gd ((decide ((0:Int)≤r1))=true→(Int.toNat r1)<k_.c.value.length) <|
 gd (((decide ((0:Int)≤r1)) && (decide (((k_.c.value.getD (Int.toNat r1) (ET.dft .node)).kind)=(5:Int))))=true→0≤r1∧r1<k_.c.value.length) <|
 gd (((decide ((0:Int)≤r1)) && (decide (((k_.c.value.getD (Int.toNat r1) (ET.dft .node)).kind)=(5:Int))))=true→(Int.toNat r1)<k_.c.value.length) <|
 gd (((decide ((0:Int)≤r1)) && (decide (((k_.c.value.getD (Int.toNat r1) (ET.dft .node)).kind)=(5:Int))))=true→(Int.toNat r1)<k_.c.value.length) <|
 some (((decide ((0:Int)≤r1)) && (decide (((k_.c.value.getD (Int.toNat r1) (ET.dft .node)).kind)=(5:Int)))) && (decide (((k_.c.value.getD (Int.toNat r1) (ET.dft .node)).text)=text)))
def zao_c:CS:=mkC (qAa (dVC (dCO (dH 0 0))) (qAa (dVC (dCO dS)) (qAa (dVC (dCO dS)) dNil))) (qAa zDHC2 zDHC3) (fun x y=>zao_s (zYHC0 y) x.2.1 x.2.2.1) (fun x y r=>.c (.o (.vB r))) fun x y r=>(zYHC1 y)
theorem zao_val:qAl Tryd.prog 43 zao_c:=vl0 zao_q [.tmp 6] 42 8 3 [(42,zar_w)] ⟨zar_ok,tV⟩ fun x y=>by
 simp only [zao_s,-eq_self,sZ];kernel_rfl
def zao_w:CQ:=qBk [(0,some 0,some (.node,39)),(0,some 5,some (.str,9))] (qDb [true,false,false] zao_c)
theorem zao_ok:qAi Tryd.prog 43 zao_w:=qBd zao_val
def zai_q:IQ:=(.seq (rg 3 [oP 3 (.mv vF)]) (.seq (rg 3 [oM 4 t0,oP 5 (.load none t1),oP 6 (.nk t5),oP 7 (.faddr 16 t6),oP 8 (.faddr 0 t7),oP 9 (.load none t8),oP 10 (.bi .neq t4 t9),oM 3 t10]) (.cn [3] .ret)))
def zai_s (s:BA) (c0:idtoken_check):Option Bool :=
 some (!decide (s=c0.w.client))
def zYHC2 (y:dTy (qAa (qAy 52 (qAa (dH 1 0) dNil)) (qAa (qAy 54 (qAa (dO 2) (qAa dS (qAa dB (qAa dS (qAa dB (qAa (dO 3) zDHC1))))))) zDHC3))):idtoken_check:=(⟨(⟨y.2.2.1,y.2.1.2.1,y.2.1.2.2.1,y.2.1.2.2.2.1,y.2.1.2.2.2.2.1,y.2.2.2.1,y.2.1.2.2.2.2.2.2.1,y.2.1.2.2.2.2.2.2.2.1,y.2.1.2.2.2.2.2.2.2.2.1,(⟨y.2.1.2.2.2.2.2.2.2.2.2.1,y.2.1.2.2.2.2.2.2.2.2.2.2.1⟩:qGu),(⟨y.2.1.2.2.2.2.2.2.2.2.2.2.2.1,y.2.1.2.2.2.2.2.2.2.2.2.2.2.2.1⟩:qGu),(⟨y.2.1.2.2.2.2.2.2.2.2.2.2.2.2.2.1,y.2.1.2.2.2.2.2.2.2.2.2.2.2.2.2.2.1⟩:qGu)⟩:qGw),y.2.1.2.2.2.2.2.2.2.2.2.2.2.2.2.2.2.1,(⟨y.2.1.2.2.2.2.2.2.2.2.2.2.2.2.2.2.2.2.1,y.2.1.2.2.2.2.2.2.2.2.2.2.2.2.2.2.2.2.2.1,y.2.1.2.2.2.2.2.2.2.2.2.2.2.2.2.2.2.2.2.2.1,y.2.1.2.2.2.2.2.2.2.2.2.2.2.2.2.2.2.2.2.2.2.1,y.2.1.2.2.2.2.2.2.2.2.2.2.2.2.2.2.2.2.2.2.2.2.1,y.2.1.2.2.2.2.2.2.2.2.2.2.2.2.2.2.2.2.2.2.2.2.2.1,y.2.1.2.2.2.2.2.2.2.2.2.2.2.2.2.2.2.2.2.2.2.2.2.2.1,y.2.1.2.2.2.2.2.2.2.2.2.2.2.2.2.2.2.2.2.2.2.2.2.2.2.1,y.2.1.2.2.2.2.2.2.2.2.2.2.2.2.2.2.2.2.2.2.2.2.2.2.2.2.1,y.2.1.2.2.2.2.2.2.2.2.2.2.2.2.2.2.2.2.2.2.2.2.2.2.2.2.2.1⟩:qGy),y.2.1.2.2.2.2.2.2.2.2.2.2.2.2.2.2.2.2.2.2.2.2.2.2.2.2.2.2.1⟩:idtoken_check)
def zYHC3 (y:dTy (qAa (qAy 52 (qAa (dH 1 0) dNil)) (qAa (qAy 54 (qAa (dO 2) (qAa dS (qAa dB (qAa dS (qAa dB (qAa (dO 3) zDHC1))))))) zDHC3))):List SB:=[.cells 52 [.hd 1 0],.cells 54 [.own 2,.vS y.2.1.2.1,.vB y.2.1.2.2.1,.vS y.2.1.2.2.2.1,.vB y.2.1.2.2.2.2.1,.own 3,.vB y.2.1.2.2.2.2.2.2.1,.vS y.2.1.2.2.2.2.2.2.2.1,.vB y.2.1.2.2.2.2.2.2.2.2.1,.vB y.2.1.2.2.2.2.2.2.2.2.2.1,.vI y.2.1.2.2.2.2.2.2.2.2.2.2.1,.vB y.2.1.2.2.2.2.2.2.2.2.2.2.2.1,.vI y.2.1.2.2.2.2.2.2.2.2.2.2.2.2.1,.vB y.2.1.2.2.2.2.2.2.2.2.2.2.2.2.2.1,.vI y.2.1.2.2.2.2.2.2.2.2.2.2.2.2.2.2.1,.vI y.2.1.2.2.2.2.2.2.2.2.2.2.2.2.2.2.2.1,.vS y.2.1.2.2.2.2.2.2.2.2.2.2.2.2.2.2.2.2.1,.vS y.2.1.2.2.2.2.2.2.2.2.2.2.2.2.2.2.2.2.2.1,.vB y.2.1.2.2.2.2.2.2.2.2.2.2.2.2.2.2.2.2.2.2.1,.vS y.2.1.2.2.2.2.2.2.2.2.2.2.2.2.2.2.2.2.2.2.2.1,.vB y.2.1.2.2.2.2.2.2.2.2.2.2.2.2.2.2.2.2.2.2.2.2.1,.vS y.2.1.2.2.2.2.2.2.2.2.2.2.2.2.2.2.2.2.2.2.2.2.2.1,.vB y.2.1.2.2.2.2.2.2.2.2.2.2.2.2.2.2.2.2.2.2.2.2.2.2.1,.vI y.2.1.2.2.2.2.2.2.2.2.2.2.2.2.2.2.2.2.2.2.2.2.2.2.2.1,.vB y.2.1.2.2.2.2.2.2.2.2.2.2.2.2.2.2.2.2.2.2.2.2.2.2.2.2.1,.vI y.2.1.2.2.2.2.2.2.2.2.2.2.2.2.2.2.2.2.2.2.2.2.2.2.2.2.2.1,.vI y.2.1.2.2.2.2.2.2.2.2.2.2.2.2.2.2.2.2.2.2.2.2.2.2.2.2.2.2.1],.view .node y.2.2.1,.view .str y.2.2.2.1]
def zai_c:CS:=mkC (qAa (dVC (dCO dS)) (qAa (dVC (dCO (dH 0 0))) dNil)) (qAa (qAy 52 (qAa (dH 1 0) dNil)) (qAa (qAy 54 (qAa (dO 2) (qAa dS (qAa dB (qAa dS (qAa dB (qAa (dO 3) zDHC1))))))) zDHC3)) (fun x y=>zai_s x.1 (zYHC2 y)) (fun x y r=>.c (.o (.vB r))) fun x y r=>(zYHC3 y)
theorem zai_val:qAl Tryd.prog 45 zai_c:=vl0 zai_q [.tmp 3] 11 4 4 [] trivial fun x y=>by
 simp only [zai_s,-eq_self,sZ];kernel_rfl
def zai_w:CQ:=qDb [true,true,false,false] zai_c
theorem zai_ok:qAi Tryd.prog 45 zai_w:=qB3 zai_val
def zcq_b0:IQ:=(.loop [0,1,7,8] (.seq (rg 9 [oP 9 (.bi .lss t8 t7)]) (.seq (.cond t9 .skip (.cn [] (.exit 0))) (.seq (.block 1 (.seq (rg 5 [oM 10 t8,oM 5 t10]) (.seq (rg 16 [oM 11 t1,oM 12 t0,oM 13 t5,oP 14 (.iaddr 1 t12 t13),oP 15 (.load none t14),oP 16 (.callV t11 [t15])]) (.cond t16 (.seq (rg 4 [oM 17 t5,oM 4 t17]) (.cn [4] .ret)) .skip)))) (rg 8 [oP 18 (.bi .add t8 (vI 1)),oM 8 t18])))))
def zcq_q:IQ:=(.seq (rg 4 [oP 4 (.mv (vI 0))]) (.seq (.seq (rg 8 [oM 6 t0,oP 7 (.len t6),oP 8 (.mv (vI 0))]) (.block 0 (.cn [0,1,7,8] (.sub 0 zcq_b0)))) (.seq (rg 4 [oP 4 (.mv (.v (.int .i64 (-1))))]) (.cn [4] .ret))))
def qFq (x7_ x8_:Int) (s:List BA) (qHw:BA) (qHh:Bool) (qHy:BA) (qHj qHg:Bool) (qHx:BA) (qHi qHb:Bool) (qHf:Int) (qHd:Bool) (qHl:Int) (qHc:Bool) (qHk f_a:Int) (qHn qHs:BA) (qG8:Bool) (qHm:BA) (qG7:Bool) (qHu:BA) (qHe:Bool) (qHq:Int) (qHo:Bool) (qHp f_now:Int) (qHr:List Eng.Node) (qHv:List BA):Option (Int ⊕ (Int ⊕ Unit)) :=
 bif decide (x8_<x7_) then (
  gd (0≤x8_∧x8_<s.length) <|
  gd ((Int.toNat x8_)<s.length) <|
  (zai_s (s.getD (Int.toNat x8_) (ET.dft .str)) (⟨(⟨qHr,qHw,qHh,qHy,qHj,qHv,qHg,qHx,qHi,(⟨qHb,qHf⟩:qGu),(⟨qHd,qHl⟩:qGu),(⟨qHc,qHk⟩:qGu)⟩:qGw),f_a,(⟨qHn,qHs,qG8,qHm,qG7,qHu,qHe,qHq,qHo,qHp⟩:qGy),f_now⟩:idtoken_check)).bind fun r2 =>
  bif r2 then (
   some (.inr (.inl x8_)))
  else (
   gd (qAc (x8_+(1:Int))) <|
   some (.inl (x8_+(1:Int)))))
 else (
  some (.inr (.inr ())))
def zcq_p0 (x7_ x8_:Int) (s:List BA) (qHw:BA) (qHh:Bool) (qHy:BA) (qHj qHg:Bool) (qHx:BA) (qHi qHb:Bool) (qHf:Int) (qHd:Bool) (qHl:Int) (qHc:Bool) (qHk f_a:Int) (qHn qHs:BA) (qG8:Bool) (qHm:BA) (qG7:Bool) (qHu:BA) (qHe:Bool) (qHq:Int) (qHo:Bool) (qHp f_now:Int) (qHr:List Eng.Node) (qHv:List BA):Option (Int ⊕ Unit) :=
 qAn (fun x:Int=>qFq x7_ x s qHw qHh qHy qHj qHg qHx qHi qHb qHf qHd qHl qHc qHk f_a qHn qHs qG8 qHm qG7 qHu qHe qHq qHo qHp f_now qHr qHv) x8_
def zcq_s (s:(List BA)) (f:idtoken_check):Option Int :=
 (zcq_p0 (s.length:Int) (0:Int) s f.c.iss f.c.hasIss f.c.sub f.c.hasSub f.c.hasAud f.c.jti f.c.hasJti f.c.exp_.has f.c.exp_.at_ f.c.nbf.has f.c.nbf.at_ f.c.iat.has f.c.iat.at_ f.a f.w.client f.w.nonce f.w.hasNonce f.w.access f.w.hasAccess f.w.code f.w.hasCode f.w.maxAge f.w.hasAge f.w.leeway f.now f.c.value f.c.aud).bind fun o3=>(Sum.elim (fun (o3_0:Int) =>
  some o3_0) (fun (o3_1:Unit) =>
  some (-1:Int))) o3
def zcq_G:Nat→Option CQ:=tblQ [(45,(toInl zai_w))]
def zDHC4:=(qAa (dClo 45 0 (qAa (dH 2 0) dNil)) (qAa (qAy 52 (qAa (dH 3 0) dNil)) (qAa (qAy 54 (qAa (dO 4) (qAa dS (qAa dB (qAa dS (qAa dB (qAa (dO 5) zDHC1))))))) zDHC3)))
def zcq_d0:=(dQS (qAa (dSO 0 (dO 0)) (qAa (dSO 1 (dO 1)) (qAa (dSO 7 dZ) (qAa (dSO 8 dZ) dNil)))) (qAa (qAt .str) zDHC4))
def zcq_l0:SubQ:=mkL zcq_d0 (fun x=>zcq_p0 x.1.2.2.1 x.1.2.2.2.1 x.2.1 x.2.2.2.2.1.2.1 x.2.2.2.2.1.2.2.1 x.2.2.2.2.1.2.2.2.1 x.2.2.2.2.1.2.2.2.2.1 x.2.2.2.2.1.2.2.2.2.2.2.1 x.2.2.2.2.1.2.2.2.2.2.2.2.1 x.2.2.2.2.1.2.2.2.2.2.2.2.2.1 x.2.2.2.2.1.2.2.2.2.2.2.2.2.2.1 x.2.2.2.2.1.2.2.2.2.2.2.2.2.2.2.1 x.2.2.2.2.1.2.2.2.2.2.2.2.2.2.2.2.1 x.2.2.2.2.1.2.2.2.2.2.2.2.2.2.2.2.2.1 x.2.2.2.2.1.2.2.2.2.2.2.2.2.2.2.2.2.2.1 x.2.2.2.2.1.2.2.2.2.2.2.2.2.2.2.2.2.2.2.1 x.2.2.2.2.1.2.2.2.2.2.2.2.2.2.2.2.2.2.2.2.1 x.2.2.2.2.1.2.2.2.2.2.2.2.2.2.2.2.2.2.2.2.2.1 x.2.2.2.2.1.2.2.2.2.2.2.2.2.2.2.2.2.2.2.2.2.2.1 x.2.2.2.2.1.2.2.2.2.2.2.2.2.2.2.2.2.2.2.2.2.2.2.1 x.2.2.2.2.1.2.2.2.2.2.2.2.2.2.2.2.2.2.2.2.2.2.2.2.1 x.2.2.2.2.1.2.2.2.2.2.2.2.2.2.2.2.2.2.2.2.2.2.2.2.2.1 x.2.2.2.2.1.2.2.2.2.2.2.2.2.2.2.2.2.2.2.2.2.2.2.2.2.2.1 x.2.2.2.2.1.2.2.2.2.2.2.2.2.2.2.2.2.2.2.2.2.2.2.2.2.2.2.1 x.2.2.2.2.1.2.2.2.2.2.2.2.2.2.2.2.2.2.2.2.2.2.2.2.2.2.2.2.1 x.2.2.2.2.1.2.2.2.2.2.2.2.2.2.2.2.2.2.2.2.2.2.2.2.2.2.2.2.2.1 x.2.2.2.2.1.2.2.2.2.2.2.2.2.2.2.2.2.2.2.2.2.2.2.2.2.2.2.2.2.2.1 x.2.2.2.2.1.2.2.2.2.2.2.2.2.2.2.2.2.2.2.2.2.2.2.2.2.2.2.2.2.2.2.1 x.2.2.2.2.2.1 x.2.2.2.2.2.2.1) fun x r R kn kx kr=>(Sum.elim (fun (r_0:Int)=>kr ⟨[sL 4 (.vI r_0)],[],[.view .str x.2.1,.clo 45 0 [.hd 2 0],.cells 52 [.hd 3 0],.cells 54 [.own 4,.vS x.2.2.2.2.1.2.1,.vB x.2.2.2.2.1.2.2.1,.vS x.2.2.2.2.1.2.2.2.1,.vB x.2.2.2.2.1.2.2.2.2.1,.own 5,.vB x.2.2.2.2.1.2.2.2.2.2.2.1,.vS x.2.2.2.2.1.2.2.2.2.2.2.2.1,.vB x.2.2.2.2.1.2.2.2.2.2.2.2.2.1,.vB x.2.2.2.2.1.2.2.2.2.2.2.2.2.2.1,.vI x.2.2.2.2.1.2.2.2.2.2.2.2.2.2.2.1,.vB x.2.2.2.2.1.2.2.2.2.2.2.2.2.2.2.2.1,.vI x.2.2.2.2.1.2.2.2.2.2.2.2.2.2.2.2.2.1,.vB x.2.2.2.2.1.2.2.2.2.2.2.2.2.2.2.2.2.2.1,.vI x.2.2.2.2.1.2.2.2.2.2.2.2.2.2.2.2.2.2.2.1,.vI x.2.2.2.2.1.2.2.2.2.2.2.2.2.2.2.2.2.2.2.2.1,.vS x.2.2.2.2.1.2.2.2.2.2.2.2.2.2.2.2.2.2.2.2.2.1,.vS x.2.2.2.2.1.2.2.2.2.2.2.2.2.2.2.2.2.2.2.2.2.2.1,.vB x.2.2.2.2.1.2.2.2.2.2.2.2.2.2.2.2.2.2.2.2.2.2.2.1,.vS x.2.2.2.2.1.2.2.2.2.2.2.2.2.2.2.2.2.2.2.2.2.2.2.2.1,.vB x.2.2.2.2.1.2.2.2.2.2.2.2.2.2.2.2.2.2.2.2.2.2.2.2.2.1,.vS x.2.2.2.2.1.2.2.2.2.2.2.2.2.2.2.2.2.2.2.2.2.2.2.2.2.2.1,.vB x.2.2.2.2.1.2.2.2.2.2.2.2.2.2.2.2.2.2.2.2.2.2.2.2.2.2.2.1,.vI x.2.2.2.2.1.2.2.2.2.2.2.2.2.2.2.2.2.2.2.2.2.2.2.2.2.2.2.2.1,.vB x.2.2.2.2.1.2.2.2.2.2.2.2.2.2.2.2.2.2.2.2.2.2.2.2.2.2.2.2.2.1,.vI x.2.2.2.2.1.2.2.2.2.2.2.2.2.2.2.2.2.2.2.2.2.2.2.2.2.2.2.2.2.2.1,.vI x.2.2.2.2.1.2.2.2.2.2.2.2.2.2.2.2.2.2.2.2.2.2.2.2.2.2.2.2.2.2.2.1],.view .node x.2.2.2.2.2.1,.view .str x.2.2.2.2.2.2.1]⟩) (fun (r_1:Unit)=>kx 0 ⟨[],[],[.view .str x.2.1,.clo 45 0 [.hd 2 0],.cells 52 [.hd 3 0],.cells 54 [.own 4,.vS x.2.2.2.2.1.2.1,.vB x.2.2.2.2.1.2.2.1,.vS x.2.2.2.2.1.2.2.2.1,.vB x.2.2.2.2.1.2.2.2.2.1,.own 5,.vB x.2.2.2.2.1.2.2.2.2.2.2.1,.vS x.2.2.2.2.1.2.2.2.2.2.2.2.1,.vB x.2.2.2.2.1.2.2.2.2.2.2.2.2.1,.vB x.2.2.2.2.1.2.2.2.2.2.2.2.2.2.1,.vI x.2.2.2.2.1.2.2.2.2.2.2.2.2.2.2.1,.vB x.2.2.2.2.1.2.2.2.2.2.2.2.2.2.2.2.1,.vI x.2.2.2.2.1.2.2.2.2.2.2.2.2.2.2.2.2.1,.vB x.2.2.2.2.1.2.2.2.2.2.2.2.2.2.2.2.2.2.1,.vI x.2.2.2.2.1.2.2.2.2.2.2.2.2.2.2.2.2.2.2.1,.vI x.2.2.2.2.1.2.2.2.2.2.2.2.2.2.2.2.2.2.2.2.1,.vS x.2.2.2.2.1.2.2.2.2.2.2.2.2.2.2.2.2.2.2.2.2.1,.vS x.2.2.2.2.1.2.2.2.2.2.2.2.2.2.2.2.2.2.2.2.2.2.1,.vB x.2.2.2.2.1.2.2.2.2.2.2.2.2.2.2.2.2.2.2.2.2.2.2.1,.vS x.2.2.2.2.1.2.2.2.2.2.2.2.2.2.2.2.2.2.2.2.2.2.2.2.1,.vB x.2.2.2.2.1.2.2.2.2.2.2.2.2.2.2.2.2.2.2.2.2.2.2.2.2.1,.vS x.2.2.2.2.1.2.2.2.2.2.2.2.2.2.2.2.2.2.2.2.2.2.2.2.2.2.1,.vB x.2.2.2.2.1.2.2.2.2.2.2.2.2.2.2.2.2.2.2.2.2.2.2.2.2.2.2.1,.vI x.2.2.2.2.1.2.2.2.2.2.2.2.2.2.2.2.2.2.2.2.2.2.2.2.2.2.2.2.1,.vB x.2.2.2.2.1.2.2.2.2.2.2.2.2.2.2.2.2.2.2.2.2.2.2.2.2.2.2.2.2.1,.vI x.2.2.2.2.1.2.2.2.2.2.2.2.2.2.2.2.2.2.2.2.2.2.2.2.2.2.2.2.2.2.1,.vI x.2.2.2.2.1.2.2.2.2.2.2.2.2.2.2.2.2.2.2.2.2.2.2.2.2.2.2.2.2.2.2.1],.view .node x.2.2.2.2.2.1,.view .str x.2.2.2.2.2.2.1]⟩)) r
def zcq_L:Nat→SubQ:=tblL [(0,zcq_l0)]
theorem zcq_sub0:qA2 zcq_L zcq_G 6 9 19 0 zcq_b0:=qAm (show zcq_L 0=zcq_l0 from by kernel_rfl) fun x R kn kx kr=>qAf (step:=fun y=>qFq x.1.2.2.1 y x.2.1 x.2.2.2.2.1.2.1 x.2.2.2.2.1.2.2.1 x.2.2.2.2.1.2.2.2.1 x.2.2.2.2.1.2.2.2.2.1 x.2.2.2.2.1.2.2.2.2.2.2.1 x.2.2.2.2.1.2.2.2.2.2.2.2.1 x.2.2.2.2.1.2.2.2.2.2.2.2.2.1 x.2.2.2.2.1.2.2.2.2.2.2.2.2.2.1 x.2.2.2.2.1.2.2.2.2.2.2.2.2.2.2.1 x.2.2.2.2.1.2.2.2.2.2.2.2.2.2.2.2.1 x.2.2.2.2.1.2.2.2.2.2.2.2.2.2.2.2.2.1 x.2.2.2.2.1.2.2.2.2.2.2.2.2.2.2.2.2.2.1 x.2.2.2.2.1.2.2.2.2.2.2.2.2.2.2.2.2.2.2.1 x.2.2.2.2.1.2.2.2.2.2.2.2.2.2.2.2.2.2.2.2.1 x.2.2.2.2.1.2.2.2.2.2.2.2.2.2.2.2.2.2.2.2.2.1 x.2.2.2.2.1.2.2.2.2.2.2.2.2.2.2.2.2.2.2.2.2.2.1 x.2.2.2.2.1.2.2.2.2.2.2.2.2.2.2.2.2.2.2.2.2.2.2.1 x.2.2.2.2.1.2.2.2.2.2.2.2.2.2.2.2.2.2.2.2.2.2.2.2.1 x.2.2.2.2.1.2.2.2.2.2.2.2.2.2.2.2.2.2.2.2.2.2.2.2.2.1 x.2.2.2.2.1.2.2.2.2.2.2.2.2.2.2.2.2.2.2.2.2.2.2.2.2.2.1 x.2.2.2.2.1.2.2.2.2.2.2.2.2.2.2.2.2.2.2.2.2.2.2.2.2.2.2.1 x.2.2.2.2.1.2.2.2.2.2.2.2.2.2.2.2.2.2.2.2.2.2.2.2.2.2.2.2.1 x.2.2.2.2.1.2.2.2.2.2.2.2.2.2.2.2.2.2.2.2.2.2.2.2.2.2.2.2.2.1 x.2.2.2.2.1.2.2.2.2.2.2.2.2.2.2.2.2.2.2.2.2.2.2.2.2.2.2.2.2.2.1 x.2.2.2.2.1.2.2.2.2.2.2.2.2.2.2.2.2.2.2.2.2.2.2.2.2.2.2.2.2.2.2.1 x.2.2.2.2.2.1 x.2.2.2.2.2.2.1) (enc:=fun (y:Int)=>zcq_d0.e ((x.1.1,x.1.2.1,x.1.2.2.1,y,x.1.2.2.2.2),x.2)) (fun y=>by kernel_rfl) (fun y ki=>by simp only [qFq,-eq_self,sZ]; kernel_rfl) x.1.2.2.2.1
def zYHC4 (y:dTy (qAa (qAt .str) zDHC4)):idtoken_check:=(⟨(⟨y.2.2.2.2.1,y.2.2.2.1.2.1,y.2.2.2.1.2.2.1,y.2.2.2.1.2.2.2.1,y.2.2.2.1.2.2.2.2.1,y.2.2.2.2.2.1,y.2.2.2.1.2.2.2.2.2.2.1,y.2.2.2.1.2.2.2.2.2.2.2.1,y.2.2.2.1.2.2.2.2.2.2.2.2.1,(⟨y.2.2.2.1.2.2.2.2.2.2.2.2.2.1,y.2.2.2.1.2.2.2.2.2.2.2.2.2.2.1⟩:qGu),(⟨y.2.2.2.1.2.2.2.2.2.2.2.2.2.2.2.1,y.2.2.2.1.2.2.2.2.2.2.2.2.2.2.2.2.1⟩:qGu),(⟨y.2.2.2.1.2.2.2.2.2.2.2.2.2.2.2.2.2.1,y.2.2.2.1.2.2.2.2.2.2.2.2.2.2.2.2.2.2.1⟩:qGu)⟩:qGw),y.2.2.2.1.2.2.2.2.2.2.2.2.2.2.2.2.2.2.2.1,(⟨y.2.2.2.1.2.2.2.2.2.2.2.2.2.2.2.2.2.2.2.2.1,y.2.2.2.1.2.2.2.2.2.2.2.2.2.2.2.2.2.2.2.2.2.1,y.2.2.2.1.2.2.2.2.2.2.2.2.2.2.2.2.2.2.2.2.2.2.1,y.2.2.2.1.2.2.2.2.2.2.2.2.2.2.2.2.2.2.2.2.2.2.2.1,y.2.2.2.1.2.2.2.2.2.2.2.2.2.2.2.2.2.2.2.2.2.2.2.2.1,y.2.2.2.1.2.2.2.2.2.2.2.2.2.2.2.2.2.2.2.2.2.2.2.2.2.1,y.2.2.2.1.2.2.2.2.2.2.2.2.2.2.2.2.2.2.2.2.2.2.2.2.2.2.1,y.2.2.2.1.2.2.2.2.2.2.2.2.2.2.2.2.2.2.2.2.2.2.2.2.2.2.2.1,y.2.2.2.1.2.2.2.2.2.2.2.2.2.2.2.2.2.2.2.2.2.2.2.2.2.2.2.2.1,y.2.2.2.1.2.2.2.2.2.2.2.2.2.2.2.2.2.2.2.2.2.2.2.2.2.2.2.2.2.1⟩:qGy),y.2.2.2.1.2.2.2.2.2.2.2.2.2.2.2.2.2.2.2.2.2.2.2.2.2.2.2.2.2.2.1⟩:idtoken_check)
def zYHC5 (y:dTy (qAa (qAt .str) zDHC4)):List SB:=[.view .str y.1,.clo 45 0 [.hd 2 0],.cells 52 [.hd 3 0],.cells 54 [.own 4,.vS y.2.2.2.1.2.1,.vB y.2.2.2.1.2.2.1,.vS y.2.2.2.1.2.2.2.1,.vB y.2.2.2.1.2.2.2.2.1,.own 5,.vB y.2.2.2.1.2.2.2.2.2.2.1,.vS y.2.2.2.1.2.2.2.2.2.2.2.1,.vB y.2.2.2.1.2.2.2.2.2.2.2.2.1,.vB y.2.2.2.1.2.2.2.2.2.2.2.2.2.1,.vI y.2.2.2.1.2.2.2.2.2.2.2.2.2.2.1,.vB y.2.2.2.1.2.2.2.2.2.2.2.2.2.2.2.1,.vI y.2.2.2.1.2.2.2.2.2.2.2.2.2.2.2.2.1,.vB y.2.2.2.1.2.2.2.2.2.2.2.2.2.2.2.2.2.1,.vI y.2.2.2.1.2.2.2.2.2.2.2.2.2.2.2.2.2.2.1,.vI y.2.2.2.1.2.2.2.2.2.2.2.2.2.2.2.2.2.2.2.1,.vS y.2.2.2.1.2.2.2.2.2.2.2.2.2.2.2.2.2.2.2.2.1,.vS y.2.2.2.1.2.2.2.2.2.2.2.2.2.2.2.2.2.2.2.2.2.1,.vB y.2.2.2.1.2.2.2.2.2.2.2.2.2.2.2.2.2.2.2.2.2.2.1,.vS y.2.2.2.1.2.2.2.2.2.2.2.2.2.2.2.2.2.2.2.2.2.2.2.1,.vB y.2.2.2.1.2.2.2.2.2.2.2.2.2.2.2.2.2.2.2.2.2.2.2.2.1,.vS y.2.2.2.1.2.2.2.2.2.2.2.2.2.2.2.2.2.2.2.2.2.2.2.2.2.1,.vB y.2.2.2.1.2.2.2.2.2.2.2.2.2.2.2.2.2.2.2.2.2.2.2.2.2.2.1,.vI y.2.2.2.1.2.2.2.2.2.2.2.2.2.2.2.2.2.2.2.2.2.2.2.2.2.2.2.1,.vB y.2.2.2.1.2.2.2.2.2.2.2.2.2.2.2.2.2.2.2.2.2.2.2.2.2.2.2.2.1,.vI y.2.2.2.1.2.2.2.2.2.2.2.2.2.2.2.2.2.2.2.2.2.2.2.2.2.2.2.2.2.1,.vI y.2.2.2.1.2.2.2.2.2.2.2.2.2.2.2.2.2.2.2.2.2.2.2.2.2.2.2.2.2.2.1],.view .node y.2.2.2.2.1,.view .str y.2.2.2.2.2.1]
def zcq_c:CS:=mkC (qAa (dVC (dCO (dO 0))) (qAa (dVC (dCO (dO 1))) dNil)) (qAa (qAt .str) zDHC4) (fun x y=>zcq_s y.1 (zYHC4 y)) (fun x y r=>.c (.o (.vI r))) fun x y r=>(zYHC5 y)
theorem zcq_val:qAl Tryd.prog 60 zcq_c:=vl1 zcq_q [.tmp 4] 19 9 6 (show qA8 zcq_L zcq_G 6 9 19 [(0,zcq_b0)] from ⟨zcq_sub0,tV⟩) (qAs ⟨(qB5 (by kernel_rfl) zai_ok),tV⟩) fun x y=>by
 simp only [zcq_s,-eq_self,sZ];kernel_rfl
def zcq_w:CQ:=nestQ (qBk [(0,none,some (.str,9))] (qDb [false,false,true,true,false,false] zcq_c))
theorem zcq_ok:qAi Tryd.prog 60 zcq_w:=(fun h=>nestQ_valid (prep_nat (liftG_nat h.1)) (qBd h)) zcq_val
def zco_q:IQ:=(.seq (rg 4 [oP 4 (.mv vF)]) (.seq (rg 4 [oM 5 t0,oM 6 t1,oP 7 (.call 60 [t5,t6]),oP 8 (.bi .geq t7 (vI 0)),oM 4 t8]) (.cn [4] .ret)))
def zco_s (s:(List BA)) (f:idtoken_check):Option Bool :=
 (zcq_s s f).bind fun r1 =>
 some (decide ((0:Int)≤r1))
def zco_c:CS:=mkC (qAa (dVC (dCO (dO 0))) (qAa (dVC (dCO (dO 1))) dNil)) (qAa (qAt .str) zDHC4) (fun x y=>zco_s y.1 (zYHC4 y)) (fun x y r=>.c (.o (.vB r))) fun x y r=>(zYHC5 y)
theorem zco_val:qAl Tryd.prog 44 zco_c:=vl0 zco_q [.tmp 4] 9 5 6 [(60,zcq_w)] ⟨zcq_ok,tV⟩ fun x y=>by
 simp only [zco_s,-eq_self,sZ];kernel_rfl
def zco_w:CQ:=nestQ (qBk [(0,none,some (.str,9))] (qDb [false,false,true,true,false,false] zco_c))
theorem zco_ok:qAi Tryd.prog 44 zco_w:=(fun h=>nestQ_valid (prep_nat (liftG_nat h.1)) (qBd h)) zco_val
def zah_q:IQ:=(.seq (rg 2 [oP 1 (.box 52 1 t0),oP 2 (.mv vF)]) (.seq (.seq (rg 9 [oP 3 (.load none t1),oP 4 (.nk t3),oP 5 (.faddr 0 t4),oP 6 (.faddr 0 t5),oP 7 (.load none t6),oP 8 (.call 42 [t7,(vI 0),(.v (.string ⟨#[97,122,112]⟩))]),oP 9 (.bi .geq t8 (vI 0))]) (.cond t9 (.seq (.reg 2 (some [0,1,2,3,4,5,6,7,8]) [oP 10 (.load none t1),oP 11 (.load none t1),oP 12 (.nk t11),oP 13 (.faddr 16 t12),oP 14 (.faddr 0 t13),oP 15 (.load none t14),oP 16 (.call 43 [t10,(.v (.string ⟨#[97,122,112]⟩)),t15]),oP 17 (.un .not t16),oM 2 t17]) (.cn [2] .ret)) .skip)) (.seq (rg 2 [oP 18 (.load none t1),oP 19 (.nk t18),oP 20 (.faddr 0 t19),oP 21 (.faddr 5 t20),oP 22 (.load none t21),oP 23 (.ext (.mkfn 45 0) [t1]),oP 24 (.call 44 [t22,t23]),oM 2 t24]) (.cn [2] .ret))))
def zGHC6 (k_:idtoken_check):List SB:=[.cells 54 [.own 1,.vS k_.c.iss,.vB k_.c.hasIss,.vS k_.c.sub,.vB k_.c.hasSub,.own 2,.vB k_.c.hasAud,.vS k_.c.jti,.vB k_.c.hasJti,.vB k_.c.exp_.has,.vI k_.c.exp_.at_,.vB k_.c.nbf.has,.vI k_.c.nbf.at_,.vB k_.c.iat.has,.vI k_.c.iat.at_,.vI k_.a,.vS k_.w.client,.vS k_.w.nonce,.vB k_.w.hasNonce,.vS k_.w.access,.vB k_.w.hasAccess,.vS k_.w.code,.vB k_.w.hasCode,.vI k_.w.maxAge,.vB k_.w.hasAge,.vI k_.w.leeway,.vI k_.now],.view .node k_.c.value,.view .str k_.c.aud,.cells 52 [.hd 0 0]]
def zah_s (k_:idtoken_check):Option Bool :=
 (zar_s k_.c.value (0:Int) (⟨#[97,122,112]⟩:BA)).bind fun r1 =>
 bif decide ((0:Int)≤r1) then (
  (zao_s k_ (⟨#[97,122,112]⟩:BA) k_.w.client).bind fun r2 =>
  gd (zGHC6 k_=zGHC6 k_) <|
  some (!r2))
 else (
  (zco_s k_.c.aud k_).bind fun r3 =>
  some r3)
def zah_c:CS:=mkC (qAa (dVC (dCO (dH 0 0))) dNil) (qAa zDHC2 zDHC3) (fun x y=>zah_s (zYHC0 y)) (fun x y r=>.c (.o (.vB r))) fun x y r=>(zYHC1 y)
theorem zah_val:qAl Tryd.prog 25 zah_c:=vl0 zah_q [.tmp 2] 25 3 3 [(42,zar_w),(43,zao_w),(44,zco_w)] ⟨zar_ok,zao_ok,zco_ok,tV⟩ fun x y=>by
 simp only [zah_s,-eq_self,sZ];kernel_rfl
def zah_w:CQ:=qBk [(0,some 0,some (.node,39)),(0,some 5,some (.str,9))] (qDb [true,false,false] zah_c)
theorem zah_ok:qAi Tryd.prog 25 zah_w:=qBd zah_val
def zam_q:IQ:=(.seq (rg 2 [oP 2 (.mv vF)]) (.seq (rg 2 [oM 3 t0,oP 4 (.nk t3),oP 5 (.faddr 16 t4),oP 6 (.faddr 2 t5),oP 7 (.load none t6),oM 8 t7,oF 9 (.mv t0) 8,oF 10 (.mv t0) 8,oF 11 (.nk t10) 8,oF 12 (.faddr 16 t11) 8,oF 13 (.faddr 1 t12) 8,oF 14 (.load none t13) 8,oF 15 (.call 43 [t9,(.v (.string ⟨#[110,111,110,99,101]⟩)),t14]) 8,oF 16 (.un .not t15) 8,oP 17 (.pick t8 t16 vF),oM 2 t17]) (.cn [2] .ret)))
def zam_s (k_:idtoken_check):Option Bool :=
 bif k_.w.hasNonce then (
  (zao_s k_ (⟨#[110,111,110,99,101]⟩:BA) k_.w.nonce).bind fun r1 =>
  some (!r1))
 else (
  some false)
def zam_c:CS:=mkC (qAa (dVC (dCO (dH 0 0))) dNil) (qAa zDHC2 zDHC3) (fun x y=>zam_s (zYHC0 y)) (fun x y r=>.c (.o (.vB r))) fun x y r=>(zYHC1 y)
theorem zam_val:qAl Tryd.prog 26 zam_c:=vl0 zam_q [.tmp 2] 18 3 3 [(43,zao_w)] ⟨zao_ok,tV⟩ fun x y=>by
 simp only [zam_s,-eq_self,sZ];kernel_rfl
def zam_w:CQ:=qBk [(0,some 0,some (.node,39)),(0,some 5,some (.str,9))] (qDb [true,false,false] zam_c)
theorem zam_ok:qAi Tryd.prog 26 zam_w:=qBd zam_val
def zak_q:IQ:=(.seq (rg 3 [oP 3 (.mv (.v (.string ⟨#[]⟩)))]) (.seq (rg 5 ([oP 7 (.load none t1)]++rG 8 t7 15++[oM 11 t0,oP 12 (.call 5 [t10,t11]),oM 6 t12,oP 13 (.extract t6 0),oP 14 (.extract t6 1),oM 4 t13,oM 5 t14])) (.seq (rg 3 [oM 15 t4,oM 3 t15]) (.cn [3] .ret))))
def zak_s (text:BA) (c0:idtoken_check):Option BA :=
 (zad_s c0.a text).bind fun r1 =>
 some r1.1
def zak_c:CS:=mkC (qAa (dVC (dCO dS)) (qAa (dVC (dCO (dH 0 0))) dNil)) (qAa (qAy 52 (qAa (dH 1 0) dNil)) (qAa (qAy 54 (qAa (dO 2) (qAa dS (qAa dB (qAa dS (qAa dB (qAa (dO 3) zDHC1))))))) zDHC3)) (fun x y=>zak_s x.1 (zYHC2 y)) (fun x y r=>.c (.o (.vS r))) fun x y r=>(zYHC3 y)
theorem zak_val:qAl Tryd.prog 46 zak_c:=vl0 zak_q [.tmp 3] 16 6 4 [(5,zad_w)] ⟨zad_ok,tV⟩ fun x y=>by
 simp only [zak_s,-eq_self,sZ];kernel_rfl
def zak_w:CQ:=qDb [true,true,false,false] zak_c
theorem zak_ok:qAi Tryd.prog 46 zak_w:=qB3 zak_val
def zaj_q:IQ :=
 (.seq
 (.reg 2 none [
  ⟨(some 1),.box 52 1 (.t 0),none⟩,
  ⟨(some 2),.mv (.v (.bool false)),none⟩])
 (.seq
 (.reg 3 none [
  ⟨(some 4),.ext (.mkfn 46 0) [(.t 1)],none⟩,
  ⟨(some 3),.mv (.t 4),none⟩])
 (.seq
 (.reg 2 (some [0,1,2,3,4,5,6,7,8,9,10,11,12,13,14,15,16,17,18,19,20,21,22,23,24,25,26,27,28,29,30,31,32,33,34,35,36]) [
  ⟨(some 5),.load none (.t 1),none⟩,
  ⟨(some 6),.ext .nilck [(.t 5)],none⟩,
  ⟨(some 7),.faddr 16 (.t 6),none⟩,
  ⟨(some 8),.faddr 4 (.t 7),none⟩,
  ⟨(some 9),.load none (.t 8),none⟩,
  ⟨(some 10),.mv (.t 9),none⟩,
  ⟨(some 11),.load none (.t 1),some (10,true)⟩,
  ⟨(some 12),.mv (.t 3),some (10,true)⟩,
  ⟨(some 13),.load none (.t 1),some (10,true)⟩,
  ⟨(some 14),.ext .nilck [(.t 13)],some (10,true)⟩,
  ⟨(some 15),.faddr 16 (.t 14),some (10,true)⟩,
  ⟨(some 16),.faddr 3 (.t 15),some (10,true)⟩,
  ⟨(some 17),.load none (.t 16),some (10,true)⟩,
  ⟨(some 18),.callW (bodyL Tryd.prog) (.t 12) [(.t 17)],some (10,true)⟩,
  ⟨(some 19),.call 43 [(.t 11),(.v (.string ⟨#[97,116,95,104,97,115,104]⟩)),(.t 18)],some (10,true)⟩,
  ⟨(some 20),.un .not (.t 19),some (10,true)⟩,
  ⟨(some 21),.pick (.t 10) (.t 20) (.v (.bool false)),none⟩,
  ⟨(some 22),.mv (.t 21),none⟩,
  ⟨(some 23),.load none (.t 1),some (22,false)⟩,
  ⟨(some 24),.ext .nilck [(.t 23)],some (22,false)⟩,
  ⟨(some 25),.faddr 16 (.t 24),some (22,false)⟩,
  ⟨(some 26),.faddr 6 (.t 25),some (22,false)⟩,
  ⟨(some 27),.load none (.t 26),some (22,false)⟩,
  ⟨(some 28),.mv (.t 27),some (22,false)⟩,
  ⟨(some 29),.load none (.t 1),some (28,true)⟩,
  ⟨(some 30),.mv (.t 3),some (28,true)⟩,
  ⟨(some 31),.load none (.t 1),some (28,true)⟩,
  ⟨(some 32),.ext .nilck [(.t 31)],some (28,true)⟩,
  ⟨(some 33),.faddr 16 (.t 32),some (28,true)⟩,
  ⟨(some 34),.faddr 5 (.t 33),some (28,true)⟩,
  ⟨(some 35),.load none (.t 34),some (28,true)⟩,
  ⟨(some 36),.callW (bodyL Tryd.prog) (.t 30) [(.t 35)],some (28,true)⟩,
  ⟨(some 37),.call 43 [(.t 29),(.v (.string ⟨#[99,95,104,97,115,104]⟩)),(.t 36)],some (28,true)⟩,
  ⟨(some 38),.un .not (.t 37),some (28,true)⟩,
  ⟨(some 39),.pick (.t 28) (.t 38) (.v (.bool false)),some (22,false)⟩,
  ⟨(some 40),.pick (.t 22) (.v (.bool true)) (.t 39),none⟩,
  ⟨(some 2),.mv (.t 40),none⟩])
 (.canon [] [2] .ret))))
def zGHC7 (k_:idtoken_check):List SB:=[.cells 54 [.own 1,.vS k_.c.iss,.vB k_.c.hasIss,.vS k_.c.sub,.vB k_.c.hasSub,.own 2,.vB k_.c.hasAud,.vS k_.c.jti,.vB k_.c.hasJti,.vB k_.c.exp_.has,.vI k_.c.exp_.at_,.vB k_.c.nbf.has,.vI k_.c.nbf.at_,.vB k_.c.iat.has,.vI k_.c.iat.at_,.vI k_.a,.vS k_.w.client,.vS k_.w.nonce,.vB k_.w.hasNonce,.vS k_.w.access,.vB k_.w.hasAccess,.vS k_.w.code,.vB k_.w.hasCode,.vI k_.w.maxAge,.vB k_.w.hasAge,.vI k_.w.leeway,.vI k_.now],.view .node k_.c.value,.view .str k_.c.aud,.cells 52 [.hd 0 0],.clo 46 0 [.hd 3 0]]
def zaj_s (k_:idtoken_check):Option Bool :=
 bif k_.w.hasAccess then (
  (zak_s k_.w.access k_).bind fun r1 =>
  gd (zGHC7 k_=zGHC7 k_) <|
  (zao_s k_ (⟨#[97,116,95,104,97,115,104]⟩:BA) r1).bind fun r2 =>
  gd (zGHC7 k_=zGHC7 k_) <|
  bif (k_.w.hasCode && (!(k_.w.hasAccess && (!r2)))) then (
   (zak_s k_.w.code k_).bind fun r3 =>
   gd (zGHC7 k_=zGHC7 k_) <|
   (zao_s k_ (⟨#[99,95,104,97,115,104]⟩:BA) r3).bind fun r4 =>
   gd (zGHC7 k_=zGHC7 k_) <|
   some ((k_.w.hasAccess && (!r2)) || (k_.w.hasCode && (!r4))))
  else (
   some ((k_.w.hasAccess && (!r2)) || (k_.w.hasCode && false))))
 else (
  bif (k_.w.hasCode && (!(k_.w.hasAccess && false))) then (
   (zak_s k_.w.code k_).bind fun r5 =>
   gd (zGHC7 k_=zGHC7 k_) <|
   (zao_s k_ (⟨#[99,95,104,97,115,104]⟩:BA) r5).bind fun r6 =>
   gd (zGHC7 k_=zGHC7 k_) <|
   some ((k_.w.hasAccess && false) || (k_.w.hasCode && (!r6))))
  else (
   some ((k_.w.hasAccess && false) || (k_.w.hasCode && false))))
def zaj_c:CS:=mkC (qAa (dVC (dCO (dH 0 0))) dNil) (qAa zDHC2 zDHC3) (fun x y=>zaj_s (zYHC0 y)) (fun x y r=>.c (.o (.vB r))) fun x y r=>(zYHC1 y)
theorem zaj_val:qAl Tryd.prog 27 zaj_c:=vl0 zaj_q [.tmp 2] 41 4 3 [(46,zak_w),(43,zao_w)] ⟨zak_ok,zao_ok,tV⟩ (raws:=[18,36]) fun x y=>by
 simp only [zaj_s,-eq_self,sZ];kernel_rfl
def zaj_w:CQ:=qBk [(0,some 0,some (.node,39)),(0,some 5,some (.str,9))] (qDb [true,false,false] zaj_c)
theorem zaj_ok:qAi Tryd.prog 27 zaj_w:=qBd zaj_val
def zae_q:IQ:=(.seq (rg 2 [oP 2 (.mv vF)]) (.seq (.seq (rg 11 [oM 6 t0,oP 7 (.nk t6),oP 8 (.faddr 16 t7),oP 9 (.faddr 8 t8),oP 10 (.load none t9),oP 11 (.un .not t10)]) (.cond t11 (.seq (rg 2 [oP 2 (.mv vF)]) (.cn [2] .ret)) .skip)) (.seq (rg 3 [oM 12 t0,oP 13 (.nk t12),oP 14 (.faddr 0 t13),oP 15 (.faddr 0 t14),oP 16 (.load none t15),oP 17 (.call 42 [t16,(vI 0),(.v (.string ⟨#[97,117,116,104,95,116,105,109,101]⟩))]),oM 3 t17]) (.seq (.seq (rg 43 [oM 18 t3,oP 19 (.bi .lss t18 (vI 0)),oM 20 t19,oE 21 (.mv t0) 20,oE 22 (.nk t21) 20,oE 23 (.faddr 0 t22) 20,oE 24 (.faddr 0 t23) 20,oE 25 (.load none t24) 20,oE 26 (.mv t3) 20,oE 27 (.iaddr 6 t25 t26) 20,oE 28 (.faddr 0 t27) 20,oE 29 (.load none t28) 20,oE 30 (.bi .neq t29 (vI 4)) 20,oP 31 (.pick t20 vT t30),oM 32 t31,oE 33 (.mv t0) 32,oE 34 (.nk t33) 32,oE 35 (.faddr 0 t34) 32,oE 36 (.faddr 0 t35) 32,oE 37 (.load none t36) 32,oE 38 (.mv t3) 32,oE 39 (.iaddr 6 t37 t38) 32,oE 40 (.faddr 3 t39) 32,oE 41 (.load none t40) 32,oE 42 (.un .not t41) 32,oP 43 (.pick t32 vT t42)]) (.cond t43 (.seq (rg 2 [oP 2 (.mv vT)]) (.cn [2] .ret)) .skip)) (.seq (.reg 5 (some [0,1,2,3,4,5,6,7,8,9,10,11,12,13,14,15,16,17,18,19,20,21]) [oM 44 t0,oP 45 (.nk t44),oP 46 (.faddr 0 t45),oP 47 (.faddr 0 t46),oP 48 (.load none t47),oM 49 t3,oP 50 (.iaddr 6 t48 t49),oP 51 (.faddr 4 t50),oP 52 (.load none t51),oM 53 t0,oP 54 (.nk t53),oP 55 (.faddr 16 t54),oP 56 (.faddr 7 t55),oP 57 (.load none t56),oM 58 t0,oP 59 (.nk t58),oP 60 (.faddr 16 t59),oP 61 (.faddr 9 t60),oP 62 (.load none t61),oP 63 (.bi .add t57 t62),oM 4 t52,oM 5 t63]) (.seq (rg 2 ([oM 64 t4,oM 65 t5,oP 66 (.bi .sub (vI 9223372036854775807) t65),oP 67 (.bi .leq t64 t66),oM 68 t67]++rH oF 69 t0 26 68++[oF 73 (.mv t4) 68,oF 74 (.mv t5) 68,oF 75 (.bi .add t73 t74) 68,oF 76 (.bi .gtr t72 t75) 68,oP 77 (.pick t68 t76 vF),oM 2 t77])) (.cn [2] .ret)))))))
def zae_s (k_:idtoken_check):Option Bool :=
 bif (!k_.w.hasAge) then (
  some false)
 else (
  (zar_s k_.c.value (0:Int) (⟨#[97,117,116,104,95,116,105,109,101]⟩:BA)).bind fun r1 =>
  gd ((decide (r1<(0:Int)))=false→0≤r1∧r1<k_.c.value.length) <|
  gd ((decide (r1<(0:Int)))=false→(Int.toNat r1)<k_.c.value.length) <|
  gd ((decide (r1<(0:Int)))=false→(Int.toNat r1)<k_.c.value.length) <|
  gd (((decide (r1<(0:Int))) || (!decide (((k_.c.value.getD (Int.toNat r1) (ET.dft .node)).kind)=(4:Int))))=false→0≤r1∧r1<k_.c.value.length) <|
  gd (((decide (r1<(0:Int))) || (!decide (((k_.c.value.getD (Int.toNat r1) (ET.dft .node)).kind)=(4:Int))))=false→(Int.toNat r1)<k_.c.value.length) <|
  gd (((decide (r1<(0:Int))) || (!decide (((k_.c.value.getD (Int.toNat r1) (ET.dft .node)).kind)=(4:Int))))=false→(Int.toNat r1)<k_.c.value.length) <|
  bif (((decide (r1<(0:Int))) || (!decide (((k_.c.value.getD (Int.toNat r1) (ET.dft .node)).kind)=(4:Int)))) || (!((k_.c.value.getD (Int.toNat r1) (ET.dft .node)).whole))) then (
   some true)
  else (
   gd (0≤r1∧r1<k_.c.value.length) <|
   gd ((Int.toNat r1)<k_.c.value.length) <|
   gd ((Int.toNat r1)<k_.c.value.length) <|
   gd (qAc (k_.w.maxAge+k_.w.leeway)) <|
   gd (qAc ((9223372036854775807:Int) - (k_.w.maxAge+k_.w.leeway))) <|
   gd ((decide (((k_.c.value.getD (Int.toNat r1) (ET.dft .node)).int)≤((9223372036854775807:Int) - (k_.w.maxAge+k_.w.leeway))))=true→qAc (((k_.c.value.getD (Int.toNat r1) (ET.dft .node)).int)+(k_.w.maxAge+k_.w.leeway))) <|
   some ((decide (((k_.c.value.getD (Int.toNat r1) (ET.dft .node)).int)≤((9223372036854775807:Int) - (k_.w.maxAge+k_.w.leeway)))) && (decide ((((k_.c.value.getD (Int.toNat r1) (ET.dft .node)).int)+(k_.w.maxAge+k_.w.leeway))<k_.now)))))
def zae_c:CS:=mkC (qAa (dVC (dCO (dH 0 0))) dNil) (qAa zDHC2 zDHC3) (fun x y=>zae_s (zYHC0 y)) (fun x y r=>.c (.o (.vB r))) fun x y r=>(zYHC1 y)
theorem zae_val:qAl Tryd.prog 28 zae_c:=vl0 zae_q [.tmp 2] 78 6 3 [(42,zar_w)] ⟨zar_ok,tV⟩ fun x y=>by
 simp only [zae_s,-eq_self,sZ];kernel_rfl
def zae_w:CQ:=qBk [(0,some 0,some (.node,39)),(0,some 5,some (.str,9))] (qDb [true,false,false] zae_c)
theorem zae_ok:qAi Tryd.prog 28 zae_w:=qBd zae_val
def zac_q:IQ:=(.seq (rg 8 [oP 4 (.box 32 15 t0),oP 6 (.box 34 10 t2),oP 8 (.mv (vI 0))]) (.seq (rg 9 [oP 12 (.load (some 15) t4),oM 13 t1,oP 14 (.load (some 10) t6),oM 15 t3,oP 16 (.build [.slice none 0 0,.string ⟨#[]⟩,.bool false,.string ⟨#[]⟩,.bool false,.slice none 0 0,.bool false,.string ⟨#[]⟩,.bool false,.bool false,.int .i64 0,.bool false,.int .i64 0,.bool false,.int .i64 0,.int .i64 0,.string ⟨#[]⟩,.string ⟨#[]⟩,.bool false,.string ⟨#[]⟩,.bool false,.string ⟨#[]⟩,.bool false,.int .i64 0,.bool false,.int .i64 0,.int .i64 0] [(0,15,t12),(15,1,t13),(16,10,t14),(26,1,t15)]),oP 17 (.box 54 27 t16),oM 9 t17]) (.seq (.seq (rg 44 [oM 18 t9,oP 19 (.ext (.mkfn 21 1) [t18]),oP 20 (.build [.nilFunc,.int .i64 0] [(0,1,t19),(1,1,(vI 12))]),oM 21 t9,oP 22 (.ext (.mkfn 22 1) [t21]),oP 23 (.build [.nilFunc,.int .i64 0] [(0,1,t22),(1,1,(vI 111))]),oM 24 t9,oP 25 (.ext (.mkfn 23 1) [t24]),oP 26 (.build [.nilFunc,.int .i64 0] [(0,1,t25),(1,1,(vI 137))]),oM 27 t9,oP 28 (.ext (.mkfn 24 1) [t27]),oP 29 (.build [.nilFunc,.int .i64 0] [(0,1,t28),(1,1,(vI 133))]),oM 30 t9,oP 31 (.ext (.mkfn 25 1) [t30]),oP 32 (.build [.nilFunc,.int .i64 0] [(0,1,t31),(1,1,(vI 151))]),oM 33 t9,oP 34 (.ext (.mkfn 26 1) [t33]),oP 35 (.build [.nilFunc,.int .i64 0] [(0,1,t34),(1,1,(vI 150))]),oM 36 t9,oP 37 (.ext (.mkfn 27 1) [t36]),oP 38 (.build [.nilFunc,.int .i64 0] [(0,1,t37),(1,1,(vI 152))]),oM 39 t9,oP 40 (.ext (.mkfn 28 1) [t39]),oP 41 (.build [.nilFunc,.int .i64 0] [(0,1,t40),(1,1,(vI 153))]),oP 42 (.bslice 56 2 8 [.nilFunc,.int .i64 0] [(0,t20),(1,t23),(2,t26),(3,t29),(4,t32),(5,t35),(6,t38),(7,t41)]),oP 43 (.len t42),oP 44 (.mv (vI 0))]) (.block 0 (.unroll 10 (.seq (rg 45 [oP 45 (.bi .lss t44 t43)]) (.seq (.cond t45 .skip (.exit 0)) (.seq (.block 1 (.seq (rg 0 [oP 46 (.iaddr 2 t42 t44),oP 47 (.load (some 2) t46),oP 11 (.alloc 56 [.nilFunc,.int .i64 0]),oN (.store 2 t11 t47)]) (.seq (rg 50 [oP 48 (.faddr 0 t11),oP 49 (.load none t48),oP 50 (.callV t49 [])]) (.cond t50 (.seq (rg 8 [oP 51 (.faddr 1 t11),oP 52 (.load none t51),oM 8 t52]) (.cn [8] .ret)) .skip)))) (rg 44 [oP 53 (.bi .add t44 (vI 1)),oM 44 t53]))))))) (.seq (rg 8 [oP 8 (.mv (vI 0))]) (.cn [8] .ret)))))
def zac_s (c:qGw) (a:Int) (w:qGy) (now:Int):Option Int :=
 gd (0≤(0:Int)∧(0:Int)<((8:Nat):Int)) <|
 (zan_s (⟨c,a,w,now⟩:idtoken_check)).bind fun r1 =>
 bif r1 then (
  some (12:Int))
 else (
  gd (qAc ((0:Int)+(1:Int))) <|
  gd (0≤((0:Int)+(1:Int))∧((0:Int)+(1:Int))<((8:Nat):Int)) <|
  (zaf_s (⟨c,a,w,now⟩:idtoken_check)).bind fun r2 =>
  bif r2 then (
   some (111:Int))
  else (
   gd (qAc (((0:Int)+(1:Int))+(1:Int))) <|
   gd (0≤(((0:Int)+(1:Int))+(1:Int))∧(((0:Int)+(1:Int))+(1:Int))<((8:Nat):Int)) <|
   (zal_s (⟨c,a,w,now⟩:idtoken_check)).bind fun r3 =>
   bif r3 then (
    some (137:Int))
   else (
    gd (qAc ((((0:Int)+(1:Int))+(1:Int))+(1:Int))) <|
    gd (0≤((((0:Int)+(1:Int))+(1:Int))+(1:Int))∧((((0:Int)+(1:Int))+(1:Int))+(1:Int))<((8:Nat):Int)) <|
    (zag_s (⟨c,a,w,now⟩:idtoken_check)).bind fun r4 =>
    bif r4 then (
     some (133:Int))
    else (
     gd (qAc (((((0:Int)+(1:Int))+(1:Int))+(1:Int))+(1:Int))) <|
     gd (0≤(((((0:Int)+(1:Int))+(1:Int))+(1:Int))+(1:Int))∧(((((0:Int)+(1:Int))+(1:Int))+(1:Int))+(1:Int))<((8:Nat):Int)) <|
     (zah_s (⟨c,a,w,now⟩:idtoken_check)).bind fun r5 =>
     bif r5 then (
      some (151:Int))
     else (
      gd (qAc ((((((0:Int)+(1:Int))+(1:Int))+(1:Int))+(1:Int))+(1:Int))) <|
      gd (0≤((((((0:Int)+(1:Int))+(1:Int))+(1:Int))+(1:Int))+(1:Int))∧((((((0:Int)+(1:Int))+(1:Int))+(1:Int))+(1:Int))+(1:Int))<((8:Nat):Int)) <|
      (zam_s (⟨c,a,w,now⟩:idtoken_check)).bind fun r6 =>
      bif r6 then (
       some (150:Int))
      else (
       gd (qAc (((((((0:Int)+(1:Int))+(1:Int))+(1:Int))+(1:Int))+(1:Int))+(1:Int))) <|
       gd (0≤(((((((0:Int)+(1:Int))+(1:Int))+(1:Int))+(1:Int))+(1:Int))+(1:Int))∧(((((((0:Int)+(1:Int))+(1:Int))+(1:Int))+(1:Int))+(1:Int))+(1:Int))<((8:Nat):Int)) <|
       (zaj_s (⟨c,a,w,now⟩:idtoken_check)).bind fun r7 =>
       bif r7 then (
        some (152:Int))
       else (
        gd (qAc ((((((((0:Int)+(1:Int))+(1:Int))+(1:Int))+(1:Int))+(1:Int))+(1:Int))+(1:Int))) <|
        gd (0≤((((((((0:Int)+(1:Int))+(1:Int))+(1:Int))+(1:Int))+(1:Int))+(1:Int))+(1:Int))∧((((((((0:Int)+(1:Int))+(1:Int))+(1:Int))+(1:Int))+(1:Int))+(1:Int))+(1:Int))<((8:Nat):Int)) <|
        (zae_s (⟨c,a,w,now⟩:idtoken_check)).bind fun r8 =>
        bif r8 then (
         some (153:Int))
        else (
         gd (qAc (((((((((0:Int)+(1:Int))+(1:Int))+(1:Int))+(1:Int))+(1:Int))+(1:Int))+(1:Int))+(1:Int))) <|
         some (0:Int)))))))))
def zac_c:CS:=mkC (qAa (dVC (dCA (qAa (dO 0) (qAa dS (qAa dB (qAa dS (qAa dB (qAa (dO 1) (qAa dB (qAa dS (qAa dB (qAa dB (qAa dZ (qAa dB (qAa dZ (qAa dB (qAa dZ dNil))))))))))))))))) (qAa (dVC (dCO dZ)) (qAa (dVC (dCA (qAa dS (qAa dS (qAa dB (qAa dS (qAa dB (qAa dS (qAa dB (qAa dZ (qAa dB (qAa dZ dNil)))))))))))) (qAa (dVC (dCO dZ)) dNil)))) (qAa (qAt .node) (qAa (qAt .str) dNil)) (fun x y=>zac_s (⟨y.1,x.1.2.1,x.1.2.2.1,x.1.2.2.2.1,x.1.2.2.2.2.1,y.2.1,x.1.2.2.2.2.2.2.1,x.1.2.2.2.2.2.2.2.1,x.1.2.2.2.2.2.2.2.2.1,(⟨x.1.2.2.2.2.2.2.2.2.2.1,x.1.2.2.2.2.2.2.2.2.2.2.1⟩:qGu),(⟨x.1.2.2.2.2.2.2.2.2.2.2.2.1,x.1.2.2.2.2.2.2.2.2.2.2.2.2.1⟩:qGu),(⟨x.1.2.2.2.2.2.2.2.2.2.2.2.2.2.1,x.1.2.2.2.2.2.2.2.2.2.2.2.2.2.2.1⟩:qGu)⟩:qGw) x.2.1 (⟨x.2.2.1.1,x.2.2.1.2.1,x.2.2.1.2.2.1,x.2.2.1.2.2.2.1,x.2.2.1.2.2.2.2.1,x.2.2.1.2.2.2.2.2.1,x.2.2.1.2.2.2.2.2.2.1,x.2.2.1.2.2.2.2.2.2.2.1,x.2.2.1.2.2.2.2.2.2.2.2.1,x.2.2.1.2.2.2.2.2.2.2.2.2.1⟩:qGy) x.2.2.2.1) (fun x y r=>.c (.o (.vI r))) fun x y r=>[.view .node y.1,.view .str y.2.1]
theorem zac_val:qAl Tryd.prog 9 zac_c:=vl0 zac_q [.tmp 8] 54 45 2 [(21,(toInl zan_w)),(22,(toInl zaf_w)),(23,(toInl zal_w)),(24,(toInl zag_w)),(25,(toInl zah_w)),(26,(toInl zam_w)),(27,(toInl zaj_w)),(28,(toInl zae_w))] ⟨(qB5 (by kernel_rfl) zan_ok),(qB5 (by kernel_rfl) zaf_ok),(qB5 (by kernel_rfl) zal_ok),(qB5 (by kernel_rfl) zag_ok),(qB5 (by kernel_rfl) zah_ok),(qB5 (by kernel_rfl) zam_ok),(qB5 (by kernel_rfl) zaj_ok),(qB5 (by kernel_rfl) zae_ok),tV⟩ fun x y=>by
 simp only [zac_s,-eq_self,sZ];kernel_rfl
def zac_w:CQ:=qBk [(0,some 0,some (.node,39)),(0,some 5,some (.str,9))] (qBu [false,false] zac_c)
theorem zac_ok:qAi Tryd.prog 9 zac_w:=qAr zac_val
end
end Go.Proofs.YtobmafbliahplaaDoor
