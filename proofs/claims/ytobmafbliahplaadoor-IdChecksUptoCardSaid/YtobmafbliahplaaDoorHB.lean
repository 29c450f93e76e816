/-
  Functions as the engine reads them (printed by gen.py).
-/
import Derived.Test.YtobmafbliahplaaDoorPSha
import Derived.Test.YtobmafbliahplaaDoorEngO
import Derived.Test.YtobmafbliahplaaDoorProg
namespace Go.Proofs.YtobmafbliahplaaDoor
open Go.Eng
set_option linter.unusedVariables false
set_option linter.unusedSimpArgs false
theorem blk_nrm (s:qGv):blk ⟨s.hash,nrm 8 s.short,nrm 8 s.long,nrm 128 s.rest,s.n⟩=blk s:=by
 unfold blk;rw [blk32_nrm,blk64_nrm]
def put (size:Nat) (s:qGv) (b:List Int):qGv :=
 let s2:qGv:=⟨s.hash,s.short,s.long,(nrm 128 s.rest).take (s.n % size).toNat++(b.take (size - (s.n % size).toNat)++(nrm 128 s.rest).drop ((s.n % size).toNat+min b.length (size - (s.n % size).toNat))),(s.n+(min b.length (size - (s.n % size).toNat):Nat)) % 18446744073709551616⟩
 bif decide ((s.n % size).toNat+min b.length (size - (s.n % size).toNat)=size) then blk s2 else s2
def wrt (size:Nat):Nat→qGv→List Int→qGv
 | 0,s,_=>s
 | _+1,s,[]=>s
 | f+1,s,x::b=>wrt size f (put size s (x::b)) ((x::b).drop (min (x::b).length (size - (s.n % size).toNat)))
theorem blk_n (s:qGv):(blk s).n=s.n∧(blk s).hash=s.hash:=by
 unfold blk;cases decide (s.hash=1) <;> exact ⟨rfl,rfl⟩
theorem put_n (size:Nat) (s:qGv) (b:List Int):0≤(put size s b).n∧(put size s b).n<18446744073709551616∧(put size s b).hash=s.hash:=by
 unfold put;generalize decide ((s.n % (size:Int)).toNat+min b.length (size - (s.n % (size:Int)).toNat)=size)=c
 cases c
 ·exact ⟨Int.emod_nonneg _ (by decide),Int.emod_lt_of_pos _ (by decide),rfl⟩
 ·refine ⟨?_,?_,?_⟩
  ·rw [cnT,(blk_n _).1]; exact Int.emod_nonneg _ (by decide)
  ·rw [cnT,(blk_n _).1]; exact Int.emod_lt_of_pos _ (by decide)
  ·rw [cnT,(blk_n _).2]
theorem p_write (size:Nat) (h1:1≤size) (h2:size≤128):∀(f:Nat) (s:qGv) (b:List Int),b.length≤f→0≤s.n→s.n<18446744073709551616 →
  zax_p0 size s.hash s.short s.long s.rest s.n b=some ((wrt size f s b).hash,(wrt size f s b).short,(wrt size f s b).long,(wrt size f s b).rest,(wrt size f s b).n)
 | f,s,[],hb,h0,hn=>by
  have:wrt size f s []=s:=by cases f <;> rfl
  rw [this];unfold zax_p0;refine qAe ?_;unfold qDu;rw [deF (by simp),cnF]
 | 0,s,x::b,hb,_,_=>by simp at hb
 | f+1,s,x::b,hb,h0,hn=>by
  have hsz:(size:Int) % 18446744073709551616=size:=Int.emod_eq_of_lt (by omega) (by omega);have hm0:0≤s.n % size:=Int.emod_nonneg _ (by omega);have hm1:s.n % size<size:=Int.emod_lt_of_pos _ (by omega);generalize hB:x::b=B at hb ⊢
  have hBl:0<B.length:=by rw [←hB]; simp
  have hst:qDu size s.hash s.short s.long s.rest s.n B=some (.inl ((put size s B).hash,(put size s B).short,(put size s B).long,(put size s B).rest,(put size s B).n,B.drop (min B.length (size - (s.n % size).toNat)))):=by
   unfold qDu;rw [deT (by omega),cnT,hsz];have hk:(((min B.length ((Int.toNat (size:Int)) - (Int.toNat (s.n % size)))):Nat):Int) % 18446744073709551616=((min B.length (size - (s.n % size).toNat):Nat):Int):=by
    rw [Int.toNat_natCast];exact Int.emod_eq_of_lt (by omega) (by omega)
   rw [hk];simp only [Int.toNat_natCast,List.take_length]
   iterate 6 refine (qAb (by first | (unfold qAc; omega) | omega) _).trans ?_
   have hd:decide (s.n % (size:Int)+((min B.length (size - (s.n % size).toNat):Nat):Int)=size)=decide ((s.n % size).toNat+min B.length (size - (s.n % size).toNat)=size):=by
    rw [decide_eq_decide];omega
   rw [hd];unfold put;cases decide ((s.n % size).toNat+min B.length (size - (s.n % size).toNat)=size)
   ·rfl
   ·simp only [cnT,p_block,obS];have:=blk_nrm ⟨s.hash,s.short,s.long,(nrm 128 s.rest).take (s.n % size).toNat++(B.take (size - (s.n % size).toNat)++(nrm 128 s.rest).drop ((s.n % size).toNat+min B.length (size - (s.n % size).toNat))),(s.n+(min B.length (size - (s.n % size).toNat):Nat)) % 18446744073709551616⟩;simp only at this;rw [this]
  obtain ⟨p1,p2,p3⟩:=put_n size s B;have ih:=p_write size h1 h2 f (put size s B) (B.drop (min B.length (size - (s.n % size).toNat))) (by rw [List.length_drop]; omega) p1 p2;have hw:wrt size (f+1) s B=wrt size f (put size s B) (B.drop (min B.length (size - (s.n % size).toNat))):=by rw [←hB]; rfl
  rw [hw];unfold zax_p0 at ih ⊢;rw [qAh hst];exact ih
def qA4 (h:Int):Nat:=bif decide (h=1) then 64 else bif decide (h=2) then 128 else bif decide (h=3) then 128 else 0
theorem p_Block (h:Int):zau_s h=some ((qA4 h:Nat):Int):=by
 unfold zau_s qA4;cases decide (h=1) <;> cases decide (h=2) <;> cases decide (h=3) <;> rfl
def nrmS (s:qGv):qGv:=⟨s.hash,nrm 8 s.short,nrm 8 s.long,nrm 128 s.rest,s.n⟩
def shaW (s:qGv) (b:List Int):qGv:=wrt (qA4 s.hash) b.length (nrmS s) b
theorem sizeB_of {h:Int} (hh:h=1∨h=2∨h=3):64≤qA4 h∧qA4 h≤128∧(h=1→qA4 h=64)∧(h≠1→qA4 h=128):=by
 rcases hh with rfl | rfl | rfl <;> decide
theorem p_Write (s:qGv) (b:List Int) (hh:s.hash=1∨s.hash=2∨s.hash=3) (h0:0≤s.n) (hn:s.n<18446744073709551616):zax_s s b=some (shaW s b):=by
 obtain ⟨h1,h2,_⟩:=sizeB_of hh;unfold zax_s shaW;rw [p_Block,obS];have h:=p_write (qA4 s.hash) (by omega) h2 b.length (nrmS s) b (Nat.le_refl _) h0 hn;simp only [nrmS] at h ⊢;rw [h];rfl
theorem wrt_n (size:Nat):∀(f:Nat) (s:qGv) (b:List Int),0≤s.n→s.n<18446744073709551616→0≤(wrt size f s b).n∧(wrt size f s b).n<18446744073709551616∧(wrt size f s b).hash=s.hash
 | 0,s,b,h0,hn=>⟨h0,hn,rfl⟩
 | f+1,s,[],h0,hn=>⟨h0,hn,rfl⟩
 | f+1,s,x::b,h0,hn=>by
  obtain ⟨p1,p2,p3⟩:=put_n size s (x::b);have:=wrt_n size f (put size s (x::b)) ((x::b).drop (min (x::b).length (size - (s.n % size).toNat))) p1 p2;rw [p3] at this;exact this
def zer (size field m:Int) (n:Nat):Nat:=((size - field - m - n) % size).toNat
theorem p_pad (size n field:Int) (hs:size=64∧field=8∨size=128∧field=16) (hn:0≤n) (hn2:n<18446744073709551616):∀(k:Nat) (pad:List Int),zer size field (n % size) pad.length=k→pad.length+k≤1000 →
  zaw_p0 size n field pad=some (pad++List.replicate k 0):=by
 have hsz:size % 18446744073709551616=size:=by rcases hs with ⟨rfl,_⟩ | ⟨rfl,_⟩ <;> rfl
 have hm0:0≤n % size:=Int.emod_nonneg _ (by omega);have hm1:n % size<size:=Int.emod_lt_of_pos _ (by omega);intro k;induction k with
 | zero =>
  intro pad hz hl;unfold zaw_p0;refine qAe ?_;unfold qDs;rw [hsz]
  iterate 5 refine (qAb (by first | (unfold qAc; omega) | omega) _).trans ?_
  have hc:((n % size)+(pad.length:Int)) % size=size - field:=by
   unfold zer at hz;rcases hs with ⟨rfl,rfl⟩ | ⟨rfl,rfl⟩ <;> omega
  rw [deT hc];simp
 | succ k ih =>
  intro pad hz hl;have hst:qDs size n field pad=some (.inl (pad++[0])):=by
   unfold qDs;rw [hsz]
   iterate 5 refine (qAb (by first | (unfold qAc; omega) | omega) _).trans ?_
   have hc:¬((n % size)+(pad.length:Int)) % size=size - field:=by
    unfold zer at hz;rcases hs with ⟨rfl,rfl⟩ | ⟨rfl,rfl⟩ <;> omega
   rw [deF hc];exact qAb (by simp only [List.length_cons,List.length_nil]; omega) _
  have:=ih (pad++[0]) (by
   unfold zer at hz ⊢;rw [List.length_append,List.length_singleton];rcases hs with ⟨rfl,rfl⟩ | ⟨rfl,rfl⟩ <;> omega) (by rw [List.length_append,List.length_singleton]; omega)
  unfold zaw_p0 at this ⊢;rw [qAh hst,this,List.append_assoc];rfl
def lenB (n i:Int):Int:=bif decide (i<8) then ((n*8) % 18446744073709551616) / 2 ^ (min (Int.toNat (8*i)) 64) % 256 else bif decide (i=8) then n / 2305843009213693952 % 256 else 0
def lenS (n:Int) (x:Int × List Int):Int × List Int:=(x.1 - 1,x.2++[lenB n x.1])
theorem p_len (n i:Int) (pad:List Int) (hi:i≤15) (hp:pad.length≤500):zaw_p1 n i pad=some (itr (lenS n) (i+1).toNat (i,pad)).2:=by
 unfold zaw_p1;refine qBm (fun x => - x.1) (lenS n) (fun x=>x.2) (fun x=>x.1≤15∧(x.2.length:Int)+x.1≤600) 1 (fun x hx hn=>?_) (fun x hx hn=>?_) _ (i,pad) ⟨hi,by show (pad.length:Int)+i≤600; omega⟩ (by show (1 - -i).toNat=_; omega)
 ·obtain ⟨h1,h2⟩:=hx;refine ⟨?_,by show -(x.1 - 1) = -x.1+1; omega,by show x.1 - 1≤15; omega,by show ((x.2++[lenB n x.1]).length:Int)+(x.1 - 1)≤600; rw [List.length_append,List.length_singleton]; omega⟩;have hn : -x.1<1:=hn;unfold qE6;rw [deT (by omega),cnT];unfold lenS lenB;by_cases h8:x.1<8
  ·rw [deT h8,cnT]
   iterate 5 refine (qAb (by first | decide | (unfold qAc; omega) | omega | (simp only [List.length_cons,List.length_nil]; omega)) _).trans ?_
   rfl
  ·rw [deF h8,cnF];by_cases h9:x.1=8
   ·rw [deT h9,cnT]
    iterate 3 refine (qAb (by first | decide | (unfold qAc; omega) | omega | (simp only [List.length_cons,List.length_nil]; omega)) _).trans ?_
    rfl
   ·rw [deF h9,cnF]
    iterate 2 refine (qAb (by first | decide | (unfold qAc; omega) | omega | (simp only [List.length_cons,List.length_nil]; omega)) _).trans ?_
    rfl
 ·have hn:1 ≤ -x.1:=hn;unfold qE6;rw [deF (by omega),cnF]
def by32 (s:List Int) (x:Int × List Int):Int × List Int:=(x.1+1,x.2++[(nrm 8 s).getD (Int.toNat x.1) 0 / 16777216 % 256,(nrm 8 s).getD (Int.toNat x.1) 0 / 65536 % 256,(nrm 8 s).getD (Int.toNat x.1) 0 / 256 % 256,(nrm 8 s).getD (Int.toNat x.1) 0 % 256])
theorem p_out32 (s:List Int):zaw_p2 s 0 []=some (itr (by32 s) 8 (0,[])).2:=by
 unfold zaw_p2;refine qBm (fun x=>x.1) (by32 s) (fun x=>x.2) (fun x=>0≤x.1∧(x.2.length:Int)≤4*x.1) 8 (fun x hx hn=>?_) (fun x hx hn=>?_) _ (0,[]) ⟨Int.le_refl _,by simp⟩ rfl
 ·obtain ⟨h1,h2⟩:=hx;refine ⟨?_,rfl,by show 0≤x.1+1; omega,by show ((x.2++[_,_,_,_]).length:Int)≤4*(x.1+1); rw [List.length_append]; simp only [List.length_cons,List.length_nil]; omega⟩;unfold qE7;rw [deT hn,cnT]
  iterate 6 refine (qAb (by first | decide | (unfold qAc; omega) | omega | (simp only [List.length_cons,List.length_nil]; omega)) _).trans ?_
  rfl
 ·unfold qE7;rw [deF (by omega),cnF]
def byt8 (v:Int) (x:Int × List Int):Int × List Int:=(x.1 - 8,x.2++[v / 2 ^ (min (Int.toNat x.1) 64) % 256])
theorem p_out8 (v:Int) (out:List Int) (ho:out.length≤500):zaw_p4 v 56 out=some (itr (byt8 v) 8 (56,out)).2:=by
 have key:∀(k:Nat) (i:Int) (out:List Int),i=8*(k:Int) - 8→k≤8→out.length+k≤600→zaw_p4 v i out=some (itr (byt8 v) k (i,out)).2:=by
  intro k;induction k with
  | zero =>
   intro i out hi _ _;unfold zaw_p4;refine qAe ?_;unfold qDt;rw [deF (by omega),cnF];rfl
  | succ k ih =>
   intro i out hi hk hl;have hst:qDt v i out=some (.inl (byt8 v (i,out))):=by
    unfold qDt;rw [deT (by omega),cnT]
    iterate 3 refine (qAb (by first | decide | (unfold qAc; omega) | omega | (simp only [List.length_cons,List.length_nil]; omega)) _).trans ?_
    rfl
   have:=ih (i - 8) (out++[v / 2 ^ (min (Int.toNat i) 64) % 256]) (by omega) (by omega) (by rw [List.length_append,List.length_singleton]; omega);unfold zaw_p4 at this ⊢;rw [qAh hst];exact this
 exact key 8 56 out rfl (Nat.le_refl _) (by omega)
theorem byt8_len (v:Int):∀(k:Nat) (x:Int × List Int),(itr (byt8 v) k x).2.length=x.2.length+k
 | 0,x=>rfl
 | k+1,x=>by
  rw [itr,byt8_len v k];show (x.2++[_]).length+k=_;rw [List.length_append,List.length_singleton];omega
def by64 (s:List Int) (x:Int × List Int):Int × List Int:=(x.1+1,(itr (byt8 ((nrm 8 s).getD (Int.toNat x.1) 0)) 8 (56,x.2)).2)
theorem p_out64 (s a b c d e f:List Int) (hs:s.length=8) (ha:a.length=8) (hb:b.length=8) (hc:c.length=128) (hd:d.length=8) (he:e.length=8) (hf:f.length=128) :
  zaw_p3 s 0 a b c d e f []=some (a,b,c,d,e,f,(itr (by64 s) 8 (0,[])).2):=by
 have key:∀(k:Nat) (i:Int) (out:List Int),0≤i→i+k=8→out.length≤8*i.toNat→zaw_p3 s i a b c d e f out=some (a,b,c,d,e,f,(itr (by64 s) k (i,out)).2):=by
  intro k;induction k with
  | zero =>
   intro i out h0 hi _;unfold zaw_p3;refine qAe ?_;show qCx s i a b c d e f out=_;unfold qCx;rw [deF (by omega),cnF];rfl
  | succ k ih =>
   intro i out h0 hi hl;have hst:qCx s i a b c d e f out=some (.inl (s,i+1,a,b,c,d,e,f,(by64 s (i,out)).2)):=by
    unfold qCx;rw [deT (by omega),cnT];refine (qAb (by omega) _).trans ?_;rw [p_out8 _ _ (by omega),obS];refine (qAb (by unfold qAc; omega) _).trans ?_;rw [qC8 hs,qC8 ha,qC8 hb,qC8 hc,qC8 hd,qC8 he,qC8 hf];unfold by64;rw [qC8 hs]
   have:=ih (i+1) (by64 s (i,out)).2 (by omega) (by omega) (by
    show (itr _ 8 (56,out)).2.length≤_;rw [byt8_len];show out.length+8≤_;omega)
   unfold zaw_p3 at this ⊢;rw [qAh hst];exact this
 exact key 8 0 [] (Int.le_refl _) rfl (by simp)
def sumZ (h:Int):Nat:=bif decide (h=1) then 32 else bif decide (h=2) then 48 else bif decide (h=3) then 64 else 0
theorem sumZ_le (h:Int):sumZ h≤64:=by
 unfold sumZ;cases decide (h=1) <;> cases decide (h=2) <;> cases decide (h=3) <;> decide
theorem p_Size (h:Int):zav_s h=some ((sumZ h:Nat):Int):=by
 unfold zav_s sumZ;cases decide (h=1) <;> cases decide (h=2) <;> cases decide (h=3) <;> rfl
def padB (size field n:Int):List Int:=(itr (lenS n) field.toNat (field - 1,[128]++List.replicate (zer size field (n % size) 1) 0)).2
def outB (s:qGv):List Int:=bif decide (s.hash=1) then (itr (by32 s.short) 8 (0,[])).2 else (itr (by64 s.long) 8 (0,[])).2.take (sumZ s.hash)
def shaS (s:qGv):List Int:=outB (shaW s (padB (qA4 s.hash) (qA4 s.hash / 8) s.n))
theorem by64_len (s:List Int):∀(k:Nat) (x:Int × List Int),(itr (by64 s) k x).2.length=x.2.length+8*k
 | 0,x=>rfl
 | k+1,x=>by
  rw [itr,by64_len s k];show (itr _ 8 (56,x.2)).2.length+8*k=_;rw [byt8_len];show x.2.length+8+8*k=_;omega
theorem by32_len (s:List Int):∀(k:Nat) (x:Int × List Int),(itr (by32 s) k x).2.length=x.2.length+4*k
 | 0,x=>rfl
 | k+1,x=>by
  rw [itr,by32_len s k];show (x.2++[_,_,_,_]).length+4*k=_;rw [List.length_append];simp only [List.length_cons,List.length_nil];omega
theorem by32_nrm (s:List Int):by32 (nrm 8 s)=by32 s:=by
 funext x
 simp only [by32,qBs]
theorem by64_nrm (s:List Int):by64 (nrm 8 s)=by64 s:=by
 funext x
 simp only [by64,qBs]
theorem shaW_nrm (s:qGv) (b:List Int):shaW (nrmS s) b=shaW s b:=by simp only [shaW,nrmS,qBs]
theorem p_Sum (s:qGv) (hh:s.hash=1∨s.hash=2∨s.hash=3) (h0:0≤s.n) (hn:s.n<18446744073709551616):zaw_s s=some (nrmS s,shaS s):=by
 obtain ⟨h1,h2,h3,h4⟩:=sizeB_of hh;have hcase:((qA4 s.hash:Nat):Int)=64∧((qA4 s.hash:Nat):Int) / 8=8∨((qA4 s.hash:Nat):Int)=128∧((qA4 s.hash:Nat):Int) / 8=16:=by
  by_cases hc:s.hash=1
  ·rw [h3 hc]; exact .inl ⟨rfl,rfl⟩
  ·rw [h4 hc]; exact .inr ⟨rfl,rfl⟩
 have hz:zer (qA4 s.hash) (qA4 s.hash / 8) (s.n % qA4 s.hash) 1≤128:=by
  unfold zer;have:=Int.emod_lt_of_pos ((qA4 s.hash:Int) - (qA4 s.hash:Int) / 8 - s.n % (qA4 s.hash:Int) - (1:Nat)) (show (0:Int)<(qA4 s.hash:Int) by omega);omega
 unfold zaw_s;rw [p_Block,obS];refine (qAb (by omega) _).trans ?_;rw [p_pad _ _ _ hcase h0 hn (zer (qA4 s.hash) (qA4 s.hash / 8) (s.n % qA4 s.hash) 1) [128] rfl (by simp only [List.length_cons,List.length_nil]; omega),obS];refine (qAb (by unfold qAc; omega) _).trans ?_;rw [p_len _ _ _ (by omega) (by simp only [List.length_append,List.length_replicate,List.length_cons,List.length_nil]; omega),obS];simp only [qBs];have hpad:(itr (lenS s.n) ((qA4 s.hash:Int) / 8 - 1+1).toNat ((qA4 s.hash:Int) / 8 - 1,[128]++List.replicate (zer (qA4 s.hash) (qA4 s.hash / 8) (s.n % qA4 s.hash) 1) 0)).2=padB (qA4 s.hash) (qA4 s.hash / 8) s.n:=by
  unfold padB;rw [show (qA4 s.hash:Int) / 8 - 1+1=(qA4 s.hash:Int) / 8 by omega]
 rw [hpad,show (⟨s.hash,nrm 8 s.short,nrm 8 s.long,nrm 128 s.rest,s.n⟩:qGv)=nrmS s from rfl,p_Write (nrmS s) _ hh h0 hn,obS,shaW_nrm];have hwh:(shaW s (padB (qA4 s.hash) (qA4 s.hash / 8) s.n)).hash=s.hash:=(wrt_n _ _ (nrmS s) _ h0 hn).2.2;unfold shaS outB;generalize hT:shaW s (padB (qA4 s.hash) (qA4 s.hash / 8) s.n)=T at hwh ⊢
 cases hc:decide (T.hash=1) with
 | true =>
  simp only [cnT];rw [p_out32,obS,by32_nrm]
 | false =>
  simp only [cnF];have hl:((sumZ T.hash:Nat):Int)≤((itr (by64 T.long) 8 (0,([]:List Int))).2.length:Int):=by
   rw [by64_len];have:sumZ T.hash≤64:=sumZ_le _;simp only [List.length_nil];omega
  rw [p_out64 _ _ _ _ _ _ _ (qBh _ _) (qBh _ _) (qBh _ _) (qBh _ _) (qBh _ _) (qBh _ _) (qBh _ _),obS,p_Size,obS,obS,by64_nrm];dsimp only;generalize (itr (by64 T.long) 8 (0,([]:List Int))).2=O at hl ⊢
  refine (qAb (by refine ⟨?_,by omega,by omega,hl⟩; trivial) _).trans ?_;rw [Int.toNat_natCast];rfl
theorem shaS_len (s:qGv) (hh:s.hash=1∨s.hash=2∨s.hash=3) (h0:0≤s.n) (hn:s.n<18446744073709551616):(shaS s).length=sumZ s.hash:=by
 have hwh:(shaW s (padB (qA4 s.hash) (qA4 s.hash / 8) s.n)).hash=s.hash:=(wrt_n _ _ (nrmS s) _ h0 hn).2.2;unfold shaS outB;rw [hwh];rcases hh with h | h | h <;> rw [h]
 ·rw [deT rfl,cnT,by32_len];rfl
 ·rw [deF (by decide),cnF,List.length_take,by64_len];rfl
 ·rw [deF (by decide),cnF,List.length_take,by64_len];rfl
set_option maxRecDepth 100000
noncomputable section
structure qG5 where
 minus:Bool
 digits:(List Int)
 off:Int
 down:Bool
 exp_:(List Int)
 plain:Bool
 text:BA
def zbt_q:IQ:=(.seq (rg 4 [oP 4 (.mv vF)]) (.seq (rg 4 [oM 5 t1,oM 6 t0,oP 7 (.lenS t6),oP 8 (.bi .lss t5 t7),oM 9 t8,oF 10 (.mv t0) 9,oF 11 (.mv t1) 9,oF 12 (.index t10 t11) 9,oF 13 (.bi .geq t12 (vC 48)) 9,oP 14 (.pick t9 t13 vF),oM 15 t14,oF 16 (.mv t0) 15,oF 17 (.mv t1) 15,oF 18 (.index t16 t17) 15,oF 19 (.bi .leq t18 (vC 57)) 15,oP 20 (.pick t15 t19 vF),oM 4 t20]) (.cn [4] .ret)))
def zbt_s (s:BA) (at_:Int):Option Bool :=
 gd ((decide (at_<(s.size:Int)))=true→0≤at_∧at_<s.size) <|
 gd (((decide (at_<(s.size:Int))) && (decide ((48:Int)≤(bAt s at_))))=true→0≤at_∧at_<s.size) <|
 some (((decide (at_<(s.size:Int))) && (decide ((48:Int)≤(bAt s at_)))) && (decide ((bAt s at_)≤(57:Int))))
def zbt_c:CS:=mkC (qAa (dVC (dCO dS)) (qAa (dVC (dCO dZ)) dNil)) dNil (fun x y=>zbt_s x.1 x.2.1) (fun x y r=>.c (.o (.vB r))) fun x y r=>[]
theorem zbt_val:qAl Tryd.prog 75 zbt_c:=vl0 zbt_q [.tmp 4] 21 5 0 [] trivial fun x y=>by
 simp only [zbt_s,-eq_self,sZ];kernel_rfl
def zbt_w:CQ:=qBu [] zbt_c
theorem zbt_ok:qAi Tryd.prog 75 zbt_w:=qAw zbt_val
def zbu_b0:IQ:=(.loop [0,1] (.seq (.seq (rg 7 [oM 5 t0,oM 6 t1,oP 7 (.call 75 [t5,t6])]) (.cond t7 .skip (.cn [1] (.exit 0)))) (.block 1 (rg 1 [oM 8 t1,oP 9 (.bi .add t8 (vI 1)),oM 1 t9]))))
def zbu_q:IQ:=(.seq (rg 4 [oP 4 (.mv (vI 0))]) (.seq (.block 0 (.cn [0,1] (.sub 0 zbu_b0))) (.seq (rg 4 [oM 10 t1,oM 4 t10]) (.cn [4] .ret))))
def zbu_p0_step (s:BA) (at_:Int):Option (Int ⊕ Int) :=
 (zbt_s s at_).bind fun r2 =>
 bif r2 then (
  gd (qAc (at_+(1:Int))) <|
  some (.inl (at_+(1:Int))))
 else (
  some (.inr at_))
def zbu_p0 (s:BA) (at_:Int):Option Int :=
 qAn (fun x:Int=>zbu_p0_step s x) at_
def zbu_s (s:BA) (at_:Int):Option Int :=
 (zbu_p0 s at_).bind fun o3 =>
 some o3
def zbu_G:Nat→Option CQ:=tblQ [(75,zbt_w)]
def zbu_d0:=(dQS (qAa (dSO 0 dS) (qAa (dSO 1 dZ) dNil)) dNil)
def zbu_l0:SubQ:=mkL zbu_d0 (fun x=>zbu_p0 x.1.1 x.1.2.1) fun x r R kn kx kr=>kx 0 ⟨[sL 1 (.vI r)],[],[]⟩
def zbu_L:Nat→SubQ:=tblL [(0,zbu_l0)]
theorem zbu_sub0:qA2 zbu_L zbu_G 0 5 11 0 zbu_b0:=qAm (show zbu_L 0=zbu_l0 from by kernel_rfl) fun x R kn kx kr=>qAf (step:=fun y=>zbu_p0_step x.1.1 y) (enc:=fun (y:Int)=>zbu_d0.e ((x.1.1,y,x.1.2.2),x.2)) (fun y=>by kernel_rfl) (fun y ki=>by simp only [zbu_p0_step,-eq_self,sZ]; kernel_rfl) x.1.2.1
def zbu_c:CS:=mkC (qAa (dVC (dCO dS)) (qAa (dVC (dCO dZ)) dNil)) dNil (fun x y=>zbu_s x.1 x.2.1) (fun x y r=>.c (.o (.vI r))) fun x y r=>[]
theorem zbu_val:qAl Tryd.prog 74 zbu_c:=vl1 zbu_q [.tmp 4] 11 5 0 (show qA8 zbu_L zbu_G 0 5 11 [(0,zbu_b0)] from ⟨zbu_sub0,tV⟩) (qAs ⟨zbt_ok,tV⟩) fun x y=>by
 simp only [zbu_s,-eq_self,sZ];kernel_rfl
def zbu_w:CQ:=qBu [] zbu_c
theorem zbu_ok:qAi Tryd.prog 74 zbu_w:=qAw zbu_val
def zbq_b3:IQ:=(.loop [0,2,4,7,9,10] (.seq (.seq (rg 140 [oM 138 t10,oM 139 t9,oP 140 (.bi .lss t138 t139)]) (.cond t140 .skip (.cn [0,2,4,7,9] (.exit 0)))) (.seq (.block 1 (.seq (rg 152 [oM 143 t0,oM 144 t10,oP 145 (.index t143 t144),oP 146 (.bi .neq t145 (vC 48)),oM 147 t146,oE 148 (.faddr 4 t4) 147,oE 149 (.load none t148) 147,oE 150 (.len t149) 147,oE 151 (.bi .gtr t150 (vI 0)) 147,oP 152 (.pick t147 vT t151)]) (.cond t152 (.reg 0 (some [0,1,2,3,4,5,6,7,8,9,10]) [oP 153 (.faddr 4 t4),oP 154 (.load none t153),oM 155 t0,oM 156 t10,oP 157 (.index t155 t156),oP 158 (.bi .sub t157 (vC 48)),oP 159 (.conv false .i64 t158),oP 160 (.bslice 3 1 1 [.int .i64 0] [(0,t159)]),oP 161 (.append 3 1 8 [.int .i64 0] t154 t160),oP 162 (.faddr 4 t4),oN (.store 1 t162 t161)]) .skip))) (rg 10 [oM 141 t10,oP 142 (.bi .add t141 (vI 1)),oM 10 t142]))))
def zbq_b2:IQ:=(.join [] [0,2,4,5,7] (.seq (rg 9 [oM 130 t0,oM 131 t5,oP 132 (.call 74 [t130,t131]),oM 9 t132]) (.seq (.seq (rg 135 [oM 133 t9,oM 134 t5,oP 135 (.bi .eql t133 t134)]) (.cond t135 (.seq (rg 3 [oP 136 (.load (some 7) t4),oN (.store 7 t2 t136),oP 3 (.mv vF)]) (.canon [(2,some 1,.i64,3),(2,some 4,.i64,3)] [2,3] .ret)) .skip)) (.seq (.seq (rg 10 [oM 137 t5,oM 10 t137]) (.block 0 (.canon [(4,some 4,.i64,3)] [0,2,4,7,9,10] (.sub 3 zbq_b3)))) (rg 5 [oM 163 t9,oM 5 t163])))))
def zbq_b5:IQ:=(.loop [2,4,7,11] (.seq (.seq (rg 172 [oM 169 t11,oM 170 t7,oP 171 (.lenS t170),oP 172 (.bi .lss t169 t171)]) (.cond t172 .skip (.cn [2,4] (.exit 2)))) (.seq (.block 3 (.seq (rg 12 [oM 175 t7,oM 176 t11,oP 177 (.index t175 t176),oP 178 (.bi .sub t177 (vC 48)),oP 179 (.conv false .i64 t178),oM 12 t179]) (.seq (rg 187 [oM 180 t12,oP 181 (.bi .neq t180 (vI 0)),oM 182 t181,oE 183 (.faddr 1 t4) 182,oE 184 (.load none t183) 182,oE 185 (.len t184) 182,oE 186 (.bi .gtr t185 (vI 0)) 182,oP 187 (.pick t182 vT t186)]) (.cond t187 (rg 0 [oP 188 (.faddr 1 t4),oP 189 (.load none t188),oM 190 t12,oP 191 (.bslice 3 1 1 [.int .i64 0] [(0,t190)]),oP 192 (.append 3 1 8 [.int .i64 0] t189 t191),oP 193 (.faddr 1 t4),oN (.store 1 t193 t192)]) (rg 0 [oP 194 (.faddr 2 t4),oP 195 (.load none t194),oP 196 (.bi .sub t195 (vI 1)),oP 197 (.faddr 2 t4),oN (.store 1 t197 t196)]))))) (rg 11 [oM 173 t11,oP 174 (.bi .add t173 (vI 1)),oM 11 t174]))))
def zbq_b6:IQ:=(.loop [2,4] (.seq (.seq (rg 212 [oP 198 (.faddr 1 t4),oP 199 (.load none t198),oP 200 (.len t199),oP 201 (.bi .gtr t200 (vI 0)),oM 202 t201,oF 203 (.faddr 1 t4) 202,oF 204 (.load none t203) 202,oF 205 (.faddr 1 t4) 202,oF 206 (.load none t205) 202,oF 207 (.len t206) 202,oF 208 (.bi .sub t207 (vI 1)) 202,oF 209 (.iaddr 1 t204 t208) 202,oF 210 (.load none t209) 202,oF 211 (.bi .eql t210 (vI 0)) 202,oP 212 (.pick t202 t211 vF)]) (.cond t212 .skip (.cn [2,4] (.exit 4)))) (.block 5 (rg 0 [oP 213 (.faddr 1 t4),oP 214 (.load none t213),oP 215 (.faddr 1 t4),oP 216 (.load none t215),oP 217 (.len t216),oP 218 (.bi .sub t217 (vI 1)),oP 219 (.sub (some 1) t214 none (some t218)),oP 220 (.faddr 1 t4),oN (.store 1 t220 t219)]))))
def zbq_b4:IQ:=(.seq (.seq (rg 167 [oM 164 t5,oM 165 t0,oP 166 (.lenS t165),oP 167 (.bi .neq t164 t166)]) (.cond t167 (.seq (rg 3 [oP 168 (.load (some 7) t4),oN (.store 7 t2 t168),oP 3 (.mv vF)]) (.canon [(2,some 1,.i64,3),(2,some 4,.i64,3)] [2,3] .ret)) .skip)) (.seq (.seq (rg 11 [oP 11 (.mv (vI 0))]) (.block 2 (.canon [(4,some 1,.i64,3)] [2,4,7,11] (.sub 5 zbq_b5)))) (.seq (.block 4 (.cn [2,4] (.sub 6 zbq_b6))) (.seq (rg 3 [oP 221 (.load (some 7) t4),oN (.store 7 t2 t221),oP 3 (.mv vT)]) (.canon [(2,some 1,.i64,3),(2,some 4,.i64,3)] [2,3] .ret)))))
def zbq_b1:IQ:=(.seq (.seq (rg 103 [oM 88 t5,oM 89 t0,oP 90 (.lenS t89),oP 91 (.bi .lss t88 t90),oM 92 t91,oF 93 (.mv t0) 92,oF 94 (.mv t5) 92,oF 95 (.index t93 t94) 92,oF 96 (.bi .eql t95 (vC 101)) 92,oF 97 (.mv t96) 92,oE 98 (.mv t0) 97,oE 99 (.mv t5) 97,oE 100 (.index t98 t99) 97,oE 101 (.bi .eql t100 (vC 69)) 97,oF 102 (.pick t97 vT t101) 92,oP 103 (.pick t92 t102 vF)]) (.cond t103 (.seq (rg 0 [oP 104 (.faddr 5 t4),oN (.store 1 t104 vF)]) (.seq (rg 5 [oM 105 t5,oP 106 (.bi .add t105 (vI 1)),oM 5 t106]) (.seq (.seq (rg 122 [oM 107 t5,oM 108 t0,oP 109 (.lenS t108),oP 110 (.bi .lss t107 t109),oM 111 t110,oF 112 (.mv t0) 111,oF 113 (.mv t5) 111,oF 114 (.index t112 t113) 111,oF 115 (.bi .eql t114 (vC 43)) 111,oF 116 (.mv t115) 111,oE 117 (.mv t0) 116,oE 118 (.mv t5) 116,oE 119 (.index t117 t118) 116,oE 120 (.bi .eql t119 (vC 45)) 116,oF 121 (.pick t116 vT t120) 111,oP 122 (.pick t111 t121 vF)]) (.cond t122 (.seq (rg 0 [oM 123 t0,oM 124 t5,oP 125 (.index t123 t124),oP 126 (.bi .eql t125 (vC 45)),oP 127 (.faddr 3 t4),oN (.store 1 t127 t126)]) (rg 5 [oM 128 t5,oP 129 (.bi .add t128 (vI 1)),oM 5 t129])) .skip)) (.cn [0,2,4,5,7] (.sub 2 zbq_b2))))) .skip)) (.canon [(4,some 4,.i64,3)] [0,2,4,5,7] (.sub 4 zbq_b4)))
def zbq_b0:IQ:=(.seq (rg 6 [oM 27 t5,oM 6 t27]) (.seq (rg 5 [oM 28 t0,oM 29 t5,oP 30 (.call 74 [t28,t29]),oM 5 t30]) (.seq (.seq (rg 45 [oM 31 t5,oM 32 t6,oP 33 (.bi .eql t31 t32),oM 34 t33,oE 35 (.mv t0) 34,oE 36 (.mv t6) 34,oE 37 (.index t35 t36) 34,oE 38 (.bi .eql t37 (vC 48)) 34,oE 39 (.mv t38) 34,oF 40 (.mv t5) 39,oF 41 (.mv t6) 39,oF 42 (.bi .add t41 (vI 1)) 39,oF 43 (.bi .gtr t40 t42) 39,oE 44 (.pick t39 t43 vF) 34,oP 45 (.pick t34 vT t44)]) (.cond t45 (.seq (rg 3 [oP 46 (.load (some 7) t4),oN (.store 7 t2 t46),oP 3 (.mv vF)]) (.canon [(2,some 1,.i64,3),(2,some 4,.i64,3)] [2,3] .ret)) .skip)) (.seq (rg 0 [oM 47 t0,oM 48 t6,oM 49 t5,oP 50 (.sub none t47 (some t48) (some t49)),oP 51 (.faddr 6 t4),oN (.store 1 t51 t50)]) (.seq (rg 7 [oM 52 t0,oM 53 t6,oM 54 t5,oP 55 (.sub none t52 (some t53) (some t54)),oM 7 t55]) (.seq (rg 0 [oM 56 t5,oM 57 t6,oP 58 (.bi .sub t56 t57),oP 59 (.faddr 2 t4),oN (.store 1 t59 t58)]) (.seq (.seq (rg 69 [oM 60 t5,oM 61 t0,oP 62 (.lenS t61),oP 63 (.bi .lss t60 t62),oM 64 t63,oF 65 (.mv t0) 64,oF 66 (.mv t5) 64,oF 67 (.index t65 t66) 64,oF 68 (.bi .eql t67 (vC 46)) 64,oP 69 (.pick t64 t68 vF)]) (.cond t69 (.seq (rg 0 [oP 70 (.faddr 5 t4),oN (.store 1 t70 vF)]) (.seq (rg 8 [oM 71 t0,oM 72 t5,oP 73 (.bi .add t72 (vI 1)),oP 74 (.call 74 [t71,t73]),oM 8 t74]) (.seq (.seq (rg 78 [oM 75 t8,oM 76 t5,oP 77 (.bi .add t76 (vI 1)),oP 78 (.bi .eql t75 t77)]) (.cond t78 (.seq (rg 3 [oP 79 (.load (some 7) t4),oN (.store 7 t2 t79),oP 3 (.mv vF)]) (.canon [(2,some 1,.i64,3),(2,some 4,.i64,3)] [2,3] .ret)) .skip)) (.seq (rg 7 [oM 80 t7,oM 81 t0,oM 82 t5,oP 83 (.bi .add t82 (vI 1)),oM 84 t8,oP 85 (.sub none t81 (some t83) (some t84)),oP 86 (.bi .add t80 t85),oM 7 t86]) (rg 5 [oM 87 t8,oM 5 t87]))))) .skip)) (.cn [0,2,4,5,7] (.sub 1 zbq_b1)))))))))
def zbq_q:IQ:=(.seq (rg 3 [oP 2 (.alloc 104 [.bool false,.slice none 0 0,.int .i64 0,.bool false,.slice none 0 0,.bool false,.string ⟨#[]⟩]),oP 3 (.mv vF)]) (.seq (rg 0 [oP 13 (.build [.bool false,.slice none 0 0,.int .i64 0,.bool false,.slice none 0 0,.bool false,.string ⟨#[]⟩] [(5,1,vT)]),oP 4 (.alloc 104 [.bool false,.slice none 0 0,.int .i64 0,.bool false,.slice none 0 0,.bool false,.string ⟨#[]⟩]),oN (.store 7 t4 t13)]) (.seq (rg 5 [oP 5 (.mv (vI 0))]) (.seq (.seq (rg 23 [oM 14 t5,oM 15 t0,oP 16 (.lenS t15),oP 17 (.bi .lss t14 t16),oM 18 t17,oF 19 (.mv t0) 18,oF 20 (.mv t5) 18,oF 21 (.index t19 t20) 18,oF 22 (.bi .eql t21 (vC 45)) 18,oP 23 (.pick t18 t22 vF)]) (.cond t23 (.seq (rg 0 [oP 24 (.faddr 0 t4),oN (.store 1 t24 vT)]) (rg 5 [oM 25 t5,oP 26 (.bi .add t25 (vI 1)),oM 5 t26])) .skip)) (.cn [0,2,4,5] (.sub 0 zbq_b0))))))
def zbq_p3_step (s:BA) (k_ i:Int) (qHa:List Int):Option ((Int × (List Int)) ⊕ ((List Int))) :=
 bif decide (i<k_) then (
  gd (0≤i∧i<s.size) <|
  bif ((!decide ((bAt s i)=(48:Int))) || (decide ((0:Int)<(qHa.length:Int)))) then (
   gd (0≤i∧i<s.size) <|
   gd (qAc (((bAt s i) - (48:Int)) % 256)) <|
   gd (qHa.length+([(((bAt s i) - (48:Int)) % 256)]:List Int).length≤9223372036854775807∧(qHa.length+([(((bAt s i) - (48:Int)) % 256)]:List Int).length)*8≤140737488355328) <|
   gd (qAc (i+(1:Int))) <|
   some (.inl ((i+(1:Int)),(qHa++[(((bAt s i) - (48:Int)) % 256)]))))
  else (
   gd (qAc (i+(1:Int))) <|
   some (.inl ((i+(1:Int)),qHa))))
 else (
  some (.inr qHa))
def zbq_p3 (s:BA) (k_ i:Int) (qHa:List Int):Option ((List Int)) :=
 qAn (fun x:(Int × (List Int))=>zbq_p3_step s k_ x.1 x.2) (i,qHa)
def zbq_p2 (s:BA) (at_:Int):Option ((Bool × (List Int) × (List Int)) ⊕ (Int × (List Int))) :=
 (zbu_s s at_).bind fun r81 =>
 bif decide (r81=at_) then (
  some (.inl (false,[],[])))
 else (
  (zbq_p3 s r81 at_ []).bind fun o82 =>
  some (.inr (r81,o82)))
def zbq_p5_step (all:BA) (i qG0:Int) (qGx:List Int):Option ((Int × Int × (List Int)) ⊕ (Int × (List Int))) :=
 bif decide (i<(all.size:Int)) then (
  gd (0≤i∧i<all.size) <|
  gd (qAc (((bAt all i) - (48:Int)) % 256)) <|
  bif ((!decide ((((bAt all i) - (48:Int)) % 256)=(0:Int))) || (decide ((0:Int)<(qGx.length:Int)))) then (
   gd (qGx.length+([(((bAt all i) - (48:Int)) % 256)]:List Int).length≤9223372036854775807∧(qGx.length+([(((bAt all i) - (48:Int)) % 256)]:List Int).length)*8≤140737488355328) <|
   gd (qAc (i+(1:Int))) <|
   some (.inl ((i+(1:Int)),qG0,(qGx++[(((bAt all i) - (48:Int)) % 256)]))))
  else (
   gd (qAc (qG0 - (1:Int))) <|
   gd (qAc (i+(1:Int))) <|
   some (.inl ((i+(1:Int)),(qG0 - (1:Int)),qGx))))
 else (
  some (.inr (qG0,qGx)))
def zbq_p5 (all:BA) (i qG0:Int) (qGx:List Int):Option (Int × (List Int)) :=
 qAn (fun x:(Int × Int × (List Int))=>zbq_p5_step all x.1 x.2.1 x.2.2) (i,qG0,qGx)
def zbq_p6_step (qGx:List Int):Option (((List Int)) ⊕ ((List Int))) :=
 gd ((decide ((0:Int)<(qGx.length:Int)))=true→qAc ((qGx.length:Int) - (1:Int))) <|
 gd ((decide ((0:Int)<(qGx.length:Int)))=true→0≤((qGx.length:Int) - (1:Int))∧((qGx.length:Int) - (1:Int))<qGx.length) <|
 gd ((decide ((0:Int)<(qGx.length:Int)))=true→(Int.toNat ((qGx.length:Int) - (1:Int)))<qGx.length) <|
 bif ((decide ((0:Int)<(qGx.length:Int))) && (decide ((qGx.getD (Int.toNat ((qGx.length:Int) - (1:Int))) (ET.dft .i64))=(0:Int)))) then (
  gd (qAc ((qGx.length:Int) - (1:Int))) <|
  gd (0≤((qGx.length:Int) - (1:Int))∧((qGx.length:Int) - (1:Int))≤qGx.length) <|
  some (.inl (qGx.take (Int.toNat ((qGx.length:Int) - (1:Int))))))
 else (
  some (.inr qGx))
def zbq_p6 (qGx:List Int):Option ((List Int)) :=
 qAn (fun x:((List Int))=>zbq_p6_step x) qGx
def zbq_p4 (s:BA) (at_:Int) (all:BA) (qG0:Int):Option (Bool × Int × (List Int)) :=
 bif (!decide (at_=(s.size:Int))) then (
  some (false,qG0,[]))
 else (
  (zbq_p5 all (0:Int) qG0 []).bind fun o84 =>
  (zbq_p6 o84.2).bind fun o85 =>
  some (true,o84.1,o85))
def zbq_p1 (s:BA) (at_:Int) (all:BA) (qG0:Int) (qG6 qHt:Bool):Option (Bool × Int × Bool × Bool × (List Int) × (List Int)) :=
 gd ((decide (at_<(s.size:Int)))=true→0≤at_∧at_<s.size) <|
 gd ((decide ((bAt s at_)=(101:Int)))=false→(decide (at_<(s.size:Int)))=true→0≤at_∧at_<s.size) <|
 bif ((decide (at_<(s.size:Int))) && ((decide ((bAt s at_)=(101:Int))) || (decide ((bAt s at_)=(69:Int))))) then (
  gd (qAc (at_+(1:Int))) <|
  gd ((decide ((at_+(1:Int))<(s.size:Int)))=true→0≤(at_+(1:Int))∧(at_+(1:Int))<s.size) <|
  gd ((decide ((bAt s (at_+(1:Int)))=(43:Int)))=false→(decide ((at_+(1:Int))<(s.size:Int)))=true→0≤(at_+(1:Int))∧(at_+(1:Int))<s.size) <|
  bif ((decide ((at_+(1:Int))<(s.size:Int))) && ((decide ((bAt s (at_+(1:Int)))=(43:Int))) || (decide ((bAt s (at_+(1:Int)))=(45:Int))))) then (
   gd (0≤(at_+(1:Int))∧(at_+(1:Int))<s.size) <|
   gd (qAc ((at_+(1:Int))+(1:Int))) <|
   (zbq_p2 s ((at_+(1:Int))+(1:Int))).bind fun o83=>(Sum.elim (fun (o83_0:Bool × (List Int) × (List Int)) =>
    some (o83_0.1,qG0,decide ((bAt s (at_+(1:Int)))=(45:Int)),false,o83_0.2.1,o83_0.2.2)) (fun (o83_1:Int × (List Int)) =>
    (zbq_p4 s o83_1.1 all qG0).bind fun o86 =>
    some (o86.1,o86.2.1,decide ((bAt s (at_+(1:Int)))=(45:Int)),false,o86.2.2,o83_1.2))) o83)
  else (
   (zbq_p2 s (at_+(1:Int))).bind fun o87=>(Sum.elim (fun (o87_0:Bool × (List Int) × (List Int)) =>
    some (o87_0.1,qG0,qG6,false,o87_0.2.1,o87_0.2.2)) (fun (o87_1:Int × (List Int)) =>
    (zbq_p4 s o87_1.1 all qG0).bind fun o88 =>
    some (o88.1,o88.2.1,qG6,false,o88.2.2,o87_1.2))) o87))
 else (
  (zbq_p4 s at_ all qG0).bind fun o89 =>
  some (o89.1,o89.2.1,qG6,qHt,o89.2.2,[]))
def zbq_p0 (s:BA) (at_ qG0:Int) (qG6 qHt:Bool) (qG3:BA):Option (Bool × Int × Bool × Bool × BA × (List Int) × (List Int)) :=
 (zbu_s s at_).bind fun r79 =>
 gd ((decide (r79=at_))=false→0≤at_∧at_<s.size) <|
 gd ((decide ((bAt s at_)=(48:Int)))=true→(decide (r79=at_))=false→qAc (at_+(1:Int))) <|
 bif ((decide (r79=at_)) || ((decide ((bAt s at_)=(48:Int))) && (decide ((at_+(1:Int))<r79)))) then (
  some (false,qG0,qG6,qHt,qG3,[],[]))
 else (
  gd (0≤at_∧at_≤r79∧r79≤s.size) <|
  gd (0≤at_∧at_≤r79∧r79≤s.size) <|
  gd (qAc (r79 - at_)) <|
  gd ((decide (r79<(s.size:Int)))=true→0≤r79∧r79<s.size) <|
  bif ((decide (r79<(s.size:Int))) && (decide ((bAt s r79)=(46:Int)))) then (
   gd (qAc (r79+(1:Int))) <|
   (zbu_s s (r79+(1:Int))).bind fun r80 =>
   gd (qAc (r79+(1:Int))) <|
   bif decide (r80=(r79+(1:Int))) then (
    some (false,(r79 - at_),qG6,false,(s.extract (Int.toNat at_) (Int.toNat r79)),[],[]))
   else (
    gd (qAc (r79+(1:Int))) <|
    gd (0≤(r79+(1:Int))∧(r79+(1:Int))≤r80∧r80≤s.size) <|
    gd ((s.extract (Int.toNat at_) (Int.toNat r79)).size+(s.extract (Int.toNat (r79+(1:Int))) (Int.toNat r80)).size≤9223372036854775807) <|
    (zbq_p1 s r80 ((s.extract (Int.toNat at_) (Int.toNat r79))++(s.extract (Int.toNat (r79+(1:Int))) (Int.toNat r80))) (r79 - at_) qG6 false).bind fun o90 =>
    some (o90.1,o90.2.1,o90.2.2.1,o90.2.2.2.1,(s.extract (Int.toNat at_) (Int.toNat r79)),o90.2.2.2.2.1,o90.2.2.2.2.2)))
  else (
   (zbq_p1 s r79 (s.extract (Int.toNat at_) (Int.toNat r79)) (r79 - at_) qG6 qHt).bind fun o91 =>
   some (o91.1,o91.2.1,o91.2.2.1,o91.2.2.2.1,(s.extract (Int.toNat at_) (Int.toNat r79)),o91.2.2.2.2.1,o91.2.2.2.2.2)))
def zbq_s (s:BA):Option (qG5 × Bool) :=
 gd ((decide ((0:Int)<(s.size:Int)))=true→0≤(0:Int)∧(0:Int)<s.size) <|
 bif ((decide ((0:Int)<(s.size:Int))) && (decide ((bAt s (0:Int))=(45:Int)))) then (
  gd (qAc ((0:Int)+(1:Int))) <|
  (zbq_p0 s ((0:Int)+(1:Int)) (0:Int) false true (⟨#[]⟩:BA)).bind fun o92 =>
  some ((⟨true,o92.2.2.2.2.2.1,o92.2.1,o92.2.2.1,o92.2.2.2.2.2.2,o92.2.2.2.1,o92.2.2.2.2.1⟩:qG5),o92.1))
 else (
  (zbq_p0 s (0:Int) (0:Int) false true (⟨#[]⟩:BA)).bind fun o93 =>
  some ((⟨false,o93.2.2.2.2.2.1,o93.2.1,o93.2.2.1,o93.2.2.2.2.2.2,o93.2.2.2.1,o93.2.2.2.2.1⟩:qG5),o93.1))
def zbq_G:Nat→Option CQ:=tblQ [(74,zbu_w)]
def zDGC1:=(qAy 104 (qAa dB (qAa dNS (qAa dZ (qAa dB (qAa dNS (qAa dB (qAa dS dNil))))))))
def zDGC3:=(qAa dZ (qAa dB (qAa (dO 2) (qAa dB (qAa dS dNil)))))
def zbq_d3:=(dQS (qAa (dSO 0 dS) (qAa (dSO 2 (dH 0 0)) (qAa (dSO 4 (dH 1 0)) (qAa (dSO 7 dS) (qAa (dSO 9 dZ) (qAa (dSO 10 dZ) dNil)))))) (qAa zDGC1 (qAa (qAy 104 (qAa dB (qAa dNS zDGC3))) (qAa (dRow .i64 3) dNil))))
def zbq_l3:SubQ:=mkL zbq_d3 (fun x=>zbq_p3 x.1.1 x.1.2.2.2.2.1 x.1.2.2.2.2.2.1 x.2.2.2.1) fun x r R kn kx kr=>kx 0 ⟨[sL 0 (.vS x.1.1),sL 2 (.hd 0 0),sL 4 (.hd 1 0),sL 7 (.vS x.1.2.2.2.1),sL 9 (.vI x.1.2.2.2.2.1)],[],[.cells 104 [.vB x.2.1.1,.val (.slice none 0 0),.vI x.2.1.2.2.1,.vB x.2.1.2.2.2.1,.val (.slice none 0 0),.vB x.2.1.2.2.2.2.2.1,.vS x.2.1.2.2.2.2.2.2.1],.cells 104 [.vB x.2.2.1.1,.val (.slice none 0 0),.vI x.2.2.1.2.2.1,.vB x.2.2.1.2.2.2.1,.own 2,.vB x.2.2.1.2.2.2.2.2.1,.vS x.2.2.1.2.2.2.2.2.2.1],.row .i64 3 r]⟩
def zDGC2:=(qAa (dSO 0 dS) (qAa (dSO 2 (dH 0 0)) (qAa (dSO 4 (dH 1 0)) (qAa (dSO 5 dZ) (qAa (dSO 7 dS) dNil)))))
def zDGC5:=(qAa zDGC1 (qAa zDGC1 dNil))
def zbq_d2:=(dQS zDGC2 zDGC5)
def zbq_l2:SubQ:=mkL zbq_d2 (fun x=>zbq_p2 x.1.1 x.1.2.2.2.1) fun x r R kn kx kr=>(Sum.elim (fun (r_0:Bool × (List Int) × (List Int))=>kr ⟨[sL 2 (.hd 0 0),sL 3 (.vB r_0.1)],[],[.cells 104 [.vB x.2.2.1.1,.own 1,.vI x.2.2.1.2.2.1,.vB x.2.2.1.2.2.2.1,.own 2,.vB x.2.2.1.2.2.2.2.2.1,.vS x.2.2.1.2.2.2.2.2.2.1],.row .i64 3 r_0.2.1,.row .i64 3 r_0.2.2]⟩) (fun (r_1:Int × (List Int))=>kn ⟨[sL 0 (.vS x.1.1),sL 2 (.hd 0 0),sL 4 (.hd 1 0),sL 5 (.vI r_1.1),sL 7 (.vS x.1.2.2.2.2.1)],[],[.cells 104 [.vB x.2.1.1,.val (.slice none 0 0),.vI x.2.1.2.2.1,.vB x.2.1.2.2.2.1,.val (.slice none 0 0),.vB x.2.1.2.2.2.2.2.1,.vS x.2.1.2.2.2.2.2.2.1],.cells 104 [.vB x.2.2.1.1,.val (.slice none 0 0),.vI x.2.2.1.2.2.1,.vB x.2.2.1.2.2.2.1,.own 2,.vB x.2.2.1.2.2.2.2.2.1,.vS x.2.2.1.2.2.2.2.2.2.1],.row .i64 3 r_1.2]⟩)) r
def zDGC4:=(qAa (dRow .i64 3) (qAa (dRow .i64 3) dNil))
def zbq_d5:=(dQS (qAa (dSO 2 (dH 0 0)) (qAa (dSO 4 (dH 1 0)) (qAa (dSO 7 dS) (qAa (dSO 11 dZ) dNil)))) (qAa zDGC1 (qAa (qAy 104 (qAa dB (qAa (dO 2) (qAa dZ (qAa dB (qAa (dO 3) (qAa dB (qAa dS dNil)))))))) zDGC4)))
def zbq_l5:SubQ:=mkL zbq_d5 (fun x=>zbq_p5 x.1.2.2.1 x.1.2.2.2.1 x.2.2.1.2.2.1 x.2.2.2.1) fun x r R kn kx kr=>kx 2 ⟨[sL 2 (.hd 0 0),sL 4 (.hd 1 0)],[],[.cells 104 [.vB x.2.1.1,.val (.slice none 0 0),.vI x.2.1.2.2.1,.vB x.2.1.2.2.2.1,.val (.slice none 0 0),.vB x.2.1.2.2.2.2.2.1,.vS x.2.1.2.2.2.2.2.2.1],.cells 104 [.vB x.2.2.1.1,.own 2,.vI r.1,.vB x.2.2.1.2.2.2.1,.own 3,.vB x.2.2.1.2.2.2.2.2.1,.vS x.2.2.1.2.2.2.2.2.2.1],.row .i64 3 r.2,.row .i64 3 x.2.2.2.2.1]⟩
def zbq_d6:=(dQS (qAa (dSO 2 (dH 0 0)) (qAa (dSO 4 (dH 1 0)) dNil)) (qAa zDGC1 (qAa (qAy 104 (qAa dB (qAa (dO 2) (qAa dZ (qAa dB (qAa (dO 3) (qAa dB (qAa dS dNil)))))))) zDGC4)))
def zbq_l6:SubQ:=mkL zbq_d6 (fun x=>zbq_p6 x.2.2.2.1) fun x r R kn kx kr=>kx 4 ⟨[sL 2 (.hd 0 0),sL 4 (.hd 1 0)],[],[.cells 104 [.vB x.2.1.1,.val (.slice none 0 0),.vI x.2.1.2.2.1,.vB x.2.1.2.2.2.1,.val (.slice none 0 0),.vB x.2.1.2.2.2.2.2.1,.vS x.2.1.2.2.2.2.2.2.1],.cells 104 [.vB x.2.2.1.1,.own 2,.vI x.2.2.1.2.2.1,.vB x.2.2.1.2.2.2.1,.own 3,.vB x.2.2.1.2.2.2.2.2.1,.vS x.2.2.1.2.2.2.2.2.2.1],.row .i64 3 r,.row .i64 3 x.2.2.2.2.1]⟩
def zbq_d4:=(dQS zDGC2 (qAa zDGC1 (qAa (qAy 104 (qAa dB (qAa dNS zDGC3))) (qAa (dRow .i64 3) dNil))))
def zbq_l4:SubQ:=mkL zbq_d4 (fun x=>zbq_p4 x.1.1 x.1.2.2.2.1 x.1.2.2.2.2.1 x.2.2.1.2.2.1) fun x r R kn kx kr=>kr ⟨[sL 2 (.hd 0 0),sL 3 (.vB r.1)],[],[.cells 104 [.vB x.2.2.1.1,.own 1,.vI r.2.1,.vB x.2.2.1.2.2.2.1,.own 2,.vB x.2.2.1.2.2.2.2.2.1,.vS x.2.2.1.2.2.2.2.2.2.1],.row .i64 3 r.2.2,.row .i64 3 x.2.2.2.1]⟩
def zbq_d1:=(dQS zDGC2 zDGC5)
def zbq_l1:SubQ:=mkL zbq_d1 (fun x=>zbq_p1 x.1.1 x.1.2.2.2.1 x.1.2.2.2.2.1 x.2.2.1.2.2.1 x.2.2.1.2.2.2.1 x.2.2.1.2.2.2.2.2.1) fun x r R kn kx kr=>kr ⟨[sL 2 (.hd 0 0),sL 3 (.vB r.1)],[],[.cells 104 [.vB x.2.2.1.1,.own 1,.vI r.2.1,.vB r.2.2.1,.own 2,.vB r.2.2.2.1,.vS x.2.2.1.2.2.2.2.2.2.1],.row .i64 3 r.2.2.2.2.1,.row .i64 3 r.2.2.2.2.2]⟩
def zbq_d0:=(dQS (qAa (dSO 0 dS) (qAa (dSO 2 (dH 0 0)) (qAa (dSO 4 (dH 1 0)) (qAa (dSO 5 dZ) dNil)))) zDGC5)
def zbq_l0:SubQ:=mkL zbq_d0 (fun x=>zbq_p0 x.1.1 x.1.2.2.2.1 x.2.2.1.2.2.1 x.2.2.1.2.2.2.1 x.2.2.1.2.2.2.2.2.1 x.2.2.1.2.2.2.2.2.2.1) fun x r R kn kx kr=>kr ⟨[sL 2 (.hd 0 0),sL 3 (.vB r.1)],[],[.cells 104 [.vB x.2.2.1.1,.own 1,.vI r.2.1,.vB r.2.2.1,.own 2,.vB r.2.2.2.1,.vS r.2.2.2.2.1],.row .i64 3 r.2.2.2.2.2.1,.row .i64 3 r.2.2.2.2.2.2]⟩
def zbq_L:Nat→SubQ:=tblL [(3,zbq_l3),(2,zbq_l2),(5,zbq_l5),(6,zbq_l6),(4,zbq_l4),(1,zbq_l1),(0,zbq_l0)]
theorem zbq_sub3:qA2 zbq_L zbq_G 0 13 222 3 zbq_b3:=qAm (show zbq_L 3=zbq_l3 from by kernel_rfl) fun x R kn kx kr=>qAf (step:=fun y=>zbq_p3_step x.1.1 x.1.2.2.2.2.1 y.1 y.2) (enc:=fun (y:Int × (List Int))=>zbq_d3.e ((x.1.1,x.1.2.1,x.1.2.2.1,x.1.2.2.2.1,x.1.2.2.2.2.1,y.1,x.1.2.2.2.2.2.2),(x.2.1,x.2.2.1,y.2,x.2.2.2.2))) (fun y=>by kernel_rfl) (fun y ki=>by simp only [zbq_p3_step,-eq_self,sZ]; kernel_rfl) (x.1.2.2.2.2.2.1,x.2.2.2.1)
theorem zbq_sub2:qA2 zbq_L zbq_G 0 13 222 2 zbq_b2:=qAm (show zbq_L 2=zbq_l2 from by kernel_rfl) fun x R kn kx kr=>by
 simp only [zbq_p2,-eq_self,sZ];kernel_rfl
theorem zbq_sub5:qA2 zbq_L zbq_G 0 13 222 5 zbq_b5:=qAm (show zbq_L 5=zbq_l5 from by kernel_rfl) fun x R kn kx kr=>qAf (step:=fun y=>zbq_p5_step x.1.2.2.1 y.1 y.2.1 y.2.2) (enc:=fun (y:Int × Int × (List Int))=>zbq_d5.e ((x.1.1,x.1.2.1,x.1.2.2.1,y.1,x.1.2.2.2.2),(x.2.1,(x.2.2.1.1,x.2.2.1.2.1,y.2.1,x.2.2.1.2.2.2),y.2.2,x.2.2.2.2))) (fun y=>by kernel_rfl) (fun y ki=>by simp only [zbq_p5_step,-eq_self,sZ]; kernel_rfl) (x.1.2.2.2.1,x.2.2.1.2.2.1,x.2.2.2.1)
theorem zbq_sub6:qA2 zbq_L zbq_G 0 13 222 6 zbq_b6:=qAm (show zbq_L 6=zbq_l6 from by kernel_rfl) fun x R kn kx kr=>qAf (step:=fun y=>zbq_p6_step y) (enc:=fun (y:(List Int))=>zbq_d6.e (x.1,(x.2.1,x.2.2.1,y,x.2.2.2.2))) (fun y=>by kernel_rfl) (fun y ki=>by simp only [zbq_p6_step,-eq_self,sZ]; kernel_rfl) x.2.2.2.1
theorem zbq_sub4:qA2 zbq_L zbq_G 0 13 222 4 zbq_b4:=qAm (show zbq_L 4=zbq_l4 from by kernel_rfl) fun x R kn kx kr=>by
 simp only [zbq_p4,-eq_self,sZ];kernel_rfl
theorem zbq_sub1:qA2 zbq_L zbq_G 0 13 222 1 zbq_b1:=qAm (show zbq_L 1=zbq_l1 from by kernel_rfl) fun x R kn kx kr=>by
 simp only [zbq_p1,-eq_self,sZ];kernel_rfl
theorem zbq_sub0:qA2 zbq_L zbq_G 0 13 222 0 zbq_b0:=qAm (show zbq_L 0=zbq_l0 from by kernel_rfl) fun x R kn kx kr=>by
 simp only [zbq_p0,-eq_self,sZ];kernel_rfl
def zbq_c:CS:=mkC (qAa (dVC (dCO dS)) dNil) dNil (fun x y=>zbq_s x.1) (fun x y r=>.tup [.agg [.vB r.1.minus,.own 0,.vI r.1.off,.vB r.1.down,.own 1,.vB r.1.plain,.vS r.1.text],.o (.vB r.2)]) fun x y r=>[.row .i64 3 r.1.digits,.row .i64 3 r.1.exp_]
theorem zbq_val:qAl Tryd.prog 67 zbq_c:=vl1 zbq_q [.cell 2 (some 7),.tmp 3] 222 13 0 (show qA8 zbq_L zbq_G 0 13 222 [(0,zbq_b0),(1,zbq_b1),(2,zbq_b2),(3,zbq_b3),(4,zbq_b4),(5,zbq_b5),(6,zbq_b6)] from ⟨zbq_sub0,zbq_sub1,zbq_sub2,zbq_sub3,zbq_sub4,zbq_sub5,zbq_sub6,tV⟩) (qAs ⟨zbu_ok,tV⟩) fun x y=>by
 simp only [zbq_s,-eq_self,sZ];kernel_rfl
def zbq_w:CQ:=qDb [] zbq_c
theorem zbq_ok:qAi Tryd.prog 67 zbq_w:=qB3 zbq_val
def zbr_q:IQ:=(.seq (rg 2 [oP 2 (.mv vF)]) (.seq (rg 4 [oM 6 t0,oP 7 (.call 67 [t6]),oM 5 t7,oP 8 (.extract t5 0),oP 9 (.extract t5 1),oP 3 (.alloc 104 [.bool false,.slice none 0 0,.int .i64 0,.bool false,.slice none 0 0,.bool false,.string ⟨#[]⟩]),oN (.store 7 t3 t8),oM 4 t9]) (.seq (rg 2 [oM 10 t4,oM 2 t10]) (.cn [2] .ret))))
def zbr_s (text:BA):Option Bool :=
 (zbq_s text).bind fun r1 =>
 some r1.2
def zbr_c:CS:=mkC (qAa (dVC (dCO dS)) dNil) dNil (fun x y=>zbr_s x.1) (fun x y r=>.c (.o (.vB r))) fun x y r=>[]
theorem zbr_val:qAl Tryd.prog 62 zbr_c:=vl0 zbr_q [.tmp 2] 11 5 0 [(67,zbq_w)] ⟨zbq_ok,tV⟩ fun x y=>by
 simp only [zbr_s,-eq_self,sZ];kernel_rfl
def zbr_w:CQ:=qBu [] zbr_c
theorem zbr_ok:qAi Tryd.prog 62 zbr_w:=qAw zbr_val
def zbs_b0:IQ:=(.loop [4,6,7] (.seq (.seq (rg 25 [oM 21 t7,oP 22 (.faddr 6 t4),oP 23 (.load none t22),oP 24 (.lenS t23),oP 25 (.bi .lss t21 t24)]) (.cond t25 .skip (.cn [4,6] (.exit 0)))) (.seq (.block 1 (.seq (rg 8 [oP 28 (.faddr 6 t4),oP 29 (.load none t28),oM 30 t7,oP 31 (.index t29 t30),oP 32 (.bi .sub t31 (vC 48)),oP 33 (.conv false .i64 t32),oM 8 t33]) (.seq (.seq (rg 38 [oM 34 t6,oM 35 t8,oP 36 (.bi .add (.v (.int .i64 (-9223372036854775808))) t35),oP 37 (.bin true .quo t36 (vI 10)),oP 38 (.bi .lss t34 t37)]) (.cond t38 (.seq (rg 3 [oP 2 (.mv (vI 0)),oP 3 (.mv vF)]) (.cn [2,3] .ret)) .skip)) (rg 6 [oM 39 t6,oP 40 (.bi .mul (vI 10) t39),oM 41 t8,oP 42 (.bi .sub t40 t41),oM 6 t42])))) (rg 7 [oM 26 t7,oP 27 (.bi .add t26 (vI 1)),oM 7 t27]))))
def zbs_q:IQ:=(.seq (rg 3 [oP 2 (.mv (vI 0)),oP 3 (.mv vF)]) (.seq (rg 5 [oM 10 t0,oP 11 (.call 67 [t10]),oM 9 t11,oP 12 (.extract t9 0),oP 13 (.extract t9 1),oP 4 (.alloc 104 [.bool false,.slice none 0 0,.int .i64 0,.bool false,.slice none 0 0,.bool false,.string ⟨#[]⟩]),oN (.store 7 t4 t12),oM 5 t13]) (.seq (.seq (rg 20 [oM 14 t5,oP 15 (.un .not t14),oM 16 t15,oE 17 (.faddr 5 t4) 16,oE 18 (.load none t17) 16,oE 19 (.un .not t18) 16,oP 20 (.pick t16 vT t19)]) (.cond t20 (.seq (rg 3 [oP 2 (.mv (vI 0)),oP 3 (.mv vF)]) (.cn [2,3] .ret)) .skip)) (.seq (rg 6 [oP 6 (.mv (vI 0))]) (.seq (.seq (rg 7 [oP 7 (.mv (vI 0))]) (.block 0 (.cn [4,6,7] (.sub 0 zbs_b0)))) (.seq (.seq (rg 44 [oP 43 (.faddr 0 t4),oP 44 (.load none t43)]) (.cond t44 (.seq (rg 3 [oM 45 t6,oM 2 t45,oP 3 (.mv vT)]) (.cn [2,3] .ret)) .skip)) (.seq (.seq (rg 47 [oM 46 t6,oP 47 (.bi .eql t46 (.v (.int .i64 (-9223372036854775808))))]) (.cond t47 (.seq (rg 3 [oP 2 (.mv (vI 0)),oP 3 (.mv vF)]) (.cn [2,3] .ret)) .skip)) (.seq (rg 3 [oM 48 t6,oP 49 (.un .neg t48),oM 2 t49,oP 3 (.mv vT)]) (.cn [2,3] .ret)))))))))
def qDz (v i:Int) (qG3:BA):Option ((Int × Int) ⊕ ((Int × Bool) ⊕ Int)) :=
 bif decide (i<(qG3.size:Int)) then (
  gd (0≤i∧i<qG3.size) <|
  gd (qAc (((bAt qG3 i) - (48:Int)) % 256)) <|
  gd (qAc ((-9223372036854775808:Int)+(((bAt qG3 i) - (48:Int)) % 256))) <|
  gd ((10:Int)≠0∧qAc (Int.tdiv ((-9223372036854775808:Int)+(((bAt qG3 i) - (48:Int)) % 256)) (10:Int))) <|
  bif decide (v<(Int.tdiv ((-9223372036854775808:Int)+(((bAt qG3 i) - (48:Int)) % 256)) (10:Int))) then (
   some (.inr (.inl ((0:Int),false))))
  else (
   gd (qAc ((10:Int)*v)) <|
   gd (qAc (((10:Int)*v) - (((bAt qG3 i) - (48:Int)) % 256))) <|
   gd (qAc (i+(1:Int))) <|
   some (.inl ((((10:Int)*v) - (((bAt qG3 i) - (48:Int)) % 256)),(i+(1:Int))))))
 else (
  some (.inr (.inr v)))
def zbs_p0 (v i:Int) (qG3:BA):Option ((Int × Bool) ⊕ Int) :=
 qAn (fun x:(Int × Int)=>qDz x.1 x.2 qG3) (v,i)
def zbs_s (text:BA):Option (Int × Bool) :=
 (zbq_s text).bind fun r3 =>
 bif ((!r3.2) || (!r3.1.plain)) then (
  some ((0:Int),false))
 else (
  (zbs_p0 (0:Int) (0:Int) r3.1.text).bind fun o4=>(Sum.elim (fun (o4_0:Int × Bool) =>
   some (o4_0.1,o4_0.2)) (fun (o4_1:Int) =>
   bif r3.1.minus then (
    some (o4_1,true))
   else (
    bif decide (o4_1=(-9223372036854775808:Int)) then (
     some ((0:Int),false))
    else (
     gd (qAc (0 - o4_1)) <|
     some ((0 - o4_1),true))))) o4)
def zbs_G:Nat→Option CQ:=tblQ [(67,zbq_w)]
def zbs_d0:=(dQS (qAa (dSO 4 (dH 0 0)) (qAa (dSO 6 dZ) (qAa (dSO 7 dZ) dNil))) (qAa (qAy 104 (qAa dB (qAa (dO 1) zDGC3))) zDGC4))
def zbs_l0:SubQ:=mkL zbs_d0 (fun x=>zbs_p0 x.1.2.1 x.1.2.2.1 x.2.1.2.2.2.2.2.2.1) fun x r R kn kx kr=>(Sum.elim (fun (r_0:Int × Bool)=>kr ⟨[sL 2 (.vI r_0.1),sL 3 (.vB r_0.2)],[],[]⟩) (fun (r_1:Int)=>kx 0 ⟨[sL 4 (.hd 0 0),sL 6 (.vI r_1)],[],[.cells 104 [.vB x.2.1.1,.own 1,.vI x.2.1.2.2.1,.vB x.2.1.2.2.2.1,.own 2,.vB x.2.1.2.2.2.2.2.1,.vS x.2.1.2.2.2.2.2.2.1],.row .i64 3 x.2.2.1,.row .i64 3 x.2.2.2.1]⟩)) r
def zbs_L:Nat→SubQ:=tblL [(0,zbs_l0)]
theorem zbs_sub0:qA2 zbs_L zbs_G 0 9 50 0 zbs_b0:=qAm (show zbs_L 0=zbs_l0 from by kernel_rfl) fun x R kn kx kr=>qAf (step:=fun y=>qDz y.1 y.2 x.2.1.2.2.2.2.2.2.1) (enc:=fun (y:Int × Int)=>zbs_d0.e ((x.1.1,y.1,y.2,x.1.2.2.2),x.2)) (fun y=>by kernel_rfl) (fun y ki=>by simp only [qDz,-eq_self,sZ]; kernel_rfl) (x.1.2.1,x.1.2.2.1)
def zbs_c:CS:=mkC (qAa (dVC (dCO dS)) dNil) dNil (fun x y=>zbs_s x.1) (fun x y r=>.tup [.o (.vI r.1),.o (.vB r.2)]) fun x y r=>[]
theorem zbs_val:qAl Tryd.prog 61 zbs_c:=vl1 zbs_q [.tmp 2,.tmp 3] 50 9 0 (raws:=[37]) (show qA8 zbs_L zbs_G 0 9 50 [(0,zbs_b0)] from ⟨zbs_sub0,tV⟩) (qAs ⟨zbq_ok,tV⟩) fun x y=>by
 simp only [zbs_s,-eq_self,sZ];kernel_rfl
def zbs_w:CQ:=qBu [] zbs_c
theorem zbs_ok:qAi Tryd.prog 61 zbs_w:=qAw zbs_val
end
noncomputable section
def zap_b1:IQ:=(.join [] [] (.cond t9 (.seq (rg 2 [oP 2 (.mv (vI 2))]) (.cn [2] .ret)) (.seq (.seq (rg 14 [oP 15 (.bi .eql t3 (vI 3)),oM 14 t15]) (.cond t14 .skip (.seq (rg 14 [oP 16 (.bi .eql t3 (vI 6)),oM 14 t16]) (.cond t14 .skip (.seq (rg 14 [oP 17 (.bi .eql t3 (vI 9)),oM 14 t17]) (.cond t14 .skip (rg 14 [oP 18 (.bi .eql t3 (vI 12)),oM 14 t18]))))))) (.cond t14 (.seq (rg 2 [oP 2 (.mv (vI 3))]) (.cn [2] .ret)) .skip))))
def zap_b0:IQ:=(.join [] [] (.cond t4 (.seq (rg 2 [oP 2 (.mv (vI 1))]) (.cn [2] .ret)) (.seq (.seq (rg 9 [oP 10 (.bi .eql t3 (vI 2)),oM 9 t10]) (.cond t9 .skip (.seq (rg 9 [oP 11 (.bi .eql t3 (vI 5)),oM 9 t11]) (.cond t9 .skip (.seq (rg 9 [oP 12 (.bi .eql t3 (vI 8)),oM 9 t12]) (.cond t9 .skip (rg 9 [oP 13 (.bi .eql t3 (vI 11)),oM 9 t13]))))))) (.cn [3,9] (.sub 1 zap_b1)))))
def zap_q:IQ:=(.seq (rg 2 [oP 2 (.mv (vI 0))]) (.seq (.seq (rg 3 [oM 3 t0]) (.block 0 (.seq (.seq (rg 4 [oP 5 (.bi .eql t3 (vI 1)),oM 4 t5]) (.cond t4 .skip (.seq (rg 4 [oP 6 (.bi .eql t3 (vI 4)),oM 4 t6]) (.cond t4 .skip (.seq (rg 4 [oP 7 (.bi .eql t3 (vI 7)),oM 4 t7]) (.cond t4 .skip (rg 4 [oP 8 (.bi .eql t3 (vI 10)),oM 4 t8]))))))) (.cn [3,4] (.sub 0 zap_b0))))) (.seq (rg 2 [oP 2 (.mv (vI 0))]) (.cn [2] .ret))))
def zap_p1 (x3_:Int) (x9_:Bool):Option (Int ⊕ Unit) :=
 bif x9_ then (
  some (.inl (2:Int)))
 else (
  bif decide (x3_=(3:Int)) then (
   bif decide (x3_=(3:Int)) then (
    some (.inl (3:Int)))
   else (
    some (.inr ())))
  else (
   bif decide (x3_=(6:Int)) then (
    bif decide (x3_=(6:Int)) then (
     some (.inl (3:Int)))
    else (
     some (.inr ())))
   else (
    bif decide (x3_=(9:Int)) then (
     bif decide (x3_=(9:Int)) then (
      some (.inl (3:Int)))
     else (
      some (.inr ())))
    else (
     bif decide (x3_=(12:Int)) then (
      some (.inl (3:Int)))
     else (
      some (.inr ()))))))
def zap_p0 (x3_:Int) (x4_:Bool):Option (Int ⊕ Unit) :=
 bif x4_ then (
  some (.inl (1:Int)))
 else (
  bif decide (x3_=(2:Int)) then (
   (zap_p1 x3_ (decide (x3_=(2:Int)))).bind fun o1=>(Sum.elim (fun (o1_0:Int) =>
    some (.inl o1_0)) (fun (o1_1:Unit) =>
    some (.inr ()))) o1)
  else (
   bif decide (x3_=(5:Int)) then (
    (zap_p1 x3_ (decide (x3_=(5:Int)))).bind fun o2=>(Sum.elim (fun (o2_0:Int) =>
     some (.inl o2_0)) (fun (o2_1:Unit) =>
     some (.inr ()))) o2)
   else (
    bif decide (x3_=(8:Int)) then (
     (zap_p1 x3_ (decide (x3_=(8:Int)))).bind fun o3=>(Sum.elim (fun (o3_0:Int) =>
      some (.inl o3_0)) (fun (o3_1:Unit) =>
      some (.inr ()))) o3)
    else (
     (zap_p1 x3_ (decide (x3_=(11:Int)))).bind fun o4=>(Sum.elim (fun (o4_0:Int) =>
      some (.inl o4_0)) (fun (o4_1:Unit) =>
      some (.inr ()))) o4))))
def zap_s (a:Int):Option Int :=
 bif decide (a=(1:Int)) then (
  (zap_p0 a (decide (a=(1:Int)))).bind fun o5=>(Sum.elim (fun (o5_0:Int) =>
   some o5_0) (fun (o5_1:Unit) =>
   some (0:Int))) o5)
 else (
  bif decide (a=(4:Int)) then (
   (zap_p0 a (decide (a=(4:Int)))).bind fun o6=>(Sum.elim (fun (o6_0:Int) =>
    some o6_0) (fun (o6_1:Unit) =>
    some (0:Int))) o6)
  else (
   bif decide (a=(7:Int)) then (
    (zap_p0 a (decide (a=(7:Int)))).bind fun o7=>(Sum.elim (fun (o7_0:Int) =>
     some o7_0) (fun (o7_1:Unit) =>
     some (0:Int))) o7)
   else (
    (zap_p0 a (decide (a=(10:Int)))).bind fun o8=>(Sum.elim (fun (o8_0:Int) =>
     some o8_0) (fun (o8_1:Unit) =>
     some (0:Int))) o8)))
def zap_G:Nat→Option CQ:=tblQ []
def zap_d1:=(dQS (qAa (dSO 3 dZ) (qAa (dSO 9 dB) dNil)) dNil)
def zap_l1:SubQ:=mkL zap_d1 (fun x=>zap_p1 x.1.1 x.1.2.1) fun x r R kn kx kr=>(Sum.elim (fun (r_0:Int)=>kr ⟨[sL 2 (.vI r_0)],[],[]⟩) (fun (r_1:Unit)=>kn ⟨[],[],[]⟩)) r
def zap_d0:=(dQS (qAa (dSO 3 dZ) (qAa (dSO 4 dB) dNil)) dNil)
def zap_l0:SubQ:=mkL zap_d0 (fun x=>zap_p0 x.1.1 x.1.2.1) fun x r R kn kx kr=>(Sum.elim (fun (r_0:Int)=>kr ⟨[sL 2 (.vI r_0)],[],[]⟩) (fun (r_1:Unit)=>kn ⟨[],[],[]⟩)) r
def zap_L:Nat→SubQ:=tblL [(1,zap_l1),(0,zap_l0)]
theorem zap_sub1:qA2 zap_L zap_G 0 4 19 1 zap_b1:=qAm (show zap_L 1=zap_l1 from by kernel_rfl) fun x R kn kx kr=>by
 simp only [zap_p1,-eq_self,sZ];kernel_rfl
theorem zap_sub0:qA2 zap_L zap_G 0 4 19 0 zap_b0:=qAm (show zap_L 0=zap_l0 from by kernel_rfl) fun x R kn kx kr=>by
 simp only [zap_p0,-eq_self,sZ];kernel_rfl
def zap_c:CS:=mkC (qAa (dVC (dCO dZ)) dNil) dNil (fun x y=>zap_s x.1) (fun x y r=>.c (.o (.vI r))) fun x y r=>[]
theorem zap_val:qAl Tryd.prog 14 zap_c:=vl1 zap_q [.tmp 2] 19 4 0 (show qA8 zap_L zap_G 0 4 19 [(0,zap_b0),(1,zap_b1)] from ⟨zap_sub0,zap_sub1,tV⟩) (fun f C h=>by cases h) fun x y=>by
 simp only [zap_s,-eq_self,sZ];kernel_rfl
def zap_w:CQ:=qBu [] zap_c
theorem zap_ok:qAi Tryd.prog 14 zap_w:=qAw zap_val
def zab_b0:IQ:=(.loop [0,1,5] (.join [(1000000,none,.u8,0)] [0,1,5] (.seq (.seq (rg 15 [oM 13 t0,oP 14 (.len t13),oP 15 (.bi .geq t14 (vI 3))]) (.cond t15 .skip (.cn [0,1,5] (.exit 0)))) (.block 1 (.seq (.reg 6 (some [0,1,2,3,4,5,6,7,8,9,10,11,12,13,14,15,16]) [oM 16 t0,oP 17 (.iaddr 1 t16 (vI 0)),oP 18 (.load none t17),oP 19 (.conv false .u64 t18),oP 20 (.bi .shl t19 (.v (.int .u64 16))),oM 21 t0,oP 22 (.iaddr 1 t21 (vI 1)),oP 23 (.load none t22),oP 24 (.conv false .u64 t23),oP 25 (.bi .shl t24 (.v (.int .u64 8))),oP 26 (.bi .or t20 t25),oM 27 t0,oP 28 (.iaddr 1 t27 (vI 2)),oP 29 (.load none t28),oP 30 (.conv false .u64 t29),oP 31 (.bi .or t26 t30),oM 6 t31]) (.seq (.reg 5 (some [0,1,2,3,4,5,6,7,8,9,10,11,12,13,14,15,16,17,18,19,20,21]) [oM 32 t5,oM 33 t1,oM 34 t6,oP 35 (.bi .shr t34 (.v (.int .u64 18))),oP 36 (.index t33 t35),oM 37 t1,oM 38 t6,oP 39 (.bi .shr t38 (.v (.int .u64 12))),oP 40 (.bi .and t39 (.v (.int .u64 63))),oP 41 (.index t37 t40),oM 42 t1,oM 43 t6,oP 44 (.bi .shr t43 (.v (.int .u64 6))),oP 45 (.bi .and t44 (.v (.int .u64 63))),oP 46 (.index t42 t45),oM 47 t1,oM 48 t6,oP 49 (.bi .and t48 (.v (.int .u64 63))),oP 50 (.index t47 t49),oP 51 (.bslice 5 1 4 [.int .u8 0] [(0,t36),(1,t41),(2,t46),(3,t50)]),oP 52 (.append 5 1 1 [.int .u8 0] t32 t51),oM 5 t52]) (rg 0 [oM 53 t0,oP 54 (.sub (some 1) t53 (some (vI 3)) none),oM 0 t54])))))))
def zab_q:IQ:=(.seq (rg 4 [oP 4 (.mv (.v (.slice none 0 0)))]) (.seq (rg 5 [oM 7 t0,oP 8 (.len t7),oP 9 (.bi .add t8 (vI 2)),oP 10 (.bi .quo t9 (vI 3)),oP 11 (.bi .mul t10 (vI 4)),oP 12 (.ext (.mkslice 5 1 1 [.int .u8 0]) [(vI 0),t11]),oM 5 t12]) (.seq (.block 0 (.canon [(1000000,none,.u8,0)] [0,1,5] (.sub 0 zab_b0))) (.seq (.seq (rg 56 [oM 55 t0,oP 56 (.len t55)]) (.block 2 (.seq (rg 57 [oP 58 (.bi .eql t56 (vI 2)),oM 57 t58]) (.cond t57 (.reg 5 (some [0,1,2,3,4,5,6,7,8,9,10,11,12,13,14,15,16,17,18,19,20,21,22,23,24,25,26,27,28]) [oM 59 t5,oM 60 t1,oM 61 t0,oP 62 (.iaddr 1 t61 (vI 0)),oP 63 (.load none t62),oP 64 (.bi .shr t63 (.v (.int .u64 2))),oP 65 (.index t60 t64),oM 66 t1,oM 67 t0,oP 68 (.iaddr 1 t67 (vI 0)),oP 69 (.load none t68),oP 70 (.bi .and t69 (vC 3)),oP 71 (.bi .shl t70 (.v (.int .u64 4))),oM 72 t0,oP 73 (.iaddr 1 t72 (vI 1)),oP 74 (.load none t73),oP 75 (.bi .shr t74 (.v (.int .u64 4))),oP 76 (.bi .or t71 t75),oP 77 (.index t66 t76),oM 78 t1,oM 79 t0,oP 80 (.iaddr 1 t79 (vI 1)),oP 81 (.load none t80),oP 82 (.bi .and t81 (vC 15)),oP 83 (.bi .shl t82 (.v (.int .u64 2))),oP 84 (.index t78 t83),oP 85 (.bslice 5 1 3 [.int .u8 0] [(0,t65),(1,t77),(2,t84)]),oP 86 (.append 5 1 1 [.int .u8 0] t59 t85),oM 5 t86]) (.seq (rg 87 [oP 88 (.bi .eql t56 (vI 1)),oM 87 t88]) (.cond t87 (.reg 5 (some [0,1,2,3,4,5,6,7,8,9,10,11,12,13,14,15,16]) [oM 89 t5,oM 90 t1,oM 91 t0,oP 92 (.iaddr 1 t91 (vI 0)),oP 93 (.load none t92),oP 94 (.bi .shr t93 (.v (.int .u64 2))),oP 95 (.index t90 t94),oM 96 t1,oM 97 t0,oP 98 (.iaddr 1 t97 (vI 0)),oP 99 (.load none t98),oP 100 (.bi .and t99 (vC 3)),oP 101 (.bi .shl t100 (.v (.int .u64 4))),oP 102 (.index t96 t101),oP 103 (.bslice 5 1 2 [.int .u8 0] [(0,t95),(1,t102)]),oP 104 (.append 5 1 1 [.int .u8 0] t89 t103),oM 5 t104]) .skip)))))) (.seq (rg 4 [oM 105 t5,oM 4 t105]) (.canon [(4,none,.u8,5)] [4] .ret))))))
def qAo (b2:List Int) :=
 (qBf .u64 (qBf .u64 ((((b2.getD (Int.toNat (0:Int)) (ET.dft .u8)) % 18446744073709551616)*65536) % 18446744073709551616) ((((b2.getD (Int.toNat (1:Int)) (ET.dft .u8)) % 18446744073709551616)*256) % 18446744073709551616)) ((b2.getD (Int.toNat (2:Int)) (ET.dft .u8)) % 18446744073709551616))
def qE5 (signs:BA) (b2 out:List Int):Option (((List Int) × (List Int)) ⊕ ((List Int) × (List Int))) :=
 bif decide ((3:Int)≤(b2.length:Int)) then (
  gd (0≤(0:Int)∧(0:Int)<b2.length) <|
  gd ((Int.toNat (0:Int))<b2.length) <|
  gd (0≤(16:Int)) <|
  gd (0≤(1:Int)∧(1:Int)<b2.length) <|
  gd ((Int.toNat (1:Int))<b2.length) <|
  gd (0≤(8:Int)) <|
  gd (0≤(2:Int)∧(2:Int)<b2.length) <|
  gd ((Int.toNat (2:Int))<b2.length) <|
  gd (0≤(18:Int)) <|
  gd (0≤((qAo b2) / 262144)∧((qAo b2) / 262144)<signs.size) <|
  gd (0≤(12:Int)) <|
  gd (0≤(qAg .u64 ((qAo b2) / 4096) (63:Int))∧(qAg .u64 ((qAo b2) / 4096) (63:Int))<signs.size) <|
  gd (0≤(6:Int)) <|
  gd (0≤(qAg .u64 ((qAo b2) / 64) (63:Int))∧(qAg .u64 ((qAo b2) / 64) (63:Int))<signs.size) <|
  gd (0≤(qAg .u64 (qAo b2) (63:Int))∧(qAg .u64 (qAo b2) (63:Int))<signs.size) <|
  gd (out.length+([(bAt signs ((qAo b2) / 262144)),(bAt signs (qAg .u64 ((qAo b2) / 4096) (63:Int))),(bAt signs (qAg .u64 ((qAo b2) / 64) (63:Int))),(bAt signs (qAg .u64 (qAo b2) (63:Int)))]:List Int).length≤9223372036854775807∧(out.length+([(bAt signs ((qAo b2) / 262144)),(bAt signs (qAg .u64 ((qAo b2) / 4096) (63:Int))),(bAt signs (qAg .u64 ((qAo b2) / 64) (63:Int))),(bAt signs (qAg .u64 (qAo b2) (63:Int)))]:List Int).length)*1≤140737488355328) <|
  gd (0≤(3:Int)∧(3:Int)≤(b2.length:Int)∧(b2.length:Int)≤b2.length) <|
  some (.inl (((b2.take b2.length).drop 3),(out++[(bAt signs ((qAo b2) / 262144)),(bAt signs (qAg .u64 ((qAo b2) / 4096) (63:Int))),(bAt signs (qAg .u64 ((qAo b2) / 64) (63:Int))),(bAt signs (qAg .u64 (qAo b2) (63:Int)))]))))
 else (
  some (.inr (b2,out)))
def zab_p0 (signs:BA) (b2 out:List Int):Option ((List Int) × (List Int)) :=
 qAn (fun x:((List Int) × (List Int))=>qE5 signs x.1 x.2) (b2,out)
def zab_s (b:(List Int)) (signs:BA):Option ((List Int)) :=
 gd (qAc ((b.length:Int)+(2:Int))) <|
 gd (0≤((b.length:Int)+(2:Int))∧((b.length:Int)+(2:Int))≤9223372036854775807∧1≤(3:Int)) <|
 gd (qAc ((((b.length:Int)+(2:Int)) / (3:Int))*(4:Int))) <|
 gd (0≤(0:Int)∧(0:Int)≤((((b.length:Int)+(2:Int)) / (3:Int))*(4:Int))∧((((b.length:Int)+(2:Int)) / (3:Int))*(4:Int))≤9223372036854775807∧((((b.length:Int)+(2:Int)) / (3:Int))*(4:Int))*1≤140737488355328) <|
 (zab_p0 signs b []).bind fun o1 =>
 bif decide ((o1.1.length:Int)=(2:Int)) then (
  gd (0≤(0:Int)∧(0:Int)<o1.1.length) <|
  gd ((Int.toNat (0:Int))<o1.1.length) <|
  gd (0≤(2:Int)) <|
  gd (0≤((o1.1.getD (Int.toNat (0:Int)) (ET.dft .u8)) / 4)∧((o1.1.getD (Int.toNat (0:Int)) (ET.dft .u8)) / 4)<signs.size) <|
  gd (0≤(0:Int)∧(0:Int)<o1.1.length) <|
  gd ((Int.toNat (0:Int))<o1.1.length) <|
  gd (0≤(4:Int)) <|
  gd (0≤(1:Int)∧(1:Int)<o1.1.length) <|
  gd ((Int.toNat (1:Int))<o1.1.length) <|
  gd (0≤(4:Int)) <|
  gd (0≤(qBf .u8 (((qAg .u8 (o1.1.getD (Int.toNat (0:Int)) (ET.dft .u8)) (3:Int))*16) % 256) ((o1.1.getD (Int.toNat (1:Int)) (ET.dft .u8)) / 16))∧(qBf .u8 (((qAg .u8 (o1.1.getD (Int.toNat (0:Int)) (ET.dft .u8)) (3:Int))*16) % 256) ((o1.1.getD (Int.toNat (1:Int)) (ET.dft .u8)) / 16))<signs.size) <|
  gd (0≤(1:Int)∧(1:Int)<o1.1.length) <|
  gd ((Int.toNat (1:Int))<o1.1.length) <|
  gd (0≤(2:Int)) <|
  gd (0≤(((qAg .u8 (o1.1.getD (Int.toNat (1:Int)) (ET.dft .u8)) (15:Int))*4) % 256)∧(((qAg .u8 (o1.1.getD (Int.toNat (1:Int)) (ET.dft .u8)) (15:Int))*4) % 256)<signs.size) <|
  gd (o1.2.length+([(bAt signs ((o1.1.getD (Int.toNat (0:Int)) (ET.dft .u8)) / 4)),(bAt signs (qBf .u8 (((qAg .u8 (o1.1.getD (Int.toNat (0:Int)) (ET.dft .u8)) (3:Int))*16) % 256) ((o1.1.getD (Int.toNat (1:Int)) (ET.dft .u8)) / 16))),(bAt signs (((qAg .u8 (o1.1.getD (Int.toNat (1:Int)) (ET.dft .u8)) (15:Int))*4) % 256))]:List Int).length≤9223372036854775807∧(o1.2.length+([(bAt signs ((o1.1.getD (Int.toNat (0:Int)) (ET.dft .u8)) / 4)),(bAt signs (qBf .u8 (((qAg .u8 (o1.1.getD (Int.toNat (0:Int)) (ET.dft .u8)) (3:Int))*16) % 256) ((o1.1.getD (Int.toNat (1:Int)) (ET.dft .u8)) / 16))),(bAt signs (((qAg .u8 (o1.1.getD (Int.toNat (1:Int)) (ET.dft .u8)) (15:Int))*4) % 256))]:List Int).length)*1≤140737488355328) <|
  some (o1.2++[(bAt signs ((o1.1.getD (Int.toNat (0:Int)) (ET.dft .u8)) / 4)),(bAt signs (qBf .u8 (((qAg .u8 (o1.1.getD (Int.toNat (0:Int)) (ET.dft .u8)) (3:Int))*16) % 256) ((o1.1.getD (Int.toNat (1:Int)) (ET.dft .u8)) / 16))),(bAt signs (((qAg .u8 (o1.1.getD (Int.toNat (1:Int)) (ET.dft .u8)) (15:Int))*4) % 256))]))
 else (
  bif decide ((o1.1.length:Int)=(1:Int)) then (
   gd (0≤(0:Int)∧(0:Int)<o1.1.length) <|
   gd ((Int.toNat (0:Int))<o1.1.length) <|
   gd (0≤(2:Int)) <|
   gd (0≤((o1.1.getD (Int.toNat (0:Int)) (ET.dft .u8)) / 4)∧((o1.1.getD (Int.toNat (0:Int)) (ET.dft .u8)) / 4)<signs.size) <|
   gd (0≤(0:Int)∧(0:Int)<o1.1.length) <|
   gd ((Int.toNat (0:Int))<o1.1.length) <|
   gd (0≤(4:Int)) <|
   gd (0≤(((qAg .u8 (o1.1.getD (Int.toNat (0:Int)) (ET.dft .u8)) (3:Int))*16) % 256)∧(((qAg .u8 (o1.1.getD (Int.toNat (0:Int)) (ET.dft .u8)) (3:Int))*16) % 256)<signs.size) <|
   gd (o1.2.length+([(bAt signs ((o1.1.getD (Int.toNat (0:Int)) (ET.dft .u8)) / 4)),(bAt signs (((qAg .u8 (o1.1.getD (Int.toNat (0:Int)) (ET.dft .u8)) (3:Int))*16) % 256))]:List Int).length≤9223372036854775807∧(o1.2.length+([(bAt signs ((o1.1.getD (Int.toNat (0:Int)) (ET.dft .u8)) / 4)),(bAt signs (((qAg .u8 (o1.1.getD (Int.toNat (0:Int)) (ET.dft .u8)) (3:Int))*16) % 256))]:List Int).length)*1≤140737488355328) <|
   some (o1.2++[(bAt signs ((o1.1.getD (Int.toNat (0:Int)) (ET.dft .u8)) / 4)),(bAt signs (((qAg .u8 (o1.1.getD (Int.toNat (0:Int)) (ET.dft .u8)) (3:Int))*16) % 256))]))
  else (
   some o1.2))
def zab_G:Nat→Option CQ:=tblQ []
def zab_d0:=(dQS (qAa (dSO 0 (dO 1)) (qAa (dSO 1 dS) (qAa (dSO 5 (dO 2)) dNil))) (qAa (qAt .u8) (qAa (qAt .u8) (qAa (dRow .u8 5) dNil))))
def zab_l0:SubQ:=mkL zab_d0 (fun x=>zab_p0 x.1.2.1 x.2.2.1 x.2.2.2.1) fun x r R kn kx kr=>kx 0 ⟨[sL 0 (.own 1),sL 1 (.vS x.1.2.1),sL 5 (.own 2)],[],[.view .u8 x.2.1,.view .u8 r.1,.row .u8 5 r.2]⟩
def zab_L:Nat→SubQ:=tblL [(0,zab_l0)]
theorem zab_sub0:qA2 zab_L zab_G 1 57 106 0 zab_b0:=qAm (show zab_L 0=zab_l0 from by kernel_rfl) fun x R kn kx kr=>qAf (step:=fun y=>qE5 x.1.2.1 y.1 y.2) (enc:=fun (y:(List Int) × (List Int))=>zab_d0.e (x.1,(x.2.1,y.1,y.2,x.2.2.2.2))) (fun y=>by kernel_rfl) (fun y ki=>by simp only [qE5,-eq_self,sZ]; kernel_rfl) (x.2.2.1,x.2.2.2.1)
def zab_c:CS:=mkC (qAa (dVC (dCO (dO 0))) (qAa (dVC (dCO dS)) dNil)) (qAa (qAt .u8) dNil) (fun x y=>zab_s y.1 x.2.1) (fun x y r=>.c (.o (.own 1))) fun x y r=>[.view .u8 y.1,.row .u8 5 r]
theorem zab_val:qAl Tryd.prog 34 zab_c:=vl1 zab_q [.tmp 4] 106 57 1 (show qA8 zab_L zab_G 1 57 106 [(0,zab_b0)] from ⟨zab_sub0,tV⟩) (fun f C h=>by cases h) fun x y=>by
 simp only [zab_s,-eq_self,sZ];kernel_rfl
def zab_w:CQ:=qBk [(0,none,some (.u8,5))] (qDb [false] zab_c)
theorem zab_ok:qAi Tryd.prog 34 zab_w:=qBd zab_val
def zaa_q:IQ:=(.seq (rg 2 [oP 2 (.mv (.v (.string ⟨#[]⟩)))]) (.seq (rg 2 [oM 3 t0,oP 4 (.call 34 [t3,(.v (.string ⟨#[65,66,67,68,69,70,71,72,73,74,75,76,77,78,79,80,81,82,83,84,85,86,87,88,89,90,97,98,99,100,101,102,103,104,105,106,107,108,109,110,111,112,113,114,115,116,117,118,119,120,121,122,48,49,50,51,52,53,54,55,56,57,45,95]⟩))]),oP 5 (.ext .toStr [t4]),oM 2 t5]) (.cn [2] .ret)))
def zaa_s (b:(List Int)):Option BA :=
 (zab_s b (⟨#[65,66,67,68,69,70,71,72,73,74,75,76,77,78,79,80,81,82,83,84,85,86,87,88,89,90,97,98,99,100,101,102,103,104,105,106,107,108,109,110,111,112,113,114,115,116,117,118,119,120,121,122,48,49,50,51,52,53,54,55,56,57,45,95]⟩:BA)).bind fun r1 =>
 some (qGg r1)
def zaa_c:CS:=mkC (qAa (dVC (dCO (dO 0))) dNil) (qAa (qAt .u8) dNil) (fun x y=>zaa_s y.1) (fun x y r=>.c (.o (.vS r))) fun x y r=>[.view .u8 y.1]
theorem zaa_val:qAl Tryd.prog 15 zaa_c:=vl0 zaa_q [.tmp 2] 6 3 1 [(34,zab_w)] ⟨zab_ok,tV⟩ fun x y=>by
 simp only [zaa_s,-eq_self,sZ];kernel_rfl
def zaa_w:CQ:=qBk [(0,none,some (.u8,5))] (qBu [false] zaa_c)
theorem zaa_ok:qAi Tryd.prog 15 zaa_w:=qAr zaa_val
def zad_q:IQ:=(.seq (rg 5 [oP 4 (.mv (.v (.string ⟨#[]⟩))),oP 5 (.mv (vI 0))]) (.seq (rg 6 [oM 7 t0,oP 8 (.call 14 [t7]),oM 6 t8]) (.seq (.seq (rg 10 [oM 9 t6,oP 10 (.bi .eql t9 (vI 0))]) (.cond t10 (.seq (rg 5 [oP 4 (.mv (.v (.string ⟨#[]⟩))),oP 5 (.mv (vI 111))]) (.cn [4,5] .ret)) .skip)) (.seq (rg 5 [oM 11 t6,oM 12 t1,oP 13 (.ext (.toBytes 5) [t12]),oP 14 (.bslice 47 1 1 [.slice none 0 0] [(0,t13)]),oP 15 (.call 16 [t11,t14]),oM 16 t6,oP 17 (.call 17 [t16]),oP 18 (.bi .quo t17 (vI 2)),oP 19 (.sub (some 1) t15 none (some t18)),oP 20 (.call 15 [t19]),oM 4 t20,oP 5 (.mv (vI 0))]) (.cn [4,5] .ret)))))
def zad_s (a:Int) (text:BA):Option (BA × Int) :=
 (zap_s a).bind fun r1 =>
 bif decide (r1=(0:Int)) then (
  some ((⟨#[]⟩:BA),(111:Int)))
 else (
  bif decide (r1=(1:Int)) then (
   gd (0≤(0:Int)∧(0:Int)<((1:Nat):Int)) <|
   (zax_s (⟨r1,(nrm 8 shaS256),(nrm 8 ([]:List Int)),(nrm 128 ([]:List Int)),(0:Int)⟩:qGv) (qBy text)).bind fun r2 =>
   gd (qAc ((0:Int)+(1:Int))) <|
   (zaw_s (⟨r2.hash,(nrm 8 r2.short),(nrm 8 r2.long),(nrm 128 r2.rest),r2.n⟩:qGv)).bind fun r3 =>
   (zav_s r1).bind fun r4 =>
   gd (0≤r4∧r4≤9223372036854775807∧1≤(2:Int)) <|
   gd (0≤(r4 / (2:Int))∧(r4 / (2:Int))≤r3.2.length) <|
   (zaa_s (r3.2.take (Int.toNat (r4 / (2:Int))))).bind fun r5 =>
   some (r5,(0:Int)))
  else (
   bif decide (r1=(2:Int)) then (
    gd (0≤(0:Int)∧(0:Int)<((1:Nat):Int)) <|
    (zax_s (⟨r1,(nrm 8 ([]:List Int)),(nrm 8 shaS384),(nrm 128 ([]:List Int)),(0:Int)⟩:qGv) (qBy text)).bind fun r6 =>
    gd (qAc ((0:Int)+(1:Int))) <|
    (zaw_s (⟨r6.hash,(nrm 8 r6.short),(nrm 8 r6.long),(nrm 128 r6.rest),r6.n⟩:qGv)).bind fun r7 =>
    (zav_s r1).bind fun r8 =>
    gd (0≤r8∧r8≤9223372036854775807∧1≤(2:Int)) <|
    gd (0≤(r8 / (2:Int))∧(r8 / (2:Int))≤r7.2.length) <|
    (zaa_s (r7.2.take (Int.toNat (r8 / (2:Int))))).bind fun r9 =>
    some (r9,(0:Int)))
   else (
    bif decide (r1=(3:Int)) then (
     gd (0≤(0:Int)∧(0:Int)<((1:Nat):Int)) <|
     (zax_s (⟨r1,(nrm 8 ([]:List Int)),(nrm 8 shaS512),(nrm 128 ([]:List Int)),(0:Int)⟩:qGv) (qBy text)).bind fun r10 =>
     gd (qAc ((0:Int)+(1:Int))) <|
     (zaw_s (⟨r10.hash,(nrm 8 r10.short),(nrm 8 r10.long),(nrm 128 r10.rest),r10.n⟩:qGv)).bind fun r11 =>
     (zav_s r1).bind fun r12 =>
     gd (0≤r12∧r12≤9223372036854775807∧1≤(2:Int)) <|
     gd (0≤(r12 / (2:Int))∧(r12 / (2:Int))≤r11.2.length) <|
     (zaa_s (r11.2.take (Int.toNat (r12 / (2:Int))))).bind fun r13 =>
     some (r13,(0:Int)))
    else (
     (zav_s r1).bind fun r14 =>
     gd (0≤r14∧r14≤9223372036854775807∧1≤(2:Int)) <|
     none))))
def sha_New_35_iq:IQ :=
 (.seq
 (.reg 2 none [
  ⟨(some 2),.mv (.v (.pointer none)),none⟩])
 (.seq
 (.reg 3 none [
  ⟨(some 4),.mv (.t 0),none⟩,
  ⟨(some 5),.build [.int .i64 0,.int .u32 0,.int .u32 0,.int .u32 0,.int .u32 0,.int .u32 0,.int .u32 0,.int .u32 0,.int .u32 0,.int .u64 0,.int .u64 0,.int .u64 0,.int .u64 0,.int .u64 0,.int .u64 0,.int .u64 0,.int .u64 0,.int .u8 0,.int .u8 0,.int .u8 0,.int .u8 0,.int .u8 0,.int .u8 0,.int .u8 0,.int .u8 0,.int .u8 0,.int .u8 0,.int .u8 0,.int .u8 0,.int .u8 0,.int .u8 0,.int .u8 0,.int .u8 0,.int .u8 0,.int .u8 0,.int .u8 0,.int .u8 0,.int .u8 0,.int .u8 0,.int .u8 0,.int .u8 0,.int .u8 0,.int .u8 0,.int .u8 0,.int .u8 0,.int .u8 0,.int .u8 0,.int .u8 0,.int .u8 0,.int .u8 0,.int .u8 0,.int .u8 0,.int .u8 0,.int .u8 0,.int .u8 0,.int .u8 0,.int .u8 0,.int .u8 0,.int .u8 0,.int .u8 0,.int .u8 0,.int .u8 0,.int .u8 0,.int .u8 0,.int .u8 0,.int .u8 0,.int .u8 0,.int .u8 0,.int .u8 0,.int .u8 0,.int .u8 0,.int .u8 0,.int .u8 0,.int .u8 0,.int .u8 0,.int .u8 0,.int .u8 0,.int .u8 0,.int .u8 0,.int .u8 0,.int .u8 0,.int .u8 0,.int .u8 0,.int .u8 0,.int .u8 0,.int .u8 0,.int .u8 0,.int .u8 0,.int .u8 0,.int .u8 0,.int .u8 0,.int .u8 0,.int .u8 0,.int .u8 0,.int .u8 0,.int .u8 0,.int .u8 0,.int .u8 0,.int .u8 0,.int .u8 0,.int .u8 0,.int .u8 0,.int .u8 0,.int .u8 0,.int .u8 0,.int .u8 0,.int .u8 0,.int .u8 0,.int .u8 0,.int .u8 0,.int .u8 0,.int .u8 0,.int .u8 0,.int .u8 0,.int .u8 0,.int .u8 0,.int .u8 0,.int .u8 0,.int .u8 0,.int .u8 0,.int .u8 0,.int .u8 0,.int .u8 0,.int .u8 0,.int .u8 0,.int .u8 0,.int .u8 0,.int .u8 0,.int .u8 0,.int .u8 0,.int .u8 0,.int .u8 0,.int .u8 0,.int .u8 0,.int .u8 0,.int .u8 0,.int .u8 0,.int .u8 0,.int .u8 0,.int .u8 0,.int .u8 0,.int .u8 0,.int .u8 0,.int .u8 0,.int .u8 0,.int .u64 0] [(0,1,(.t 4))],none⟩,
  ⟨(some 6),.box 86 146 (.t 5),none⟩,
  ⟨(some 3),.mv (.t 6),none⟩])
 (.seq
 (.seq
 (.reg 7 none [
  ⟨(some 7),.mv (.t 0),none⟩])
 (.block 0
  (.seq
  (.reg 8 none [
   ⟨(some 9),.bin false .eql (.t 7) (.v (.int .i64 1)),none⟩,
   ⟨(some 8),.mv (.t 9),none⟩])
  (.cond (.t 8)
   (.reg 0 none [
    ⟨(some 10),.mv (.t 3),none⟩,
    ⟨(some 11),.load (some 8) (.v (.pointer (some ⟨2,0,none⟩))),none⟩,
    ⟨(some 12),.ext .nilck [(.t 10)],none⟩,
    ⟨(some 13),.faddr 1 (.t 12),none⟩,
    ⟨none,.store 8 (.t 13) (.t 11),none⟩])
   (.seq
   (.reg 14 none [
    ⟨(some 15),.bin false .eql (.t 7) (.v (.int .i64 2)),none⟩,
    ⟨(some 14),.mv (.t 15),none⟩])
   (.cond (.t 14)
    (.reg 0 none [
     ⟨(some 16),.mv (.t 3),none⟩,
     ⟨(some 17),.load (some 8) (.v (.pointer (some ⟨3,0,none⟩))),none⟩,
     ⟨(some 18),.ext .nilck [(.t 16)],none⟩,
     ⟨(some 19),.faddr 9 (.t 18),none⟩,
     ⟨none,.store 8 (.t 19) (.t 17),none⟩])
    (.seq
    (.reg 20 none [
     ⟨(some 21),.bin false .eql (.t 7) (.v (.int .i64 3)),none⟩,
     ⟨(some 20),.mv (.t 21),none⟩])
    (.cond (.t 20)
     (.reg 0 none [
      ⟨(some 22),.mv (.t 3),none⟩,
      ⟨(some 23),.load (some 8) (.v (.pointer (some ⟨4,0,none⟩))),none⟩,
      ⟨(some 24),.ext .nilck [(.t 22)],none⟩,
      ⟨(some 25),.faddr 9 (.t 24),none⟩,
      ⟨none,.store 8 (.t 25) (.t 23),none⟩])
     (.seq
     (.reg 2 none [
      ⟨(some 2),.mv (.v (.pointer none)),none⟩])
     .ret)))))))))
 (.seq
 (.reg 2 none [
  ⟨(some 26),.mv (.t 3),none⟩,
  ⟨(some 2),.mv (.t 26),none⟩])
 .ret))))
theorem sha_New_35_ichk:chk Tryd.prog 35 []=some (sha_New_35_iq.erase,[.tmp 2],27):=by kernel_rfl
def zad_i16_i35_G:Nat→Option CQ:=tblQ []
theorem zad_i16_i35_Gok:∀f C,zad_i16_i35_G f=some C→qAi Tryd.prog f C:=fun f C h=>by cases h
def zad_i16_i35:CQ:=inlQ zad_i16_i35_G 8 27 sha_New_35_iq [.tmp 2]
theorem zad_i16_i35_ok:qAi Tryd.prog 35 zad_i16_i35:=inl_valid sha_New_35_ichk (by kernel_rfl) 8 zad_i16_i35_Gok (by kernel_rfl)
def sha_Sum_16_iq:IQ :=
 (.seq
 (.reg 4 none [
  ⟨(some 4),.mv (.v (.slice none 0 0)),none⟩])
 (.seq
 (.reg 5 none [
  ⟨(some 8),.mv (.t 0),none⟩,
  ⟨(some 9),.call 35 [(.t 8)],none⟩,
  ⟨(some 5),.mv (.t 9),none⟩])
 (.seq
 (.seq
 (.reg 11 none [
  ⟨(some 10),.mv (.t 5),none⟩,
  ⟨(some 11),.ext (.ptrEq false) [(.t 10),(.v (.pointer none))],none⟩])
 (.cond (.t 11)
  (.seq
  (.reg 4 none [
   ⟨(some 4),.mv (.v (.slice none 0 0)),none⟩])
  .ret)
  .skip))
 (.seq
 (.seq
 (.reg 14 none [
  ⟨(some 12),.mv (.t 1),none⟩,
  ⟨(some 13),.len (.t 12),none⟩,
  ⟨(some 14),.mv (.v (.int .i64 0)),none⟩])
 (.block 0
  (.unroll 3
   (.seq
   (.reg 15 none [
    ⟨(some 15),.bin false .lss (.t 14) (.t 13),none⟩])
   (.seq
   (.cond (.t 15)
    .skip
    (.exit 0))
   (.seq
   (.block 1
    (.seq
    (.reg 7 none [
     ⟨(some 16),.iaddr 1 (.t 12) (.t 14),none⟩,
     ⟨(some 17),.load none (.t 16),none⟩,
     ⟨(some 7),.mv (.t 17),none⟩])
    (.reg 20 none [
     ⟨(some 18),.mv (.t 5),none⟩,
     ⟨(some 19),.mv (.t 7),none⟩,
     ⟨(some 20),.call 36 [(.t 18),(.t 19)],none⟩])))
   (.reg 14 none [
    ⟨(some 21),.bin false .add (.t 14) (.v (.int .i64 1)),none⟩,
    ⟨(some 14),.mv (.t 21),none⟩])))))))
 (.seq
 (.reg 4 none [
  ⟨(some 22),.mv (.t 5),none⟩,
  ⟨(some 23),.call 37 [(.t 22)],none⟩,
  ⟨(some 4),.mv (.t 23),none⟩])
 .ret)))))
theorem sha_Sum_16_ichk:chk Tryd.prog 16 []=some (sha_Sum_16_iq.erase,[.tmp 4],24):=by kernel_rfl
def zad_i16_G:Nat→Option CQ:=tblQ [(35,zad_i16_i35),(36,zax_w),(37,zaw_w)]
theorem zad_i16_Gok:∀f C,zad_i16_G f=some C→qAi Tryd.prog f C:=qAs ⟨zad_i16_i35_ok,zax_ok,zaw_ok,tV⟩
def zad_i16:CQ:=inlQ zad_i16_G 15 24 sha_Sum_16_iq [.tmp 4]
theorem zad_i16_ok:qAi Tryd.prog 16 zad_i16:=inl_valid sha_Sum_16_ichk (by kernel_rfl) 15 zad_i16_Gok (by kernel_rfl)
def zad_c:CS:=mkC (qAa (dVC (dCO dZ)) (qAa (dVC (dCO dS)) dNil)) dNil (fun x y=>zad_s x.1 x.2.1) (fun x y r=>.tup [.o (.vS r.1),.o (.vI r.2)]) fun x y r=>[]
theorem zad_val:qAl Tryd.prog 5 zad_c:=vl0 zad_q [.tmp 4,.tmp 5] 21 7 0 [(14,zap_w),(16,zad_i16),(17,zav_w),(15,zaa_w)] ⟨zap_ok,zad_i16_ok,zav_ok,zaa_ok,tV⟩ fun x y=>by
 simp only [zad_s,-eq_self,sZ];kernel_rfl
def zad_w:CQ:=qBu [] zad_c
theorem zad_ok:qAi Tryd.prog 5 zad_w:=qAw zad_val
end
end Go.Proofs.YtobmafbliahplaaDoor
