/-
  Functions as the engine reads them (printed by gen.py).
-/
import Derived.Test.YtobmafbliahplaaDoorPSha
import Derived.Test.YtobmafbliahplaaDoorEngO
import Derived.Test.YtobmafbliahplaaDoorProg
namespace Go.Proofs.YtobmafbliahplaaDoor
open Go.Eng
set_option linter.unusedVariables false
set_option linter.unusedSimpArgs false
theorem blk_nrm (s:qFp):blk ⟨s.hash,nrm 8 s.short,nrm 8 s.long,nrm 128 s.rest,s.n⟩=blk s:=by
 unfold blk;rw [blk32_nrm,blk64_nrm]
def put (size:Nat) (s:qFp) (b:List Int):qFp :=
 let s2:qFp:=⟨s.hash,s.short,s.long,(nrm 128 s.rest).take (s.n % size).toNat++(b.take (size - (s.n % size).toNat)++(nrm 128 s.rest).drop ((s.n % size).toNat+min b.length (size - (s.n % size).toNat))),(s.n+(min b.length (size - (s.n % size).toNat):Nat)) % 18446744073709551616⟩
 bif decide ((s.n % size).toNat+min b.length (size - (s.n % size).toNat)=size) then blk s2 else s2
def wrt (size:Nat):Nat→qFp→List Int→qFp
 | 0,s,_=>s
 | _+1,s,[]=>s
 | f+1,s,x::b=>wrt size f (put size s (x::b)) ((x::b).drop (min (x::b).length (size - (s.n % size).toNat)))
theorem blk_n (s:qFp):(blk s).n=s.n∧(blk s).hash=s.hash:=by
 unfold blk;cases decide (s.hash=1) <;> exact ⟨rfl,rfl⟩
theorem put_n (size:Nat) (s:qFp) (b:List Int):0≤(put size s b).n∧(put size s b).n<18446744073709551616∧(put size s b).hash=s.hash:=by
 unfold put;generalize decide ((s.n % (size:Int)).toNat+min b.length (size - (s.n % (size:Int)).toNat)=size)=c
 cases c
 ·exact ⟨Int.emod_nonneg _ (by decide),Int.emod_lt_of_pos _ (by decide),rfl⟩
 ·refine ⟨?_,?_,?_⟩
  ·rw [cnT,(blk_n _).1]; exact Int.emod_nonneg _ (by decide)
  ·rw [cnT,(blk_n _).1]; exact Int.emod_lt_of_pos _ (by decide)
  ·rw [cnT,(blk_n _).2]
theorem p_write (size:Nat) (h1:1≤size) (h2:size≤128):∀(f:Nat) (s:qFp) (b:List Int),b.length≤f→0≤s.n→s.n<18446744073709551616 →
  zaj_p0 size s.hash s.short s.long s.rest s.n b=some ((wrt size f s b).hash,(wrt size f s b).short,(wrt size f s b).long,(wrt size f s b).rest,(wrt size f s b).n)
 | f,s,[],hb,h0,hn=>by
  have:wrt size f s []=s:=by cases f <;> rfl
  rw [this];unfold zaj_p0;refine qAt ?_;unfold qC8;rw [deF (by simp),cnF]
 | 0,s,x::b,hb,_,_=>by simp at hb
 | f+1,s,x::b,hb,h0,hn=>by
  have hsz:(size:Int) % 18446744073709551616=size:=Int.emod_eq_of_lt (by omega) (by omega);have hm0:0≤s.n % size:=Int.emod_nonneg _ (by omega);have hm1:s.n % size<size:=Int.emod_lt_of_pos _ (by omega);generalize hB:x::b=B at hb ⊢
  have hBl:0<B.length:=by rw [←hB]; simp
  have hst:qC8 size s.hash s.short s.long s.rest s.n B=some (.inl ((put size s B).hash,(put size s B).short,(put size s B).long,(put size s B).rest,(put size s B).n,B.drop (min B.length (size - (s.n % size).toNat)))):=by
   unfold qC8;rw [deT (by omega),cnT,hsz];have hk:(((min B.length ((Int.toNat (size:Int)) - (Int.toNat (s.n % size)))):Nat):Int) % 18446744073709551616=((min B.length (size - (s.n % size).toNat):Nat):Int):=by
    rw [Int.toNat_natCast];exact Int.emod_eq_of_lt (by omega) (by omega)
   rw [hk];simp only [Int.toNat_natCast,List.take_length]
   iterate 6 refine (qAb (by first | (unfold qAe; omega) | omega) _).trans ?_
   have hd:decide (s.n % (size:Int)+((min B.length (size - (s.n % size).toNat):Nat):Int)=size)=decide ((s.n % size).toNat+min B.length (size - (s.n % size).toNat)=size):=by
    rw [decide_eq_decide];omega
   rw [hd];unfold put;cases decide ((s.n % size).toNat+min B.length (size - (s.n % size).toNat)=size)
   ·rfl
   ·simp only [cnT,p_block,obS];have:=blk_nrm ⟨s.hash,s.short,s.long,(nrm 128 s.rest).take (s.n % size).toNat++(B.take (size - (s.n % size).toNat)++(nrm 128 s.rest).drop ((s.n % size).toNat+min B.length (size - (s.n % size).toNat))),(s.n+(min B.length (size - (s.n % size).toNat):Nat)) % 18446744073709551616⟩;simp only at this;rw [this]
  obtain ⟨p1,p2,p3⟩:=put_n size s B;have ih:=p_write size h1 h2 f (put size s B) (B.drop (min B.length (size - (s.n % size).toNat))) (by rw [List.length_drop]; omega) p1 p2;have hw:wrt size (f+1) s B=wrt size f (put size s B) (B.drop (min B.length (size - (s.n % size).toNat))):=by rw [←hB]; rfl
  rw [hw];unfold zaj_p0 at ih ⊢;rw [qAl hst];exact ih
def qAv (h:Int):Nat:=bif decide (h=1) then 64 else bif decide (h=2) then 128 else bif decide (h=3) then 128 else 0
theorem p_Block (h:Int):zag_s h=some ((qAv h:Nat):Int):=by
 unfold zag_s qAv;cases decide (h=1) <;> cases decide (h=2) <;> cases decide (h=3) <;> rfl
def nrmS (s:qFp):qFp:=⟨s.hash,nrm 8 s.short,nrm 8 s.long,nrm 128 s.rest,s.n⟩
def shaW (s:qFp) (b:List Int):qFp:=wrt (qAv s.hash) b.length (nrmS s) b
theorem sizeB_of {h:Int} (hh:h=1∨h=2∨h=3):64≤qAv h∧qAv h≤128∧(h=1→qAv h=64)∧(h≠1→qAv h=128):=by
 rcases hh with rfl | rfl | rfl <;> decide
theorem p_Write (s:qFp) (b:List Int) (hh:s.hash=1∨s.hash=2∨s.hash=3) (h0:0≤s.n) (hn:s.n<18446744073709551616):zaj_s s b=some (shaW s b):=by
 obtain ⟨h1,h2,_⟩:=sizeB_of hh;unfold zaj_s shaW;rw [p_Block,obS];have h:=p_write (qAv s.hash) (by omega) h2 b.length (nrmS s) b (Nat.le_refl _) h0 hn;simp only [nrmS] at h ⊢;rw [h];rfl
theorem wrt_n (size:Nat):∀(f:Nat) (s:qFp) (b:List Int),0≤s.n→s.n<18446744073709551616→0≤(wrt size f s b).n∧(wrt size f s b).n<18446744073709551616∧(wrt size f s b).hash=s.hash
 | 0,s,b,h0,hn=>⟨h0,hn,rfl⟩
 | f+1,s,[],h0,hn=>⟨h0,hn,rfl⟩
 | f+1,s,x::b,h0,hn=>by
  obtain ⟨p1,p2,p3⟩:=put_n size s (x::b);have:=wrt_n size f (put size s (x::b)) ((x::b).drop (min (x::b).length (size - (s.n % size).toNat))) p1 p2;rw [p3] at this;exact this
def zer (size field m:Int) (n:Nat):Nat:=((size - field - m - n) % size).toNat
theorem p_pad (size n field:Int) (hs:size=64∧field=8∨size=128∧field=16) (hn:0≤n) (hn2:n<18446744073709551616):∀(k:Nat) (pad:List Int),zer size field (n % size) pad.length=k→pad.length+k≤1000 →
  zai_p0 size n field pad=some (pad++List.replicate k 0):=by
 have hsz:size % 18446744073709551616=size:=by rcases hs with ⟨rfl,_⟩ | ⟨rfl,_⟩ <;> rfl
 have hm0:0≤n % size:=Int.emod_nonneg _ (by omega);have hm1:n % size<size:=Int.emod_lt_of_pos _ (by omega);intro k;induction k with
 | zero =>
  intro pad hz hl;unfold zai_p0;refine qAt ?_;unfold qC6;rw [hsz]
  iterate 5 refine (qAb (by first | (unfold qAe; omega) | omega) _).trans ?_
  have hc:((n % size)+(pad.length:Int)) % size=size - field:=by
   unfold zer at hz;rcases hs with ⟨rfl,rfl⟩ | ⟨rfl,rfl⟩ <;> omega
  rw [deT hc];simp
 | succ k ih =>
  intro pad hz hl;have hst:qC6 size n field pad=some (.inl (pad++[0])):=by
   unfold qC6;rw [hsz]
   iterate 5 refine (qAb (by first | (unfold qAe; omega) | omega) _).trans ?_
   have hc:¬((n % size)+(pad.length:Int)) % size=size - field:=by
    unfold zer at hz;rcases hs with ⟨rfl,rfl⟩ | ⟨rfl,rfl⟩ <;> omega
   rw [deF hc];exact qAb (by simp only [List.length_cons,List.length_nil]; omega) _
  have:=ih (pad++[0]) (by
   unfold zer at hz ⊢;rw [List.length_append,List.length_singleton];rcases hs with ⟨rfl,rfl⟩ | ⟨rfl,rfl⟩ <;> omega) (by rw [List.length_append,List.length_singleton]; omega)
  unfold zai_p0 at this ⊢;rw [qAl hst,this,List.append_assoc];rfl
def lenB (n i:Int):Int:=bif decide (i<8) then ((n*8) % 18446744073709551616) / 2 ^ (min (Int.toNat (8*i)) 64) % 256 else bif decide (i=8) then n / 2305843009213693952 % 256 else 0
def lenS (n:Int) (x:Int × List Int):Int × List Int:=(x.1 - 1,x.2++[lenB n x.1])
theorem p_len (n i:Int) (pad:List Int) (hi:i≤15) (hp:pad.length≤500):zai_p1 n i pad=some (itr (lenS n) (i+1).toNat (i,pad)).2:=by
 unfold zai_p1;refine qBc (fun x => - x.1) (lenS n) (fun x=>x.2) (fun x=>x.1≤15∧(x.2.length:Int)+x.1≤600) 1 (fun x hx hn=>?_) (fun x hx hn=>?_) _ (i,pad) ⟨hi,by show (pad.length:Int)+i≤600; omega⟩ (by show (1 - -i).toNat=_; omega)
 ·obtain ⟨h1,h2⟩:=hx;refine ⟨?_,by show -(x.1 - 1) = -x.1+1; omega,by show x.1 - 1≤15; omega,by show ((x.2++[lenB n x.1]).length:Int)+(x.1 - 1)≤600; rw [List.length_append,List.length_singleton]; omega⟩;have hn : -x.1<1:=hn;unfold qEg;rw [deT (by omega),cnT];unfold lenS lenB;by_cases h8:x.1<8
  ·rw [deT h8,cnT]
   iterate 5 refine (qAb (by first | decide | (unfold qAe; omega) | omega | (simp only [List.length_cons,List.length_nil]; omega)) _).trans ?_
   rfl
  ·rw [deF h8,cnF];by_cases h9:x.1=8
   ·rw [deT h9,cnT]
    iterate 3 refine (qAb (by first | decide | (unfold qAe; omega) | omega | (simp only [List.length_cons,List.length_nil]; omega)) _).trans ?_
    rfl
   ·rw [deF h9,cnF]
    iterate 2 refine (qAb (by first | decide | (unfold qAe; omega) | omega | (simp only [List.length_cons,List.length_nil]; omega)) _).trans ?_
    rfl
 ·have hn:1 ≤ -x.1:=hn;unfold qEg;rw [deF (by omega),cnF]
def by32 (s:List Int) (x:Int × List Int):Int × List Int:=(x.1+1,x.2++[(nrm 8 s).getD (Int.toNat x.1) 0 / 16777216 % 256,(nrm 8 s).getD (Int.toNat x.1) 0 / 65536 % 256,(nrm 8 s).getD (Int.toNat x.1) 0 / 256 % 256,(nrm 8 s).getD (Int.toNat x.1) 0 % 256])
theorem p_out32 (s:List Int):zai_p2 s 0 []=some (itr (by32 s) 8 (0,[])).2:=by
 unfold zai_p2;refine qBc (fun x=>x.1) (by32 s) (fun x=>x.2) (fun x=>0≤x.1∧(x.2.length:Int)≤4*x.1) 8 (fun x hx hn=>?_) (fun x hx hn=>?_) _ (0,[]) ⟨Int.le_refl _,by simp⟩ rfl
 ·obtain ⟨h1,h2⟩:=hx;refine ⟨?_,rfl,by show 0≤x.1+1; omega,by show ((x.2++[_,_,_,_]).length:Int)≤4*(x.1+1); rw [List.length_append]; simp only [List.length_cons,List.length_nil]; omega⟩;unfold qEh;rw [deT hn,cnT]
  iterate 6 refine (qAb (by first | decide | (unfold qAe; omega) | omega | (simp only [List.length_cons,List.length_nil]; omega)) _).trans ?_
  rfl
 ·unfold qEh;rw [deF (by omega),cnF]
def byt8 (v:Int) (x:Int × List Int):Int × List Int:=(x.1 - 8,x.2++[v / 2 ^ (min (Int.toNat x.1) 64) % 256])
theorem p_out8 (v:Int) (out:List Int) (ho:out.length≤500):zai_p4 v 56 out=some (itr (byt8 v) 8 (56,out)).2:=by
 have key:∀(k:Nat) (i:Int) (out:List Int),i=8*(k:Int) - 8→k≤8→out.length+k≤600→zai_p4 v i out=some (itr (byt8 v) k (i,out)).2:=by
  intro k;induction k with
  | zero =>
   intro i out hi _ _;unfold zai_p4;refine qAt ?_;unfold qC7;rw [deF (by omega),cnF];rfl
  | succ k ih =>
   intro i out hi hk hl;have hst:qC7 v i out=some (.inl (byt8 v (i,out))):=by
    unfold qC7;rw [deT (by omega),cnT]
    iterate 3 refine (qAb (by first | decide | (unfold qAe; omega) | omega | (simp only [List.length_cons,List.length_nil]; omega)) _).trans ?_
    rfl
   have:=ih (i - 8) (out++[v / 2 ^ (min (Int.toNat i) 64) % 256]) (by omega) (by omega) (by rw [List.length_append,List.length_singleton]; omega);unfold zai_p4 at this ⊢;rw [qAl hst];exact this
 exact key 8 56 out rfl (Nat.le_refl _) (by omega)
theorem byt8_len (v:Int):∀(k:Nat) (x:Int × List Int),(itr (byt8 v) k x).2.length=x.2.length+k
 | 0,x=>rfl
 | k+1,x=>by
  rw [itr,byt8_len v k];show (x.2++[_]).length+k=_;rw [List.length_append,List.length_singleton];omega
def by64 (s:List Int) (x:Int × List Int):Int × List Int:=(x.1+1,(itr (byt8 ((nrm 8 s).getD (Int.toNat x.1) 0)) 8 (56,x.2)).2)
theorem p_out64 (s a b c d e f:List Int) (hs:s.length=8) (ha:a.length=8) (hb:b.length=8) (hc:c.length=128) (hd:d.length=8) (he:e.length=8) (hf:f.length=128) :
  zai_p3 s 0 a b c d e f []=some (a,b,c,d,e,f,(itr (by64 s) 8 (0,[])).2):=by
 have key:∀(k:Nat) (i:Int) (out:List Int),0≤i→i+k=8→out.length≤8*i.toNat→zai_p3 s i a b c d e f out=some (a,b,c,d,e,f,(itr (by64 s) k (i,out)).2):=by
  intro k;induction k with
  | zero =>
   intro i out h0 hi _;unfold zai_p3;refine qAt ?_;show qCl s i a b c d e f out=_;unfold qCl;rw [deF (by omega),cnF];rfl
  | succ k ih =>
   intro i out h0 hi hl;have hst:qCl s i a b c d e f out=some (.inl (s,i+1,a,b,c,d,e,f,(by64 s (i,out)).2)):=by
    unfold qCl;rw [deT (by omega),cnT];refine (qAb (by omega) _).trans ?_;rw [p_out8 _ _ (by omega),obS];refine (qAb (by unfold qAe; omega) _).trans ?_;rw [qCs hs,qCs ha,qCs hb,qCs hc,qCs hd,qCs he,qCs hf];unfold by64;rw [qCs hs]
   have:=ih (i+1) (by64 s (i,out)).2 (by omega) (by omega) (by
    show (itr _ 8 (56,out)).2.length≤_;rw [byt8_len];show out.length+8≤_;omega)
   unfold zai_p3 at this ⊢;rw [qAl hst];exact this
 exact key 8 0 [] (Int.le_refl _) rfl (by simp)
def sumZ (h:Int):Nat:=bif decide (h=1) then 32 else bif decide (h=2) then 48 else bif decide (h=3) then 64 else 0
theorem sumZ_le (h:Int):sumZ h≤64:=by
 unfold sumZ;cases decide (h=1) <;> cases decide (h=2) <;> cases decide (h=3) <;> decide
theorem p_Size (h:Int):zah_s h=some ((sumZ h:Nat):Int):=by
 unfold zah_s sumZ;cases decide (h=1) <;> cases decide (h=2) <;> cases decide (h=3) <;> rfl
def padB (size field n:Int):List Int:=(itr (lenS n) field.toNat (field - 1,[128]++List.replicate (zer size field (n % size) 1) 0)).2
def outB (s:qFp):List Int:=bif decide (s.hash=1) then (itr (by32 s.short) 8 (0,[])).2 else (itr (by64 s.long) 8 (0,[])).2.take (sumZ s.hash)
def shaS (s:qFp):List Int:=outB (shaW s (padB (qAv s.hash) (qAv s.hash / 8) s.n))
theorem by64_len (s:List Int):∀(k:Nat) (x:Int × List Int),(itr (by64 s) k x).2.length=x.2.length+8*k
 | 0,x=>rfl
 | k+1,x=>by
  rw [itr,by64_len s k];show (itr _ 8 (56,x.2)).2.length+8*k=_;rw [byt8_len];show x.2.length+8+8*k=_;omega
theorem by32_len (s:List Int):∀(k:Nat) (x:Int × List Int),(itr (by32 s) k x).2.length=x.2.length+4*k
 | 0,x=>rfl
 | k+1,x=>by
  rw [itr,by32_len s k];show (x.2++[_,_,_,_]).length+4*k=_;rw [List.length_append];simp only [List.length_cons,List.length_nil];omega
theorem by32_nrm (s:List Int):by32 (nrm 8 s)=by32 s:=by
 funext x
 simp only [by32,qBi]
theorem by64_nrm (s:List Int):by64 (nrm 8 s)=by64 s:=by
 funext x
 simp only [by64,qBi]
theorem shaW_nrm (s:qFp) (b:List Int):shaW (nrmS s) b=shaW s b:=by simp only [shaW,nrmS,qBi]
theorem p_Sum (s:qFp) (hh:s.hash=1∨s.hash=2∨s.hash=3) (h0:0≤s.n) (hn:s.n<18446744073709551616):zai_s s=some (nrmS s,shaS s):=by
 obtain ⟨h1,h2,h3,h4⟩:=sizeB_of hh;have hcase:((qAv s.hash:Nat):Int)=64∧((qAv s.hash:Nat):Int) / 8=8∨((qAv s.hash:Nat):Int)=128∧((qAv s.hash:Nat):Int) / 8=16:=by
  by_cases hc:s.hash=1
  ·rw [h3 hc]; exact .inl ⟨rfl,rfl⟩
  ·rw [h4 hc]; exact .inr ⟨rfl,rfl⟩
 have hz:zer (qAv s.hash) (qAv s.hash / 8) (s.n % qAv s.hash) 1≤128:=by
  unfold zer;have:=Int.emod_lt_of_pos ((qAv s.hash:Int) - (qAv s.hash:Int) / 8 - s.n % (qAv s.hash:Int) - (1:Nat)) (show (0:Int)<(qAv s.hash:Int) by omega);omega
 unfold zai_s;rw [p_Block,obS];refine (qAb (by omega) _).trans ?_;rw [p_pad _ _ _ hcase h0 hn (zer (qAv s.hash) (qAv s.hash / 8) (s.n % qAv s.hash) 1) [128] rfl (by simp only [List.length_cons,List.length_nil]; omega),obS];refine (qAb (by unfold qAe; omega) _).trans ?_;rw [p_len _ _ _ (by omega) (by simp only [List.length_append,List.length_replicate,List.length_cons,List.length_nil]; omega),obS];simp only [qBi];have hpad:(itr (lenS s.n) ((qAv s.hash:Int) / 8 - 1+1).toNat ((qAv s.hash:Int) / 8 - 1,[128]++List.replicate (zer (qAv s.hash) (qAv s.hash / 8) (s.n % qAv s.hash) 1) 0)).2=padB (qAv s.hash) (qAv s.hash / 8) s.n:=by
  unfold padB;rw [show (qAv s.hash:Int) / 8 - 1+1=(qAv s.hash:Int) / 8 by omega]
 rw [hpad,show (⟨s.hash,nrm 8 s.short,nrm 8 s.long,nrm 128 s.rest,s.n⟩:qFp)=nrmS s from rfl,p_Write (nrmS s) _ hh h0 hn,obS,shaW_nrm];have hwh:(shaW s (padB (qAv s.hash) (qAv s.hash / 8) s.n)).hash=s.hash:=(wrt_n _ _ (nrmS s) _ h0 hn).2.2;unfold shaS outB;generalize hT:shaW s (padB (qAv s.hash) (qAv s.hash / 8) s.n)=T at hwh ⊢
 cases hc:decide (T.hash=1) with
 | true =>
  simp only [cnT];rw [p_out32,obS,by32_nrm]
 | false =>
  simp only [cnF];have hl:((sumZ T.hash:Nat):Int)≤((itr (by64 T.long) 8 (0,([]:List Int))).2.length:Int):=by
   rw [by64_len];have:sumZ T.hash≤64:=sumZ_le _;simp only [List.length_nil];omega
  rw [p_out64 _ _ _ _ _ _ _ (qA8 _ _) (qA8 _ _) (qA8 _ _) (qA8 _ _) (qA8 _ _) (qA8 _ _) (qA8 _ _),obS,p_Size,obS,obS,by64_nrm];dsimp only;generalize (itr (by64 T.long) 8 (0,([]:List Int))).2=O at hl ⊢
  refine (qAb (by refine ⟨?_,by omega,by omega,hl⟩; trivial) _).trans ?_;rw [Int.toNat_natCast];rfl
theorem shaS_len (s:qFp) (hh:s.hash=1∨s.hash=2∨s.hash=3) (h0:0≤s.n) (hn:s.n<18446744073709551616):(shaS s).length=sumZ s.hash:=by
 have hwh:(shaW s (padB (qAv s.hash) (qAv s.hash / 8) s.n)).hash=s.hash:=(wrt_n _ _ (nrmS s) _ h0 hn).2.2;unfold shaS outB;rw [hwh];rcases hh with h | h | h <;> rw [h]
 ·rw [deT rfl,cnT,by32_len];rfl
 ·rw [deF (by decide),cnF,List.length_take,by64_len];rfl
 ·rw [deF (by decide),cnF,List.length_take,by64_len];rfl
set_option maxRecDepth 100000
structure qFq where
 minus:Bool
 digits:(List Int)
 off:Int
 down:Bool
 exp_:(List Int)
 plain:Bool
 text:BA
noncomputable section
def zad_b1:IQ:=(.join [] [] (.cond t9 (.seq (rg 2 [oP 2 (.mv (vI 2))]) (.cn [2] .ret)) (.seq (.seq (rg 14 [oP 15 (.bi .eql t3 (vI 3)),oM 14 t15]) (.cond t14 .skip (.seq (rg 14 [oP 16 (.bi .eql t3 (vI 6)),oM 14 t16]) (.cond t14 .skip (.seq (rg 14 [oP 17 (.bi .eql t3 (vI 9)),oM 14 t17]) (.cond t14 .skip (rg 14 [oP 18 (.bi .eql t3 (vI 12)),oM 14 t18]))))))) (.cond t14 (.seq (rg 2 [oP 2 (.mv (vI 3))]) (.cn [2] .ret)) .skip))))
def zad_b0:IQ:=(.join [] [] (.cond t4 (.seq (rg 2 [oP 2 (.mv (vI 1))]) (.cn [2] .ret)) (.seq (.seq (rg 9 [oP 10 (.bi .eql t3 (vI 2)),oM 9 t10]) (.cond t9 .skip (.seq (rg 9 [oP 11 (.bi .eql t3 (vI 5)),oM 9 t11]) (.cond t9 .skip (.seq (rg 9 [oP 12 (.bi .eql t3 (vI 8)),oM 9 t12]) (.cond t9 .skip (rg 9 [oP 13 (.bi .eql t3 (vI 11)),oM 9 t13]))))))) (.cn [3,9] (.sub 1 zad_b1)))))
def zad_q:IQ:=(.seq (rg 2 [oP 2 (.mv (vI 0))]) (.seq (.seq (rg 3 [oM 3 t0]) (.block 0 (.seq (.seq (rg 4 [oP 5 (.bi .eql t3 (vI 1)),oM 4 t5]) (.cond t4 .skip (.seq (rg 4 [oP 6 (.bi .eql t3 (vI 4)),oM 4 t6]) (.cond t4 .skip (.seq (rg 4 [oP 7 (.bi .eql t3 (vI 7)),oM 4 t7]) (.cond t4 .skip (rg 4 [oP 8 (.bi .eql t3 (vI 10)),oM 4 t8]))))))) (.cn [3,4] (.sub 0 zad_b0))))) (.seq (rg 2 [oP 2 (.mv (vI 0))]) (.cn [2] .ret))))
def zad_p1 (x3_:Int) (x9_:Bool):Option (Int ⊕ Unit) :=
 bif x9_ then (
  some (.inl (2:Int)))
 else (
  bif decide (x3_=(3:Int)) then (
   bif decide (x3_=(3:Int)) then (
    some (.inl (3:Int)))
   else (
    some (.inr ())))
  else (
   bif decide (x3_=(6:Int)) then (
    bif decide (x3_=(6:Int)) then (
     some (.inl (3:Int)))
    else (
     some (.inr ())))
   else (
    bif decide (x3_=(9:Int)) then (
     bif decide (x3_=(9:Int)) then (
      some (.inl (3:Int)))
     else (
      some (.inr ())))
    else (
     bif decide (x3_=(12:Int)) then (
      some (.inl (3:Int)))
     else (
      some (.inr ()))))))
def zad_p0 (x3_:Int) (x4_:Bool):Option (Int ⊕ Unit) :=
 bif x4_ then (
  some (.inl (1:Int)))
 else (
  bif decide (x3_=(2:Int)) then (
   (zad_p1 x3_ (decide (x3_=(2:Int)))).bind fun o1=>(Sum.elim (fun (o1_0:Int) =>
    some (.inl o1_0)) (fun (o1_1:Unit) =>
    some (.inr ()))) o1)
  else (
   bif decide (x3_=(5:Int)) then (
    (zad_p1 x3_ (decide (x3_=(5:Int)))).bind fun o2=>(Sum.elim (fun (o2_0:Int) =>
     some (.inl o2_0)) (fun (o2_1:Unit) =>
     some (.inr ()))) o2)
   else (
    bif decide (x3_=(8:Int)) then (
     (zad_p1 x3_ (decide (x3_=(8:Int)))).bind fun o3=>(Sum.elim (fun (o3_0:Int) =>
      some (.inl o3_0)) (fun (o3_1:Unit) =>
      some (.inr ()))) o3)
    else (
     (zad_p1 x3_ (decide (x3_=(11:Int)))).bind fun o4=>(Sum.elim (fun (o4_0:Int) =>
      some (.inl o4_0)) (fun (o4_1:Unit) =>
      some (.inr ()))) o4))))
def zad_s (a:Int):Option Int :=
 bif decide (a=(1:Int)) then (
  (zad_p0 a (decide (a=(1:Int)))).bind fun o5=>(Sum.elim (fun (o5_0:Int) =>
   some o5_0) (fun (o5_1:Unit) =>
   some (0:Int))) o5)
 else (
  bif decide (a=(4:Int)) then (
   (zad_p0 a (decide (a=(4:Int)))).bind fun o6=>(Sum.elim (fun (o6_0:Int) =>
    some o6_0) (fun (o6_1:Unit) =>
    some (0:Int))) o6)
  else (
   bif decide (a=(7:Int)) then (
    (zad_p0 a (decide (a=(7:Int)))).bind fun o7=>(Sum.elim (fun (o7_0:Int) =>
     some o7_0) (fun (o7_1:Unit) =>
     some (0:Int))) o7)
   else (
    (zad_p0 a (decide (a=(10:Int)))).bind fun o8=>(Sum.elim (fun (o8_0:Int) =>
     some o8_0) (fun (o8_1:Unit) =>
     some (0:Int))) o8)))
def zad_G:Nat→Option CQ:=tblQ []
def zad_d1:=(dQS (qAa (dSO 3 dZ) (qAa (dSO 9 dB) dNil)) dNil)
def zad_l1:SubQ:=mkL zad_d1 (fun x=>zad_p1 x.1.1 x.1.2.1) fun x r R kn kx kr=>(Sum.elim (fun (r_0:Int)=>kr ⟨[sL 2 (.vI r_0)],[],[]⟩) (fun (r_1:Unit)=>kn ⟨[],[],[]⟩)) r
def zad_d0:=(dQS (qAa (dSO 3 dZ) (qAa (dSO 4 dB) dNil)) dNil)
def zad_l0:SubQ:=mkL zad_d0 (fun x=>zad_p0 x.1.1 x.1.2.1) fun x r R kn kx kr=>(Sum.elim (fun (r_0:Int)=>kr ⟨[sL 2 (.vI r_0)],[],[]⟩) (fun (r_1:Unit)=>kn ⟨[],[],[]⟩)) r
def zad_L:Nat→SubQ:=tblL [(1,zad_l1),(0,zad_l0)]
theorem zad_sub1:qBm zad_L zad_G 0 4 19 1 zad_b1:=qAq (show zad_L 1=zad_l1 from by kernel_rfl) fun x R kn kx kr=>by
 simp only [zad_p1,-eq_self,sZ];kernel_rfl
theorem zad_sub0:qBm zad_L zad_G 0 4 19 0 zad_b0:=qAq (show zad_L 0=zad_l0 from by kernel_rfl) fun x R kn kx kr=>by
 simp only [zad_p0,-eq_self,sZ];kernel_rfl
def zad_c:CS:=mkC (qAa (dVC (dCO dZ)) dNil) dNil (fun x y=>zad_s x.1) (fun x y r=>.c (.o (.vI r))) fun x y r=>[]
theorem zad_val:qA0 Tryd.prog 14 zad_c:=vl1 zad_q [.tmp 2] 19 4 0 (show qBt zad_L zad_G 0 4 19 [(0,zad_b0),(1,zad_b1)] from ⟨zad_sub0,zad_sub1,tV⟩) (fun f C h=>by cases h) fun x y=>by
 simp only [zad_s,-eq_self,sZ];kernel_rfl
def zad_w:CQ:=liftV [] zad_c
theorem zad_ok:qAm Tryd.prog 14 zad_w:=qBf zad_val
def zab_b0:IQ:=(.loop [0,1,5] (.join [(1000000,none,.u8,0)] [0,1,5] (.seq (.seq (rg 15 [oM 13 t0,oP 14 (.len t13),oP 15 (.bi .geq t14 (vI 3))]) (.cond t15 .skip (.cn [0,1,5] (.exit 0)))) (.block 1 (.seq (.reg 6 (some [0,1,2,3,4,5,6,7,8,9,10,11,12,13,14,15,16]) [oM 16 t0,oP 17 (.iaddr 1 t16 (vI 0)),oP 18 (.load none t17),oP 19 (.conv false .u64 t18),oP 20 (.bi .shl t19 (.v (.int .u64 16))),oM 21 t0,oP 22 (.iaddr 1 t21 (vI 1)),oP 23 (.load none t22),oP 24 (.conv false .u64 t23),oP 25 (.bi .shl t24 (.v (.int .u64 8))),oP 26 (.bi .or t20 t25),oM 27 t0,oP 28 (.iaddr 1 t27 (vI 2)),oP 29 (.load none t28),oP 30 (.conv false .u64 t29),oP 31 (.bi .or t26 t30),oM 6 t31]) (.seq (.reg 5 (some [0,1,2,3,4,5,6,7,8,9,10,11,12,13,14,15,16,17,18,19,20,21]) [oM 32 t5,oM 33 t1,oM 34 t6,oP 35 (.bi .shr t34 (.v (.int .u64 18))),oP 36 (.index t33 t35),oM 37 t1,oM 38 t6,oP 39 (.bi .shr t38 (.v (.int .u64 12))),oP 40 (.bi .and t39 (.v (.int .u64 63))),oP 41 (.index t37 t40),oM 42 t1,oM 43 t6,oP 44 (.bi .shr t43 (.v (.int .u64 6))),oP 45 (.bi .and t44 (.v (.int .u64 63))),oP 46 (.index t42 t45),oM 47 t1,oM 48 t6,oP 49 (.bi .and t48 (.v (.int .u64 63))),oP 50 (.index t47 t49),oP 51 (.bslice 5 1 4 [.int .u8 0] [(0,t36),(1,t41),(2,t46),(3,t50)]),oP 52 (.append 5 1 1 [.int .u8 0] t32 t51),oM 5 t52]) (rg 0 [oM 53 t0,oP 54 (.sub (some 1) t53 (some (vI 3)) none),oM 0 t54])))))))
def zab_q:IQ:=(.seq (rg 4 [oP 4 (.mv (.v (.slice none 0 0)))]) (.seq (rg 5 [oM 7 t0,oP 8 (.len t7),oP 9 (.bi .add t8 (vI 2)),oP 10 (.bi .quo t9 (vI 3)),oP 11 (.bi .mul t10 (vI 4)),oP 12 (.ext (.mkslice 5 1 1 [.int .u8 0]) [(vI 0),t11]),oM 5 t12]) (.seq (.block 0 (.canon [(1000000,none,.u8,0)] [0,1,5] (.sub 0 zab_b0))) (.seq (.seq (rg 56 [oM 55 t0,oP 56 (.len t55)]) (.block 2 (.seq (rg 57 [oP 58 (.bi .eql t56 (vI 2)),oM 57 t58]) (.cond t57 (.reg 5 (some [0,1,2,3,4,5,6,7,8,9,10,11,12,13,14,15,16,17,18,19,20,21,22,23,24,25,26,27,28]) [oM 59 t5,oM 60 t1,oM 61 t0,oP 62 (.iaddr 1 t61 (vI 0)),oP 63 (.load none t62),oP 64 (.bi .shr t63 (.v (.int .u64 2))),oP 65 (.index t60 t64),oM 66 t1,oM 67 t0,oP 68 (.iaddr 1 t67 (vI 0)),oP 69 (.load none t68),oP 70 (.bi .and t69 (vC 3)),oP 71 (.bi .shl t70 (.v (.int .u64 4))),oM 72 t0,oP 73 (.iaddr 1 t72 (vI 1)),oP 74 (.load none t73),oP 75 (.bi .shr t74 (.v (.int .u64 4))),oP 76 (.bi .or t71 t75),oP 77 (.index t66 t76),oM 78 t1,oM 79 t0,oP 80 (.iaddr 1 t79 (vI 1)),oP 81 (.load none t80),oP 82 (.bi .and t81 (vC 15)),oP 83 (.bi .shl t82 (.v (.int .u64 2))),oP 84 (.index t78 t83),oP 85 (.bslice 5 1 3 [.int .u8 0] [(0,t65),(1,t77),(2,t84)]),oP 86 (.append 5 1 1 [.int .u8 0] t59 t85),oM 5 t86]) (.seq (rg 87 [oP 88 (.bi .eql t56 (vI 1)),oM 87 t88]) (.cond t87 (.reg 5 (some [0,1,2,3,4,5,6,7,8,9,10,11,12,13,14,15,16]) [oM 89 t5,oM 90 t1,oM 91 t0,oP 92 (.iaddr 1 t91 (vI 0)),oP 93 (.load none t92),oP 94 (.bi .shr t93 (.v (.int .u64 2))),oP 95 (.index t90 t94),oM 96 t1,oM 97 t0,oP 98 (.iaddr 1 t97 (vI 0)),oP 99 (.load none t98),oP 100 (.bi .and t99 (vC 3)),oP 101 (.bi .shl t100 (.v (.int .u64 4))),oP 102 (.index t96 t101),oP 103 (.bslice 5 1 2 [.int .u8 0] [(0,t95),(1,t102)]),oP 104 (.append 5 1 1 [.int .u8 0] t89 t103),oM 5 t104]) .skip)))))) (.seq (rg 4 [oM 105 t5,oM 4 t105]) (.canon [(4,none,.u8,5)] [4] .ret))))))
def qAh (b2:List Int) :=
 (qA6 .u64 (qA6 .u64 ((((b2.getD (Int.toNat (0:Int)) (ET.dft .u8)) % 18446744073709551616)*65536) % 18446744073709551616) ((((b2.getD (Int.toNat (1:Int)) (ET.dft .u8)) % 18446744073709551616)*256) % 18446744073709551616)) ((b2.getD (Int.toNat (2:Int)) (ET.dft .u8)) % 18446744073709551616))
def qEf (signs:BA) (b2 out:List Int):Option (((List Int) × (List Int)) ⊕ ((List Int) × (List Int))) :=
 bif decide ((3:Int)≤(b2.length:Int)) then (
  gd (0≤(0:Int)∧(0:Int)<b2.length) <|
  gd ((Int.toNat (0:Int))<b2.length) <|
  gd (0≤(16:Int)) <|
  gd (0≤(1:Int)∧(1:Int)<b2.length) <|
  gd ((Int.toNat (1:Int))<b2.length) <|
  gd (0≤(8:Int)) <|
  gd (0≤(2:Int)∧(2:Int)<b2.length) <|
  gd ((Int.toNat (2:Int))<b2.length) <|
  gd (0≤(18:Int)) <|
  gd (0≤((qAh b2) / 262144)∧((qAh b2) / 262144)<signs.size) <|
  gd (0≤(12:Int)) <|
  gd (0≤(qAd .u64 ((qAh b2) / 4096) (63:Int))∧(qAd .u64 ((qAh b2) / 4096) (63:Int))<signs.size) <|
  gd (0≤(6:Int)) <|
  gd (0≤(qAd .u64 ((qAh b2) / 64) (63:Int))∧(qAd .u64 ((qAh b2) / 64) (63:Int))<signs.size) <|
  gd (0≤(qAd .u64 (qAh b2) (63:Int))∧(qAd .u64 (qAh b2) (63:Int))<signs.size) <|
  gd (out.length+([(bAt signs ((qAh b2) / 262144)),(bAt signs (qAd .u64 ((qAh b2) / 4096) (63:Int))),(bAt signs (qAd .u64 ((qAh b2) / 64) (63:Int))),(bAt signs (qAd .u64 (qAh b2) (63:Int)))]:List Int).length≤9223372036854775807∧(out.length+([(bAt signs ((qAh b2) / 262144)),(bAt signs (qAd .u64 ((qAh b2) / 4096) (63:Int))),(bAt signs (qAd .u64 ((qAh b2) / 64) (63:Int))),(bAt signs (qAd .u64 (qAh b2) (63:Int)))]:List Int).length)*1≤140737488355328) <|
  gd (0≤(3:Int)∧(3:Int)≤(b2.length:Int)∧(b2.length:Int)≤b2.length) <|
  some (.inl (((b2.take b2.length).drop 3),(out++[(bAt signs ((qAh b2) / 262144)),(bAt signs (qAd .u64 ((qAh b2) / 4096) (63:Int))),(bAt signs (qAd .u64 ((qAh b2) / 64) (63:Int))),(bAt signs (qAd .u64 (qAh b2) (63:Int)))]))))
 else (
  some (.inr (b2,out)))
def zab_p0 (signs:BA) (b2 out:List Int):Option ((List Int) × (List Int)) :=
 qAp (fun x:((List Int) × (List Int))=>qEf signs x.1 x.2) (b2,out)
def zab_s (b:(List Int)) (signs:BA):Option ((List Int)) :=
 gd (qAe ((b.length:Int)+(2:Int))) <|
 gd (0≤((b.length:Int)+(2:Int))∧((b.length:Int)+(2:Int))≤9223372036854775807∧1≤(3:Int)) <|
 gd (qAe ((((b.length:Int)+(2:Int)) / (3:Int))*(4:Int))) <|
 gd (0≤(0:Int)∧(0:Int)≤((((b.length:Int)+(2:Int)) / (3:Int))*(4:Int))∧((((b.length:Int)+(2:Int)) / (3:Int))*(4:Int))≤9223372036854775807∧((((b.length:Int)+(2:Int)) / (3:Int))*(4:Int))*1≤140737488355328) <|
 (zab_p0 signs b []).bind fun o1 =>
 bif decide ((o1.1.length:Int)=(2:Int)) then (
  gd (0≤(0:Int)∧(0:Int)<o1.1.length) <|
  gd ((Int.toNat (0:Int))<o1.1.length) <|
  gd (0≤(2:Int)) <|
  gd (0≤((o1.1.getD (Int.toNat (0:Int)) (ET.dft .u8)) / 4)∧((o1.1.getD (Int.toNat (0:Int)) (ET.dft .u8)) / 4)<signs.size) <|
  gd (0≤(0:Int)∧(0:Int)<o1.1.length) <|
  gd ((Int.toNat (0:Int))<o1.1.length) <|
  gd (0≤(4:Int)) <|
  gd (0≤(1:Int)∧(1:Int)<o1.1.length) <|
  gd ((Int.toNat (1:Int))<o1.1.length) <|
  gd (0≤(4:Int)) <|
  gd (0≤(qA6 .u8 (((qAd .u8 (o1.1.getD (Int.toNat (0:Int)) (ET.dft .u8)) (3:Int))*16) % 256) ((o1.1.getD (Int.toNat (1:Int)) (ET.dft .u8)) / 16))∧(qA6 .u8 (((qAd .u8 (o1.1.getD (Int.toNat (0:Int)) (ET.dft .u8)) (3:Int))*16) % 256) ((o1.1.getD (Int.toNat (1:Int)) (ET.dft .u8)) / 16))<signs.size) <|
  gd (0≤(1:Int)∧(1:Int)<o1.1.length) <|
  gd ((Int.toNat (1:Int))<o1.1.length) <|
  gd (0≤(2:Int)) <|
  gd (0≤(((qAd .u8 (o1.1.getD (Int.toNat (1:Int)) (ET.dft .u8)) (15:Int))*4) % 256)∧(((qAd .u8 (o1.1.getD (Int.toNat (1:Int)) (ET.dft .u8)) (15:Int))*4) % 256)<signs.size) <|
  gd (o1.2.length+([(bAt signs ((o1.1.getD (Int.toNat (0:Int)) (ET.dft .u8)) / 4)),(bAt signs (qA6 .u8 (((qAd .u8 (o1.1.getD (Int.toNat (0:Int)) (ET.dft .u8)) (3:Int))*16) % 256) ((o1.1.getD (Int.toNat (1:Int)) (ET.dft .u8)) / 16))),(bAt signs (((qAd .u8 (o1.1.getD (Int.toNat (1:Int)) (ET.dft .u8)) (15:Int))*4) % 256))]:List Int).length≤9223372036854775807∧(o1.2.length+([(bAt signs ((o1.1.getD (Int.toNat (0:Int)) (ET.dft .u8)) / 4)),(bAt signs (qA6 .u8 (((qAd .u8 (o1.1.getD (Int.toNat (0:Int)) (ET.dft .u8)) (3:Int))*16) % 256) ((o1.1.getD (Int.toNat (1:Int)) (ET.dft .u8)) / 16))),(bAt signs (((qAd .u8 (o1.1.getD (Int.toNat (1:Int)) (ET.dft .u8)) (15:Int))*4) % 256))]:List Int).length)*1≤140737488355328) <|
  some (o1.2++[(bAt signs ((o1.1.getD (Int.toNat (0:Int)) (ET.dft .u8)) / 4)),(bAt signs (qA6 .u8 (((qAd .u8 (o1.1.getD (Int.toNat (0:Int)) (ET.dft .u8)) (3:Int))*16) % 256) ((o1.1.getD (Int.toNat (1:Int)) (ET.dft .u8)) / 16))),(bAt signs (((qAd .u8 (o1.1.getD (Int.toNat (1:Int)) (ET.dft .u8)) (15:Int))*4) % 256))]))
 else (
  bif decide ((o1.1.length:Int)=(1:Int)) then (
   gd (0≤(0:Int)∧(0:Int)<o1.1.length) <|
   gd ((Int.toNat (0:Int))<o1.1.length) <|
   gd (0≤(2:Int)) <|
   gd (0≤((o1.1.getD (Int.toNat (0:Int)) (ET.dft .u8)) / 4)∧((o1.1.getD (Int.toNat (0:Int)) (ET.dft .u8)) / 4)<signs.size) <|
   gd (0≤(0:Int)∧(0:Int)<o1.1.length) <|
   gd ((Int.toNat (0:Int))<o1.1.length) <|
   gd (0≤(4:Int)) <|
   gd (0≤(((qAd .u8 (o1.1.getD (Int.toNat (0:Int)) (ET.dft .u8)) (3:Int))*16) % 256)∧(((qAd .u8 (o1.1.getD (Int.toNat (0:Int)) (ET.dft .u8)) (3:Int))*16) % 256)<signs.size) <|
   gd (o1.2.length+([(bAt signs ((o1.1.getD (Int.toNat (0:Int)) (ET.dft .u8)) / 4)),(bAt signs (((qAd .u8 (o1.1.getD (Int.toNat (0:Int)) (ET.dft .u8)) (3:Int))*16) % 256))]:List Int).length≤9223372036854775807∧(o1.2.length+([(bAt signs ((o1.1.getD (Int.toNat (0:Int)) (ET.dft .u8)) / 4)),(bAt signs (((qAd .u8 (o1.1.getD (Int.toNat (0:Int)) (ET.dft .u8)) (3:Int))*16) % 256))]:List Int).length)*1≤140737488355328) <|
   some (o1.2++[(bAt signs ((o1.1.getD (Int.toNat (0:Int)) (ET.dft .u8)) / 4)),(bAt signs (((qAd .u8 (o1.1.getD (Int.toNat (0:Int)) (ET.dft .u8)) (3:Int))*16) % 256))]))
  else (
   some o1.2))
def zab_G:Nat→Option CQ:=tblQ []
def zab_d0:=(dQS (qAa (dSO 0 (dO 1)) (qAa (dSO 1 dS) (qAa (dSO 5 (dO 2)) dNil))) (qAa (qDk .u8) (qAa (qDk .u8) (qAa (dRow .u8 5) dNil))))
def zab_l0:SubQ:=mkL zab_d0 (fun x=>zab_p0 x.1.2.1 x.2.2.1 x.2.2.2.1) fun x r R kn kx kr=>kx 0 ⟨[sL 0 (.own 1),sL 1 (.vS x.1.2.1),sL 5 (.own 2)],[],[.view .u8 x.2.1,.view .u8 r.1,.row .u8 5 r.2]⟩
def zab_L:Nat→SubQ:=tblL [(0,zab_l0)]
theorem zab_sub0:qBm zab_L zab_G 1 57 106 0 zab_b0:=qAq (show zab_L 0=zab_l0 from by kernel_rfl) fun x R kn kx kr=>qAi (step:=fun y=>qEf x.1.2.1 y.1 y.2) (enc:=fun (y:(List Int) × (List Int))=>zab_d0.e (x.1,(x.2.1,y.1,y.2,x.2.2.2.2))) (fun y=>by kernel_rfl) (fun y ki=>by simp only [qEf,-eq_self,sZ]; kernel_rfl) (x.2.2.1,x.2.2.2.1)
def zab_c:CS:=mkC (qAa (dVC (dCO (dO 0))) (qAa (dVC (dCO dS)) dNil)) (qAa (qDk .u8) dNil) (fun x y=>zab_s y.1 x.2.1) (fun x y r=>.c (.o (.own 1))) fun x y r=>[.view .u8 y.1,.row .u8 5 r]
theorem zab_val:qA0 Tryd.prog 34 zab_c:=vl1 zab_q [.tmp 4] 106 57 1 (show qBt zab_L zab_G 1 57 106 [(0,zab_b0)] from ⟨zab_sub0,tV⟩) (fun f C h=>by cases h) fun x y=>by
 simp only [zab_s,-eq_self,sZ];kernel_rfl
def zab_w:CQ:=prepQ [(0,none,some (.u8,5))] (liftQ [false] zab_c)
theorem zab_ok:qAm Tryd.prog 34 zab_w:=qFl zab_val
def zaa_q:IQ:=(.seq (rg 2 [oP 2 (.mv (.v (.string ⟨#[]⟩)))]) (.seq (rg 2 [oM 3 t0,oP 4 (.call 34 [t3,(.v (.string ⟨#[65,66,67,68,69,70,71,72,73,74,75,76,77,78,79,80,81,82,83,84,85,86,87,88,89,90,97,98,99,100,101,102,103,104,105,106,107,108,109,110,111,112,113,114,115,116,117,118,119,120,121,122,48,49,50,51,52,53,54,55,56,57,45,95]⟩))]),oP 5 (.ext .toStr [t4]),oM 2 t5]) (.cn [2] .ret)))
def zaa_s (b:(List Int)):Option BA :=
 (zab_s b (⟨#[65,66,67,68,69,70,71,72,73,74,75,76,77,78,79,80,81,82,83,84,85,86,87,88,89,90,97,98,99,100,101,102,103,104,105,106,107,108,109,110,111,112,113,114,115,116,117,118,119,120,121,122,48,49,50,51,52,53,54,55,56,57,45,95]⟩:BA)).bind fun r1 =>
 some (qFf r1)
def zaa_c:CS:=mkC (qAa (dVC (dCO (dO 0))) dNil) (qAa (qDk .u8) dNil) (fun x y=>zaa_s y.1) (fun x y r=>.c (.o (.vS r))) fun x y r=>[.view .u8 y.1]
theorem zaa_val:qA0 Tryd.prog 15 zaa_c:=vl0 zaa_q [.tmp 2] 6 3 1 [(34,zab_w)] ⟨zab_ok,tV⟩ fun x y=>by
 simp only [zaa_s,-eq_self,sZ];kernel_rfl
def zaa_w:CQ:=prepQ [(0,none,some (.u8,5))] (liftV [false] zaa_c)
theorem zaa_ok:qAm Tryd.prog 15 zaa_w:=prep_quiet zaa_val
def zac_q:IQ:=(.seq (rg 5 [oP 4 (.mv (.v (.string ⟨#[]⟩))),oP 5 (.mv (vI 0))]) (.seq (rg 6 [oM 7 t0,oP 8 (.call 14 [t7]),oM 6 t8]) (.seq (.seq (rg 10 [oM 9 t6,oP 10 (.bi .eql t9 (vI 0))]) (.cond t10 (.seq (rg 5 [oP 4 (.mv (.v (.string ⟨#[]⟩))),oP 5 (.mv (vI 111))]) (.cn [4,5] .ret)) .skip)) (.seq (rg 5 [oM 11 t6,oM 12 t1,oP 13 (.ext (.toBytes 5) [t12]),oP 14 (.bslice 47 1 1 [.slice none 0 0] [(0,t13)]),oP 15 (.call 16 [t11,t14]),oM 16 t6,oP 17 (.call 17 [t16]),oP 18 (.bi .quo t17 (vI 2)),oP 19 (.sub (some 1) t15 none (some t18)),oP 20 (.call 15 [t19]),oM 4 t20,oP 5 (.mv (vI 0))]) (.cn [4,5] .ret)))))
def zac_s (a:Int) (text:BA):Option (BA × Int) :=
 (zad_s a).bind fun r1 =>
 bif decide (r1=(0:Int)) then (
  some ((⟨#[]⟩:BA),(111:Int)))
 else (
  bif decide (r1=(1:Int)) then (
   gd (0≤(0:Int)∧(0:Int)<((1:Nat):Int)) <|
   (zaj_s (⟨r1,(nrm 8 shaS256),(nrm 8 ([]:List Int)),(nrm 128 ([]:List Int)),(0:Int)⟩:qFp) (qBn text)).bind fun r2 =>
   gd (qAe ((0:Int)+(1:Int))) <|
   (zai_s (⟨r2.hash,(nrm 8 r2.short),(nrm 8 r2.long),(nrm 128 r2.rest),r2.n⟩:qFp)).bind fun r3 =>
   (zah_s r1).bind fun r4 =>
   gd (0≤r4∧r4≤9223372036854775807∧1≤(2:Int)) <|
   gd (0≤(r4 / (2:Int))∧(r4 / (2:Int))≤r3.2.length) <|
   (zaa_s (r3.2.take (Int.toNat (r4 / (2:Int))))).bind fun r5 =>
   some (r5,(0:Int)))
  else (
   bif decide (r1=(2:Int)) then (
    gd (0≤(0:Int)∧(0:Int)<((1:Nat):Int)) <|
    (zaj_s (⟨r1,(nrm 8 ([]:List Int)),(nrm 8 shaS384),(nrm 128 ([]:List Int)),(0:Int)⟩:qFp) (qBn text)).bind fun r6 =>
    gd (qAe ((0:Int)+(1:Int))) <|
    (zai_s (⟨r6.hash,(nrm 8 r6.short),(nrm 8 r6.long),(nrm 128 r6.rest),r6.n⟩:qFp)).bind fun r7 =>
    (zah_s r1).bind fun r8 =>
    gd (0≤r8∧r8≤9223372036854775807∧1≤(2:Int)) <|
    gd (0≤(r8 / (2:Int))∧(r8 / (2:Int))≤r7.2.length) <|
    (zaa_s (r7.2.take (Int.toNat (r8 / (2:Int))))).bind fun r9 =>
    some (r9,(0:Int)))
   else (
    bif decide (r1=(3:Int)) then (
     gd (0≤(0:Int)∧(0:Int)<((1:Nat):Int)) <|
     (zaj_s (⟨r1,(nrm 8 ([]:List Int)),(nrm 8 shaS512),(nrm 128 ([]:List Int)),(0:Int)⟩:qFp) (qBn text)).bind fun r10 =>
     gd (qAe ((0:Int)+(1:Int))) <|
     (zai_s (⟨r10.hash,(nrm 8 r10.short),(nrm 8 r10.long),(nrm 128 r10.rest),r10.n⟩:qFp)).bind fun r11 =>
     (zah_s r1).bind fun r12 =>
     gd (0≤r12∧r12≤9223372036854775807∧1≤(2:Int)) <|
     gd (0≤(r12 / (2:Int))∧(r12 / (2:Int))≤r11.2.length) <|
     (zaa_s (r11.2.take (Int.toNat (r12 / (2:Int))))).bind fun r13 =>
     some (r13,(0:Int)))
    else (
     (zah_s r1).bind fun r14 =>
     gd (0≤r14∧r14≤9223372036854775807∧1≤(2:Int)) <|
     none))))
def sha_New_35_iq:IQ :=
 (.seq
 (.reg 2 none [
  ⟨(some 2),.mv (.v (.pointer none)),none⟩])
 (.seq
 (.reg 3 none [
  ⟨(some 4),.mv (.t 0),none⟩,
  ⟨(some 5),.build [.int .i64 0,.int .u32 0,.int .u32 0,.int .u32 0,.int .u32 0,.int .u32 0,.int .u32 0,.int .u32 0,.int .u32 0,.int .u64 0,.int .u64 0,.int .u64 0,.int .u64 0,.int .u64 0,.int .u64 0,.int .u64 0,.int .u64 0,.int .u8 0,.int .u8 0,.int .u8 0,.int .u8 0,.int .u8 0,.int .u8 0,.int .u8 0,.int .u8 0,.int .u8 0,.int .u8 0,.int .u8 0,.int .u8 0,.int .u8 0,.int .u8 0,.int .u8 0,.int .u8 0,.int .u8 0,.int .u8 0,.int .u8 0,.int .u8 0,.int .u8 0,.int .u8 0,.int .u8 0,.int .u8 0,.int .u8 0,.int .u8 0,.int .u8 0,.int .u8 0,.int .u8 0,.int .u8 0,.int .u8 0,.int .u8 0,.int .u8 0,.int .u8 0,.int .u8 0,.int .u8 0,.int .u8 0,.int .u8 0,.int .u8 0,.int .u8 0,.int .u8 0,.int .u8 0,.int .u8 0,.int .u8 0,.int .u8 0,.int .u8 0,.int .u8 0,.int .u8 0,.int .u8 0,.int .u8 0,.int .u8 0,.int .u8 0,.int .u8 0,.int .u8 0,.int .u8 0,.int .u8 0,.int .u8 0,.int .u8 0,.int .u8 0,.int .u8 0,.int .u8 0,.int .u8 0,.int .u8 0,.int .u8 0,.int .u8 0,.int .u8 0,.int .u8 0,.int .u8 0,.int .u8 0,.int .u8 0,.int .u8 0,.int .u8 0,.int .u8 0,.int .u8 0,.int .u8 0,.int .u8 0,.int .u8 0,.int .u8 0,.int .u8 0,.int .u8 0,.int .u8 0,.int .u8 0,.int .u8 0,.int .u8 0,.int .u8 0,.int .u8 0,.int .u8 0,.int .u8 0,.int .u8 0,.int .u8 0,.int .u8 0,.int .u8 0,.int .u8 0,.int .u8 0,.int .u8 0,.int .u8 0,.int .u8 0,.int .u8 0,.int .u8 0,.int .u8 0,.int .u8 0,.int .u8 0,.int .u8 0,.int .u8 0,.int .u8 0,.int .u8 0,.int .u8 0,.int .u8 0,.int .u8 0,.int .u8 0,.int .u8 0,.int .u8 0,.int .u8 0,.int .u8 0,.int .u8 0,.int .u8 0,.int .u8 0,.int .u8 0,.int .u8 0,.int .u8 0,.int .u8 0,.int .u8 0,.int .u8 0,.int .u8 0,.int .u8 0,.int .u8 0,.int .u8 0,.int .u8 0,.int .u64 0] [(0,1,(.t 4))],none⟩,
  ⟨(some 6),.box 86 146 (.t 5),none⟩,
  ⟨(some 3),.mv (.t 6),none⟩])
 (.seq
 (.seq
 (.reg 7 none [
  ⟨(some 7),.mv (.t 0),none⟩])
 (.block 0
  (.seq
  (.reg 8 none [
   ⟨(some 9),.bin false .eql (.t 7) (.v (.int .i64 1)),none⟩,
   ⟨(some 8),.mv (.t 9),none⟩])
  (.cond (.t 8)
   (.reg 0 none [
    ⟨(some 10),.mv (.t 3),none⟩,
    ⟨(some 11),.load (some 8) (.v (.pointer (some ⟨2,0,none⟩))),none⟩,
    ⟨(some 12),.ext .nilck [(.t 10)],none⟩,
    ⟨(some 13),.faddr 1 (.t 12),none⟩,
    ⟨none,.store 8 (.t 13) (.t 11),none⟩])
   (.seq
   (.reg 14 none [
    ⟨(some 15),.bin false .eql (.t 7) (.v (.int .i64 2)),none⟩,
    ⟨(some 14),.mv (.t 15),none⟩])
   (.cond (.t 14)
    (.reg 0 none [
     ⟨(some 16),.mv (.t 3),none⟩,
     ⟨(some 17),.load (some 8) (.v (.pointer (some ⟨3,0,none⟩))),none⟩,
     ⟨(some 18),.ext .nilck [(.t 16)],none⟩,
     ⟨(some 19),.faddr 9 (.t 18),none⟩,
     ⟨none,.store 8 (.t 19) (.t 17),none⟩])
    (.seq
    (.reg 20 none [
     ⟨(some 21),.bin false .eql (.t 7) (.v (.int .i64 3)),none⟩,
     ⟨(some 20),.mv (.t 21),none⟩])
    (.cond (.t 20)
     (.reg 0 none [
      ⟨(some 22),.mv (.t 3),none⟩,
      ⟨(some 23),.load (some 8) (.v (.pointer (some ⟨4,0,none⟩))),none⟩,
      ⟨(some 24),.ext .nilck [(.t 22)],none⟩,
      ⟨(some 25),.faddr 9 (.t 24),none⟩,
      ⟨none,.store 8 (.t 25) (.t 23),none⟩])
     (.seq
     (.reg 2 none [
      ⟨(some 2),.mv (.v (.pointer none)),none⟩])
     .ret)))))))))
 (.seq
 (.reg 2 none [
  ⟨(some 26),.mv (.t 3),none⟩,
  ⟨(some 2),.mv (.t 26),none⟩])
 .ret))))
theorem sha_New_35_ichk:chk Tryd.prog 35 []=some (sha_New_35_iq.erase,[.tmp 2],27):=by kernel_rfl
def zac_i16_i35_G:Nat→Option CQ:=tblQ []
theorem zac_i16_i35_Gok:∀f C,zac_i16_i35_G f=some C→qAm Tryd.prog f C:=fun f C h=>by cases h
def zac_i16_i35:CQ:=inlQ zac_i16_i35_G 8 27 sha_New_35_iq [.tmp 2]
theorem zac_i16_i35_ok:qAm Tryd.prog 35 zac_i16_i35:=inl_valid sha_New_35_ichk (by kernel_rfl) 8 zac_i16_i35_Gok (by kernel_rfl)
def sha_Sum_16_iq:IQ :=
 (.seq
 (.reg 4 none [
  ⟨(some 4),.mv (.v (.slice none 0 0)),none⟩])
 (.seq
 (.reg 5 none [
  ⟨(some 8),.mv (.t 0),none⟩,
  ⟨(some 9),.call 35 [(.t 8)],none⟩,
  ⟨(some 5),.mv (.t 9),none⟩])
 (.seq
 (.seq
 (.reg 11 none [
  ⟨(some 10),.mv (.t 5),none⟩,
  ⟨(some 11),.ext (.ptrEq false) [(.t 10),(.v (.pointer none))],none⟩])
 (.cond (.t 11)
  (.seq
  (.reg 4 none [
   ⟨(some 4),.mv (.v (.slice none 0 0)),none⟩])
  .ret)
  .skip))
 (.seq
 (.seq
 (.reg 14 none [
  ⟨(some 12),.mv (.t 1),none⟩,
  ⟨(some 13),.len (.t 12),none⟩,
  ⟨(some 14),.mv (.v (.int .i64 0)),none⟩])
 (.block 0
  (.unroll 3
   (.seq
   (.reg 15 none [
    ⟨(some 15),.bin false .lss (.t 14) (.t 13),none⟩])
   (.seq
   (.cond (.t 15)
    .skip
    (.exit 0))
   (.seq
   (.block 1
    (.seq
    (.reg 7 none [
     ⟨(some 16),.iaddr 1 (.t 12) (.t 14),none⟩,
     ⟨(some 17),.load none (.t 16),none⟩,
     ⟨(some 7),.mv (.t 17),none⟩])
    (.reg 20 none [
     ⟨(some 18),.mv (.t 5),none⟩,
     ⟨(some 19),.mv (.t 7),none⟩,
     ⟨(some 20),.call 36 [(.t 18),(.t 19)],none⟩])))
   (.reg 14 none [
    ⟨(some 21),.bin false .add (.t 14) (.v (.int .i64 1)),none⟩,
    ⟨(some 14),.mv (.t 21),none⟩])))))))
 (.seq
 (.reg 4 none [
  ⟨(some 22),.mv (.t 5),none⟩,
  ⟨(some 23),.call 37 [(.t 22)],none⟩,
  ⟨(some 4),.mv (.t 23),none⟩])
 .ret)))))
theorem sha_Sum_16_ichk:chk Tryd.prog 16 []=some (sha_Sum_16_iq.erase,[.tmp 4],24):=by kernel_rfl
def zac_i16_G:Nat→Option CQ:=tblQ [(35,zac_i16_i35),(36,zaj_w),(37,zai_w)]
theorem zac_i16_Gok:∀f C,zac_i16_G f=some C→qAm Tryd.prog f C:=qBv ⟨zac_i16_i35_ok,zaj_ok,zai_ok,tV⟩
def zac_i16:CQ:=inlQ zac_i16_G 15 24 sha_Sum_16_iq [.tmp 4]
theorem zac_i16_ok:qAm Tryd.prog 16 zac_i16:=inl_valid sha_Sum_16_ichk (by kernel_rfl) 15 zac_i16_Gok (by kernel_rfl)
def zac_c:CS:=mkC (qAa (dVC (dCO dZ)) (qAa (dVC (dCO dS)) dNil)) dNil (fun x y=>zac_s x.1 x.2.1) (fun x y r=>.tup [.o (.vS r.1),.o (.vI r.2)]) fun x y r=>[]
theorem zac_val:qA0 Tryd.prog 5 zac_c:=vl0 zac_q [.tmp 4,.tmp 5] 21 7 0 [(14,zad_w),(16,zac_i16),(17,zah_w),(15,zaa_w)] ⟨zad_ok,zac_i16_ok,zah_ok,zaa_ok,tV⟩ fun x y=>by
 simp only [zac_s,-eq_self,sZ];kernel_rfl
def zac_w:CQ:=liftV [] zac_c
theorem zac_ok:qAm Tryd.prog 5 zac_w:=qBf zac_val
end
end Go.Proofs.YtobmafbliahplaaDoor
