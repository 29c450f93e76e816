/-
  Texts of a claim.
-/
import Derived.Test.YtlmfmmgfiffjiaaDoorPSha
import Derived.Test.YtlmfmmgfiffjiaaDoorEngO
import Derived.Test.YtlmfmmgfiffjiaaDoorProg
namespace Go.Proofs.YtlmfmmgfiffjiaaDoor
open Go.Eng
set_option linter.unusedVariables false
set_option linter.unusedSimpArgs false
theorem blk_nrm (s:qG7):blk ⟨s.hash,nrm 8 s.short,nrm 8 s.long,nrm 128 s.rest,s.n⟩=blk s:=by
 unfold blk;rw [blk32_nrm,blk64_nrm]
def put (size:Nat) (s:qG7) (b:List Int):qG7 :=
 let s2:qG7:=⟨s.hash,s.short,s.long,(nrm 128 s.rest).take (s.n % size).toNat++(b.take (size - (s.n % size).toNat)++(nrm 128 s.rest).drop ((s.n % size).toNat+min b.length (size - (s.n % size).toNat))),(s.n+(min b.length (size - (s.n % size).toNat):Nat)) % 18446744073709551616⟩
 bif decide ((s.n % size).toNat+min b.length (size - (s.n % size).toNat)=size) then blk s2 else s2
def wrt (size:Nat):Nat→qG7→List Int→qG7
 | 0,s,_=>s
 | _+1,s,[]=>s
 | f+1,s,x::b=>wrt size f (put size s (x::b)) ((x::b).drop (min (x::b).length (size - (s.n % size).toNat)))
theorem blk_n (s:qG7):(blk s).n=s.n∧(blk s).hash=s.hash:=by
 unfold blk;cases decide (s.hash=1) <;> exact ⟨rfl,rfl⟩
theorem put_n (size:Nat) (s:qG7) (b:List Int):0≤(put size s b).n∧(put size s b).n<18446744073709551616∧(put size s b).hash=s.hash:=by
 unfold put;generalize decide ((s.n % (size:Int)).toNat+min b.length (size - (s.n % (size:Int)).toNat)=size)=c
 cases c
 ·exact ⟨Int.emod_nonneg _ (by decide),Int.emod_lt_of_pos _ (by decide),rfl⟩
 ·refine ⟨?_,?_,?_⟩
  ·rw [cnT,(blk_n _).1]; exact Int.emod_nonneg _ (by decide)
  ·rw [cnT,(blk_n _).1]; exact Int.emod_lt_of_pos _ (by decide)
  ·rw [cnT,(blk_n _).2]
theorem p_write (size:Nat) (h1:1≤size) (h2:size≤128):∀(f:Nat) (s:qG7) (b:List Int),b.length≤f→0≤s.n→s.n<18446744073709551616 →
  zcg_p0 size s.hash s.short s.long s.rest s.n b=some ((wrt size f s b).hash,(wrt size f s b).short,(wrt size f s b).long,(wrt size f s b).rest,(wrt size f s b).n)
 | f,s,[],hb,h0,hn=>by
  have:wrt size f s []=s:=by cases f <;> rfl
  rw [this];unfold zcg_p0;refine qAj ?_;unfold qD0;rw [deF (by simp),cnF]
 | 0,s,x::b,hb,_,_=>by simp at hb
 | f+1,s,x::b,hb,h0,hn=>by
  have hsz:(size:Int) % 18446744073709551616=size:=Int.emod_eq_of_lt (by omega) (by omega);have hm0:0≤s.n % size:=Int.emod_nonneg _ (by omega);have hm1:s.n % size<size:=Int.emod_lt_of_pos _ (by omega);generalize hB:x::b=B at hb ⊢
  have hBl:0<B.length:=by rw [←hB]; simp
  have hst:qD0 size s.hash s.short s.long s.rest s.n B=some (.inl ((put size s B).hash,(put size s B).short,(put size s B).long,(put size s B).rest,(put size s B).n,B.drop (min B.length (size - (s.n % size).toNat)))):=by
   unfold qD0;rw [deT (by omega),cnT,hsz];have hk:(((min B.length ((Int.toNat (size:Int)) - (Int.toNat (s.n % size)))):Nat):Int) % 18446744073709551616=((min B.length (size - (s.n % size).toNat):Nat):Int):=by
    rw [Int.toNat_natCast];exact Int.emod_eq_of_lt (by omega) (by omega)
   rw [hk];simp only [Int.toNat_natCast,List.take_length]
   iterate 6 refine (qAb (by first | (unfold qAc; omega) | omega) _).trans ?_
   have hd:decide (s.n % (size:Int)+((min B.length (size - (s.n % size).toNat):Nat):Int)=size)=decide ((s.n % size).toNat+min B.length (size - (s.n % size).toNat)=size):=by
    rw [decide_eq_decide];omega
   rw [hd];unfold put;cases decide ((s.n % size).toNat+min B.length (size - (s.n % size).toNat)=size)
   ·rfl
   ·simp only [cnT,p_block,obS];have:=blk_nrm ⟨s.hash,s.short,s.long,(nrm 128 s.rest).take (s.n % size).toNat++(B.take (size - (s.n % size).toNat)++(nrm 128 s.rest).drop ((s.n % size).toNat+min B.length (size - (s.n % size).toNat))),(s.n+(min B.length (size - (s.n % size).toNat):Nat)) % 18446744073709551616⟩;simp only at this;rw [this]
  obtain ⟨p1,p2,p3⟩:=put_n size s B;have ih:=p_write size h1 h2 f (put size s B) (B.drop (min B.length (size - (s.n % size).toNat))) (by rw [List.length_drop]; omega) p1 p2;have hw:wrt size (f+1) s B=wrt size f (put size s B) (B.drop (min B.length (size - (s.n % size).toNat))):=by rw [←hB]; rfl
  rw [hw];unfold zcg_p0 at ih ⊢;rw [qAu hst];exact ih
def qB8 (h:Int):Nat:=bif decide (h=1) then 64 else bif decide (h=2) then 128 else bif decide (h=3) then 128 else 0
theorem p_Block (h:Int):zcd_s h=some ((qB8 h:Nat):Int):=by
 unfold zcd_s qB8;cases decide (h=1) <;> cases decide (h=2) <;> cases decide (h=3) <;> rfl
def nrmS (s:qG7):qG7:=⟨s.hash,nrm 8 s.short,nrm 8 s.long,nrm 128 s.rest,s.n⟩
def shaW (s:qG7) (b:List Int):qG7:=wrt (qB8 s.hash) b.length (nrmS s) b
theorem sizeB_of {h:Int} (hh:h=1∨h=2∨h=3):64≤qB8 h∧qB8 h≤128∧(h=1→qB8 h=64)∧(h≠1→qB8 h=128):=by
 rcases hh with rfl | rfl | rfl <;> decide
theorem p_Write (s:qG7) (b:List Int) (hh:s.hash=1∨s.hash=2∨s.hash=3) (h0:0≤s.n) (hn:s.n<18446744073709551616):zcg_s s b=some (shaW s b):=by
 obtain ⟨h1,h2,_⟩:=sizeB_of hh;unfold zcg_s shaW;rw [p_Block,obS];have h:=p_write (qB8 s.hash) (by omega) h2 b.length (nrmS s) b (Nat.le_refl _) h0 hn;simp only [nrmS] at h ⊢;rw [h];rfl
theorem wrt_n (size:Nat):∀(f:Nat) (s:qG7) (b:List Int),0≤s.n→s.n<18446744073709551616→0≤(wrt size f s b).n∧(wrt size f s b).n<18446744073709551616∧(wrt size f s b).hash=s.hash
 | 0,s,b,h0,hn=>⟨h0,hn,rfl⟩
 | f+1,s,[],h0,hn=>⟨h0,hn,rfl⟩
 | f+1,s,x::b,h0,hn=>by
  obtain ⟨p1,p2,p3⟩:=put_n size s (x::b);have:=wrt_n size f (put size s (x::b)) ((x::b).drop (min (x::b).length (size - (s.n % size).toNat))) p1 p2;rw [p3] at this;exact this
def zer (size field m:Int) (n:Nat):Nat:=((size - field - m - n) % size).toNat
theorem p_pad (size n field:Int) (hs:size=64∧field=8∨size=128∧field=16) (hn:0≤n) (hn2:n<18446744073709551616):∀(k:Nat) (pad:List Int),zer size field (n % size) pad.length=k→pad.length+k≤1000 →
  zcf_p0 size n field pad=some (pad++List.replicate k 0):=by
 have hsz:size % 18446744073709551616=size:=by rcases hs with ⟨rfl,_⟩ | ⟨rfl,_⟩ <;> rfl
 have hm0:0≤n % size:=Int.emod_nonneg _ (by omega);have hm1:n % size<size:=Int.emod_lt_of_pos _ (by omega);intro k;induction k with
 | zero =>
  intro pad hz hl;unfold zcf_p0;refine qAj ?_;unfold qDy;rw [hsz]
  iterate 5 refine (qAb (by first | (unfold qAc; omega) | omega) _).trans ?_
  have hc:((n % size)+(pad.length:Int)) % size=size - field:=by
   unfold zer at hz;rcases hs with ⟨rfl,rfl⟩ | ⟨rfl,rfl⟩ <;> omega
  rw [deT hc];simp
 | succ k ih =>
  intro pad hz hl;have hst:qDy size n field pad=some (.inl (pad++[0])):=by
   unfold qDy;rw [hsz]
   iterate 5 refine (qAb (by first | (unfold qAc; omega) | omega) _).trans ?_
   have hc:¬((n % size)+(pad.length:Int)) % size=size - field:=by
    unfold zer at hz;rcases hs with ⟨rfl,rfl⟩ | ⟨rfl,rfl⟩ <;> omega
   rw [deF hc];exact qAb (by simp only [List.length_cons,List.length_nil]; omega) _
  have:=ih (pad++[0]) (by
   unfold zer at hz ⊢;rw [List.length_append,List.length_singleton];rcases hs with ⟨rfl,rfl⟩ | ⟨rfl,rfl⟩ <;> omega) (by rw [List.length_append,List.length_singleton]; omega)
  unfold zcf_p0 at this ⊢;rw [qAu hst,this,List.append_assoc];rfl
def lenB (n i:Int):Int:=bif decide (i<8) then ((n*8) % 18446744073709551616) / 2 ^ (min (Int.toNat (8*i)) 64) % 256 else bif decide (i=8) then n / 2305843009213693952 % 256 else 0
def lenS (n:Int) (x:Int × List Int):Int × List Int:=(x.1 - 1,x.2++[lenB n x.1])
theorem p_len (n i:Int) (pad:List Int) (hi:i≤15) (hp:pad.length≤500):zcf_p1 n i pad=some (itr (lenS n) (i+1).toNat (i,pad)).2:=by
 unfold zcf_p1;refine qCk (fun x => - x.1) (lenS n) (fun x=>x.2) (fun x=>x.1≤15∧(x.2.length:Int)+x.1≤600) 1 (fun x hx hn=>?_) (fun x hx hn=>?_) _ (i,pad) ⟨hi,by show (pad.length:Int)+i≤600; omega⟩ (by show (1 - -i).toNat=_; omega)
 ·obtain ⟨h1,h2⟩:=hx;refine ⟨?_,by show -(x.1 - 1) = -x.1+1; omega,by show x.1 - 1≤15; omega,by show ((x.2++[lenB n x.1]).length:Int)+(x.1 - 1)≤600; rw [List.length_append,List.length_singleton]; omega⟩;have hn : -x.1<1:=hn;unfold qFf;rw [deT (by omega),cnT];unfold lenS lenB;by_cases h8:x.1<8
  ·rw [deT h8,cnT]
   iterate 5 refine (qAb (by first | decide | (unfold qAc; omega) | omega | (simp only [List.length_cons,List.length_nil]; omega)) _).trans ?_
   rfl
  ·rw [deF h8,cnF];by_cases h9:x.1=8
   ·rw [deT h9,cnT]
    iterate 3 refine (qAb (by first | decide | (unfold qAc; omega) | omega | (simp only [List.length_cons,List.length_nil]; omega)) _).trans ?_
    rfl
   ·rw [deF h9,cnF]
    iterate 2 refine (qAb (by first | decide | (unfold qAc; omega) | omega | (simp only [List.length_cons,List.length_nil]; omega)) _).trans ?_
    rfl
 ·have hn:1 ≤ -x.1:=hn;unfold qFf;rw [deF (by omega),cnF]
def by32 (s:List Int) (x:Int × List Int):Int × List Int:=(x.1+1,x.2++[(nrm 8 s).getD (Int.toNat x.1) 0 / 16777216 % 256,(nrm 8 s).getD (Int.toNat x.1) 0 / 65536 % 256,(nrm 8 s).getD (Int.toNat x.1) 0 / 256 % 256,(nrm 8 s).getD (Int.toNat x.1) 0 % 256])
theorem p_out32 (s:List Int):zcf_p2 s 0 []=some (itr (by32 s) 8 (0,[])).2:=by
 unfold zcf_p2;refine qCk (fun x=>x.1) (by32 s) (fun x=>x.2) (fun x=>0≤x.1∧(x.2.length:Int)≤4*x.1) 8 (fun x hx hn=>?_) (fun x hx hn=>?_) _ (0,[]) ⟨Int.le_refl _,by simp⟩ rfl
 ·obtain ⟨h1,h2⟩:=hx;refine ⟨?_,rfl,by show 0≤x.1+1; omega,by show ((x.2++[_,_,_,_]).length:Int)≤4*(x.1+1); rw [List.length_append]; simp only [List.length_cons,List.length_nil]; omega⟩;unfold qFg;rw [deT hn,cnT]
  iterate 6 refine (qAb (by first | decide | (unfold qAc; omega) | omega | (simp only [List.length_cons,List.length_nil]; omega)) _).trans ?_
  rfl
 ·unfold qFg;rw [deF (by omega),cnF]
def byt8 (v:Int) (x:Int × List Int):Int × List Int:=(x.1 - 8,x.2++[v / 2 ^ (min (Int.toNat x.1) 64) % 256])
theorem p_out8 (v:Int) (out:List Int) (ho:out.length≤500):zcf_p4 v 56 out=some (itr (byt8 v) 8 (56,out)).2:=by
 have key:∀(k:Nat) (i:Int) (out:List Int),i=8*(k:Int) - 8→k≤8→out.length+k≤600→zcf_p4 v i out=some (itr (byt8 v) k (i,out)).2:=by
  intro k;induction k with
  | zero =>
   intro i out hi _ _;unfold zcf_p4;refine qAj ?_;unfold qDz;rw [deF (by omega),cnF];rfl
  | succ k ih =>
   intro i out hi hk hl;have hst:qDz v i out=some (.inl (byt8 v (i,out))):=by
    unfold qDz;rw [deT (by omega),cnT]
    iterate 3 refine (qAb (by first | decide | (unfold qAc; omega) | omega | (simp only [List.length_cons,List.length_nil]; omega)) _).trans ?_
    rfl
   have:=ih (i - 8) (out++[v / 2 ^ (min (Int.toNat i) 64) % 256]) (by omega) (by omega) (by rw [List.length_append,List.length_singleton]; omega);unfold zcf_p4 at this ⊢;rw [qAu hst];exact this
 exact key 8 56 out rfl (Nat.le_refl _) (by omega)
theorem byt8_len (v:Int):∀(k:Nat) (x:Int × List Int),(itr (byt8 v) k x).2.length=x.2.length+k
 | 0,x=>rfl
 | k+1,x=>by
  rw [itr,byt8_len v k];show (x.2++[_]).length+k=_;rw [List.length_append,List.length_singleton];omega
def by64 (s:List Int) (x:Int × List Int):Int × List Int:=(x.1+1,(itr (byt8 ((nrm 8 s).getD (Int.toNat x.1) 0)) 8 (56,x.2)).2)
theorem p_out64 (s a b c d e f:List Int) (hs:s.length=8) (ha:a.length=8) (hb:b.length=8) (hc:c.length=128) (hd:d.length=8) (he:e.length=8) (hf:f.length=128) :
  zcf_p3 s 0 a b c d e f []=some (a,b,c,d,e,f,(itr (by64 s) 8 (0,[])).2):=by
 have key:∀(k:Nat) (i:Int) (out:List Int),0≤i→i+k=8→out.length≤8*i.toNat→zcf_p3 s i a b c d e f out=some (a,b,c,d,e,f,(itr (by64 s) k (i,out)).2):=by
  intro k;induction k with
  | zero =>
   intro i out h0 hi _;unfold zcf_p3;refine qAj ?_;show qC7 s i a b c d e f out=_;unfold qC7;rw [deF (by omega),cnF];rfl
  | succ k ih =>
   intro i out h0 hi hl;have hst:qC7 s i a b c d e f out=some (.inl (s,i+1,a,b,c,d,e,f,(by64 s (i,out)).2)):=by
    unfold qC7;rw [deT (by omega),cnT];refine (qAb (by omega) _).trans ?_;rw [p_out8 _ _ (by omega),obS];refine (qAb (by unfold qAc; omega) _).trans ?_;rw [nrm_eq hs,nrm_eq ha,nrm_eq hb,nrm_eq hc,nrm_eq hd,nrm_eq he,nrm_eq hf];unfold by64;rw [nrm_eq hs]
   have:=ih (i+1) (by64 s (i,out)).2 (by omega) (by omega) (by
    show (itr _ 8 (56,out)).2.length≤_;rw [byt8_len];show out.length+8≤_;omega)
   unfold zcf_p3 at this ⊢;rw [qAu hst];exact this
 exact key 8 0 [] (Int.le_refl _) rfl (by simp)
def sumZ (h:Int):Nat:=bif decide (h=1) then 32 else bif decide (h=2) then 48 else bif decide (h=3) then 64 else 0
theorem sumZ_le (h:Int):sumZ h≤64:=by
 unfold sumZ;cases decide (h=1) <;> cases decide (h=2) <;> cases decide (h=3) <;> decide
theorem p_Size (h:Int):qGe h=some ((sumZ h:Nat):Int):=by
 unfold qGe sumZ;cases decide (h=1) <;> cases decide (h=2) <;> cases decide (h=3) <;> rfl
def padB (size field n:Int):List Int:=(itr (lenS n) field.toNat (field - 1,[128]++List.replicate (zer size field (n % size) 1) 0)).2
def outB (s:qG7):List Int:=bif decide (s.hash=1) then (itr (by32 s.short) 8 (0,[])).2 else (itr (by64 s.long) 8 (0,[])).2.take (sumZ s.hash)
def shaS (s:qG7):List Int:=outB (shaW s (padB (qB8 s.hash) (qB8 s.hash / 8) s.n))
theorem by64_len (s:List Int):∀(k:Nat) (x:Int × List Int),(itr (by64 s) k x).2.length=x.2.length+8*k
 | 0,x=>rfl
 | k+1,x=>by
  rw [itr,by64_len s k];show (itr _ 8 (56,x.2)).2.length+8*k=_;rw [byt8_len];show x.2.length+8+8*k=_;omega
theorem by32_len (s:List Int):∀(k:Nat) (x:Int × List Int),(itr (by32 s) k x).2.length=x.2.length+4*k
 | 0,x=>rfl
 | k+1,x=>by
  rw [itr,by32_len s k];show (x.2++[_,_,_,_]).length+4*k=_;rw [List.length_append];simp only [List.length_cons,List.length_nil];omega
theorem by32_nrm (s:List Int):by32 (nrm 8 s)=by32 s:=by
 funext x
 simp only [by32,nrm_nrm]
theorem by64_nrm (s:List Int):by64 (nrm 8 s)=by64 s:=by
 funext x
 simp only [by64,nrm_nrm]
theorem shaW_nrm (s:qG7) (b:List Int):shaW (nrmS s) b=shaW s b:=by simp only [shaW,nrmS,nrm_nrm]
theorem p_Sum (s:qG7) (hh:s.hash=1∨s.hash=2∨s.hash=3) (h0:0≤s.n) (hn:s.n<18446744073709551616):zcf_s s=some (nrmS s,shaS s):=by
 obtain ⟨h1,h2,h3,h4⟩:=sizeB_of hh;have hcase:((qB8 s.hash:Nat):Int)=64∧((qB8 s.hash:Nat):Int) / 8=8∨((qB8 s.hash:Nat):Int)=128∧((qB8 s.hash:Nat):Int) / 8=16:=by
  by_cases hc:s.hash=1
  ·rw [h3 hc]; exact .inl ⟨rfl,rfl⟩
  ·rw [h4 hc]; exact .inr ⟨rfl,rfl⟩
 have hz:zer (qB8 s.hash) (qB8 s.hash / 8) (s.n % qB8 s.hash) 1≤128:=by
  unfold zer;have:=Int.emod_lt_of_pos ((qB8 s.hash:Int) - (qB8 s.hash:Int) / 8 - s.n % (qB8 s.hash:Int) - (1:Nat)) (show (0:Int)<(qB8 s.hash:Int) by omega);omega
 unfold zcf_s;rw [p_Block,obS];refine (qAb (by omega) _).trans ?_;rw [p_pad _ _ _ hcase h0 hn (zer (qB8 s.hash) (qB8 s.hash / 8) (s.n % qB8 s.hash) 1) [128] rfl (by simp only [List.length_cons,List.length_nil]; omega),obS];refine (qAb (by unfold qAc; omega) _).trans ?_;rw [p_len _ _ _ (by omega) (by simp only [List.length_append,List.length_replicate,List.length_cons,List.length_nil]; omega),obS];simp only [nrm_nrm];have hpad:(itr (lenS s.n) ((qB8 s.hash:Int) / 8 - 1+1).toNat ((qB8 s.hash:Int) / 8 - 1,[128]++List.replicate (zer (qB8 s.hash) (qB8 s.hash / 8) (s.n % qB8 s.hash) 1) 0)).2=padB (qB8 s.hash) (qB8 s.hash / 8) s.n:=by
  unfold padB;rw [show (qB8 s.hash:Int) / 8 - 1+1=(qB8 s.hash:Int) / 8 by omega]
 rw [hpad,show (⟨s.hash,nrm 8 s.short,nrm 8 s.long,nrm 128 s.rest,s.n⟩:qG7)=nrmS s from rfl,p_Write (nrmS s) _ hh h0 hn,obS,shaW_nrm];have hwh:(shaW s (padB (qB8 s.hash) (qB8 s.hash / 8) s.n)).hash=s.hash:=(wrt_n _ _ (nrmS s) _ h0 hn).2.2;unfold shaS outB;generalize hT:shaW s (padB (qB8 s.hash) (qB8 s.hash / 8) s.n)=T at hwh ⊢
 cases hc:decide (T.hash=1) with
 | true =>
  simp only [cnT];rw [p_out32,obS,by32_nrm]
 | false =>
  simp only [cnF];have hl:((sumZ T.hash:Nat):Int)≤((itr (by64 T.long) 8 (0,([]:List Int))).2.length:Int):=by
   rw [by64_len];have:sumZ T.hash≤64:=sumZ_le _;simp only [List.length_nil];omega
  rw [p_out64 _ _ _ _ _ _ _ (qE5 _ _) (qE5 _ _) (qE5 _ _) (qE5 _ _) (qE5 _ _) (qE5 _ _) (qE5 _ _),obS,p_Size,obS,obS,by64_nrm];dsimp only;generalize (itr (by64 T.long) 8 (0,([]:List Int))).2=O at hl ⊢
  refine (qAb (by refine ⟨?_,by omega,by omega,hl⟩; trivial) _).trans ?_;rw [Int.toNat_natCast];rfl
theorem shaS_len (s:qG7) (hh:s.hash=1∨s.hash=2∨s.hash=3) (h0:0≤s.n) (hn:s.n<18446744073709551616):(shaS s).length=sumZ s.hash:=by
 have hwh:(shaW s (padB (qB8 s.hash) (qB8 s.hash / 8) s.n)).hash=s.hash:=(wrt_n _ _ (nrmS s) _ h0 hn).2.2;unfold shaS outB;rw [hwh];rcases hh with h | h | h <;> rw [h]
 ·rw [deT rfl,cnT,by32_len];rfl
 ·rw [deF (by decide),cnF,List.length_take,by64_len];rfl
 ·rw [deF (by decide),cnF,List.length_take,by64_len];rfl
set_option maxRecDepth 100000
noncomputable section
def zay_b1:IQ:=(.join [] [] (.cond t9 (.seq (rg 2 [oP 2 (.mv (vI 2))]) (.cn [2] .ret)) (.seq (.seq (rg 14 [oP 15 (.bi .eql t3 (vI 3)),oM 14 t15]) (.cond t14 .skip (.seq (rg 14 [oP 16 (.bi .eql t3 (vI 6)),oM 14 t16]) (.cond t14 .skip (.seq (rg 14 [oP 17 (.bi .eql t3 (vI 9)),oM 14 t17]) (.cond t14 .skip (rg 14 [oP 18 (.bi .eql t3 (vI 12)),oM 14 t18]))))))) (.cond t14 (.seq (rg 2 [oP 2 (.mv (vI 3))]) (.cn [2] .ret)) .skip))))
def zay_b0:IQ:=(.join [] [] (.cond t4 (.seq (rg 2 [oP 2 (.mv (vI 1))]) (.cn [2] .ret)) (.seq (.seq (rg 9 [oP 10 (.bi .eql t3 (vI 2)),oM 9 t10]) (.cond t9 .skip (.seq (rg 9 [oP 11 (.bi .eql t3 (vI 5)),oM 9 t11]) (.cond t9 .skip (.seq (rg 9 [oP 12 (.bi .eql t3 (vI 8)),oM 9 t12]) (.cond t9 .skip (rg 9 [oP 13 (.bi .eql t3 (vI 11)),oM 9 t13]))))))) (.cn [3,9] (.sub 1 zay_b1)))))
def zay_q:IQ:=(.seq (rg 2 [oP 2 (.mv (vI 0))]) (.seq (.seq (rg 3 [oM 3 t0]) (.block 0 (.seq (.seq (rg 4 [oP 5 (.bi .eql t3 (vI 1)),oM 4 t5]) (.cond t4 .skip (.seq (rg 4 [oP 6 (.bi .eql t3 (vI 4)),oM 4 t6]) (.cond t4 .skip (.seq (rg 4 [oP 7 (.bi .eql t3 (vI 7)),oM 4 t7]) (.cond t4 .skip (rg 4 [oP 8 (.bi .eql t3 (vI 10)),oM 4 t8]))))))) (.cn [3,4] (.sub 0 zay_b0))))) (.seq (rg 2 [oP 2 (.mv (vI 0))]) (.cn [2] .ret))))
def zay_p1 (x3_:Int) (x9_:Bool):Option (Int ⊕ Unit) :=
 bif x9_ then (
  some (.inl (2:Int)))
 else (
  bif decide (x3_=(3:Int)) then (
   bif decide (x3_=(3:Int)) then (
    some (.inl (3:Int)))
   else (
    some (.inr ())))
  else (
   bif decide (x3_=(6:Int)) then (
    bif decide (x3_=(6:Int)) then (
     some (.inl (3:Int)))
    else (
     some (.inr ())))
   else (
    bif decide (x3_=(9:Int)) then (
     bif decide (x3_=(9:Int)) then (
      some (.inl (3:Int)))
     else (
      some (.inr ())))
    else (
     bif decide (x3_=(12:Int)) then (
      some (.inl (3:Int)))
     else (
      some (.inr ()))))))
def zay_p0 (x3_:Int) (x4_:Bool):Option (Int ⊕ Unit) :=
 bif x4_ then (
  some (.inl (1:Int)))
 else (
  bif decide (x3_=(2:Int)) then (
   (zay_p1 x3_ (decide (x3_=(2:Int)))).bind fun o1=>(Sum.elim (fun (o1_0:Int) =>
    some (.inl o1_0)) (fun (o1_1:Unit) =>
    some (.inr ()))) o1)
  else (
   bif decide (x3_=(5:Int)) then (
    (zay_p1 x3_ (decide (x3_=(5:Int)))).bind fun o2=>(Sum.elim (fun (o2_0:Int) =>
     some (.inl o2_0)) (fun (o2_1:Unit) =>
     some (.inr ()))) o2)
   else (
    bif decide (x3_=(8:Int)) then (
     (zay_p1 x3_ (decide (x3_=(8:Int)))).bind fun o3=>(Sum.elim (fun (o3_0:Int) =>
      some (.inl o3_0)) (fun (o3_1:Unit) =>
      some (.inr ()))) o3)
    else (
     (zay_p1 x3_ (decide (x3_=(11:Int)))).bind fun o4=>(Sum.elim (fun (o4_0:Int) =>
      some (.inl o4_0)) (fun (o4_1:Unit) =>
      some (.inr ()))) o4))))
def zay_s (a:Int):Option Int :=
 bif decide (a=(1:Int)) then (
  (zay_p0 a (decide (a=(1:Int)))).bind fun o5=>(Sum.elim (fun (o5_0:Int) =>
   some o5_0) (fun (o5_1:Unit) =>
   some (0:Int))) o5)
 else (
  bif decide (a=(4:Int)) then (
   (zay_p0 a (decide (a=(4:Int)))).bind fun o6=>(Sum.elim (fun (o6_0:Int) =>
    some o6_0) (fun (o6_1:Unit) =>
    some (0:Int))) o6)
  else (
   bif decide (a=(7:Int)) then (
    (zay_p0 a (decide (a=(7:Int)))).bind fun o7=>(Sum.elim (fun (o7_0:Int) =>
     some o7_0) (fun (o7_1:Unit) =>
     some (0:Int))) o7)
   else (
    (zay_p0 a (decide (a=(10:Int)))).bind fun o8=>(Sum.elim (fun (o8_0:Int) =>
     some o8_0) (fun (o8_1:Unit) =>
     some (0:Int))) o8)))
def zay_G:Nat→Option CQ:=tblQ []
def zay_d1:=(dQS (qAa (dSO 3 dZ) (qAa (dSO 9 dB) dNil)) dNil)
def zay_l1:SubQ:=mkL zay_d1 (fun x=>zay_p1 x.1.1 x.1.2.1) fun x r R kn kx kr=>(Sum.elim (fun (r_0:Int)=>kr ⟨[sL 2 (.vI r_0)],[],[]⟩) (fun (r_1:Unit)=>kn ⟨[],[],[]⟩)) r
def zay_d0:=(dQS (qAa (dSO 3 dZ) (qAa (dSO 4 dB) dNil)) dNil)
def zay_l0:SubQ:=mkL zay_d0 (fun x=>zay_p0 x.1.1 x.1.2.1) fun x r R kn kx kr=>(Sum.elim (fun (r_0:Int)=>kr ⟨[sL 2 (.vI r_0)],[],[]⟩) (fun (r_1:Unit)=>kn ⟨[],[],[]⟩)) r
def zay_L:Nat→SubQ:=tblL [(1,zay_l1),(0,zay_l0)]
theorem zay_sub1:qBe zay_L zay_G 0 4 19 1 zay_b1:=qAo (show zay_L 1=zay_l1 from by kernel_rfl) fun x R kn kx kr=>by
 simp only [zay_p1,-eq_self,sZ];kernel_rfl
theorem zay_sub0:qBe zay_L zay_G 0 4 19 0 zay_b0:=qAo (show zay_L 0=zay_l0 from by kernel_rfl) fun x R kn kx kr=>by
 simp only [zay_p0,-eq_self,sZ];kernel_rfl
def zay_c:CS:=mkC (qAa (dVC (dCO dZ)) dNil) dNil (fun x y=>zay_s x.1) (fun x y r=>.c (.o (.vI r))) fun x y r=>[]
theorem zay_val:qAh Tryd.prog 20 zay_c:=vl1 zay_q [.tmp 2] 19 4 0 (show qA3 zay_L zay_G 0 4 19 [(0,zay_b0),(1,zay_b1)] from ⟨zay_sub0,zay_sub1,tV⟩) (fun f C h=>by cases h) fun x y=>by
 simp only [zay_s,-eq_self,sZ];kernel_rfl
def zay_w:CQ:=qCw [] zay_c
theorem zay_ok:qAe Tryd.prog 20 zay_w:=qAs zay_val
def zae_b0:IQ:=(.loop [0,1,5] (.join [(1000000,none,.u8,0)] [0,1,5] (.seq (.seq (rg 15 [oM 13 t0,oP 14 (.len t13),oP 15 (.bi .geq t14 (vI 3))]) (.cond t15 .skip (.cn [0,1,5] (.exit 0)))) (.block 1 (.seq (.reg 6 (some [0,1,2,3,4,5,6,7,8,9,10,11,12,13,14,15,16]) [oM 16 t0,oP 17 (.iaddr 1 t16 (vI 0)),oP 18 (.load none t17),oP 19 (.conv false .u64 t18),oP 20 (.bi .shl t19 (.v (.int .u64 16))),oM 21 t0,oP 22 (.iaddr 1 t21 (vI 1)),oP 23 (.load none t22),oP 24 (.conv false .u64 t23),oP 25 (.bi .shl t24 (.v (.int .u64 8))),oP 26 (.bi .or t20 t25),oM 27 t0,oP 28 (.iaddr 1 t27 (vI 2)),oP 29 (.load none t28),oP 30 (.conv false .u64 t29),oP 31 (.bi .or t26 t30),oM 6 t31]) (.seq (.reg 5 (some [0,1,2,3,4,5,6,7,8,9,10,11,12,13,14,15,16,17,18,19,20,21]) [oM 32 t5,oM 33 t1,oM 34 t6,oP 35 (.bi .shr t34 (.v (.int .u64 18))),oP 36 (.index t33 t35),oM 37 t1,oM 38 t6,oP 39 (.bi .shr t38 (.v (.int .u64 12))),oP 40 (.bi .and t39 (.v (.int .u64 63))),oP 41 (.index t37 t40),oM 42 t1,oM 43 t6,oP 44 (.bi .shr t43 (.v (.int .u64 6))),oP 45 (.bi .and t44 (.v (.int .u64 63))),oP 46 (.index t42 t45),oM 47 t1,oM 48 t6,oP 49 (.bi .and t48 (.v (.int .u64 63))),oP 50 (.index t47 t49),oP 51 (.bslice 5 1 4 [.int .u8 0] [(0,t36),(1,t41),(2,t46),(3,t50)]),oP 52 (.append 5 1 1 [.int .u8 0] t32 t51),oM 5 t52]) (rg 0 [oM 53 t0,oP 54 (.sub (some 1) t53 (some (vI 3)) none),oM 0 t54])))))))
def zae_q:IQ:=(.seq (rg 4 [oP 4 (.mv (.v (.slice none 0 0)))]) (.seq (rg 5 [oM 7 t0,oP 8 (.len t7),oP 9 (.bi .add t8 (vI 2)),oP 10 (.bi .quo t9 (vI 3)),oP 11 (.bi .mul t10 (vI 4)),oP 12 (.ext (.mkslice 5 1 1 [.int .u8 0]) [(vI 0),t11]),oM 5 t12]) (.seq (.block 0 (.canon [(1000000,none,.u8,0)] [0,1,5] (.sub 0 zae_b0))) (.seq (.seq (rg 56 [oM 55 t0,oP 56 (.len t55)]) (.block 2 (.seq (rg 57 [oP 58 (.bi .eql t56 (vI 2)),oM 57 t58]) (.cond t57 (.reg 5 (some [0,1,2,3,4,5,6,7,8,9,10,11,12,13,14,15,16,17,18,19,20,21,22,23,24,25,26,27,28]) [oM 59 t5,oM 60 t1,oM 61 t0,oP 62 (.iaddr 1 t61 (vI 0)),oP 63 (.load none t62),oP 64 (.bi .shr t63 (.v (.int .u64 2))),oP 65 (.index t60 t64),oM 66 t1,oM 67 t0,oP 68 (.iaddr 1 t67 (vI 0)),oP 69 (.load none t68),oP 70 (.bi .and t69 (vC 3)),oP 71 (.bi .shl t70 (.v (.int .u64 4))),oM 72 t0,oP 73 (.iaddr 1 t72 (vI 1)),oP 74 (.load none t73),oP 75 (.bi .shr t74 (.v (.int .u64 4))),oP 76 (.bi .or t71 t75),oP 77 (.index t66 t76),oM 78 t1,oM 79 t0,oP 80 (.iaddr 1 t79 (vI 1)),oP 81 (.load none t80),oP 82 (.bi .and t81 (vC 15)),oP 83 (.bi .shl t82 (.v (.int .u64 2))),oP 84 (.index t78 t83),oP 85 (.bslice 5 1 3 [.int .u8 0] [(0,t65),(1,t77),(2,t84)]),oP 86 (.append 5 1 1 [.int .u8 0] t59 t85),oM 5 t86]) (.seq (rg 87 [oP 88 (.bi .eql t56 (vI 1)),oM 87 t88]) (.cond t87 (.reg 5 (some [0,1,2,3,4,5,6,7,8,9,10,11,12,13,14,15,16]) [oM 89 t5,oM 90 t1,oM 91 t0,oP 92 (.iaddr 1 t91 (vI 0)),oP 93 (.load none t92),oP 94 (.bi .shr t93 (.v (.int .u64 2))),oP 95 (.index t90 t94),oM 96 t1,oM 97 t0,oP 98 (.iaddr 1 t97 (vI 0)),oP 99 (.load none t98),oP 100 (.bi .and t99 (vC 3)),oP 101 (.bi .shl t100 (.v (.int .u64 4))),oP 102 (.index t96 t101),oP 103 (.bslice 5 1 2 [.int .u8 0] [(0,t95),(1,t102)]),oP 104 (.append 5 1 1 [.int .u8 0] t89 t103),oM 5 t104]) .skip)))))) (.seq (rg 4 [oM 105 t5,oM 4 t105]) (.canon [(4,none,.u8,5)] [4] .ret))))))
def qAm (b2:List Int) :=
 (qAk .u64 (qAk .u64 ((((b2.getD (Int.toNat (0:Int)) (ET.dft .u8)) % 18446744073709551616)*65536) % 18446744073709551616) ((((b2.getD (Int.toNat (1:Int)) (ET.dft .u8)) % 18446744073709551616)*256) % 18446744073709551616)) ((b2.getD (Int.toNat (2:Int)) (ET.dft .u8)) % 18446744073709551616))
def qFb (signs:BA) (b2 out:List Int):Option (((List Int) × (List Int)) ⊕ ((List Int) × (List Int))) :=
 bif decide ((3:Int)≤(b2.length:Int)) then (
  gd (0≤(0:Int)∧(0:Int)<b2.length) <|
  gd ((Int.toNat (0:Int))<b2.length) <|
  gd (0≤(16:Int)) <|
  gd (0≤(1:Int)∧(1:Int)<b2.length) <|
  gd ((Int.toNat (1:Int))<b2.length) <|
  gd (0≤(8:Int)) <|
  gd (0≤(2:Int)∧(2:Int)<b2.length) <|
  gd ((Int.toNat (2:Int))<b2.length) <|
  gd (0≤(18:Int)) <|
  gd (0≤((qAm b2) / 262144)∧((qAm b2) / 262144)<signs.size) <|
  gd (0≤(12:Int)) <|
  gd (0≤(qAi .u64 ((qAm b2) / 4096) (63:Int))∧(qAi .u64 ((qAm b2) / 4096) (63:Int))<signs.size) <|
  gd (0≤(6:Int)) <|
  gd (0≤(qAi .u64 ((qAm b2) / 64) (63:Int))∧(qAi .u64 ((qAm b2) / 64) (63:Int))<signs.size) <|
  gd (0≤(qAi .u64 (qAm b2) (63:Int))∧(qAi .u64 (qAm b2) (63:Int))<signs.size) <|
  gd (out.length+([(bAt signs ((qAm b2) / 262144)),(bAt signs (qAi .u64 ((qAm b2) / 4096) (63:Int))),(bAt signs (qAi .u64 ((qAm b2) / 64) (63:Int))),(bAt signs (qAi .u64 (qAm b2) (63:Int)))]:List Int).length≤9223372036854775807∧(out.length+([(bAt signs ((qAm b2) / 262144)),(bAt signs (qAi .u64 ((qAm b2) / 4096) (63:Int))),(bAt signs (qAi .u64 ((qAm b2) / 64) (63:Int))),(bAt signs (qAi .u64 (qAm b2) (63:Int)))]:List Int).length)*1≤140737488355328) <|
  gd (0≤(3:Int)∧(3:Int)≤(b2.length:Int)∧(b2.length:Int)≤b2.length) <|
  some (.inl (((b2.take b2.length).drop 3),(out++[(bAt signs ((qAm b2) / 262144)),(bAt signs (qAi .u64 ((qAm b2) / 4096) (63:Int))),(bAt signs (qAi .u64 ((qAm b2) / 64) (63:Int))),(bAt signs (qAi .u64 (qAm b2) (63:Int)))]))))
 else (
  some (.inr (b2,out)))
def zae_p0 (signs:BA) (b2 out:List Int):Option ((List Int) × (List Int)) :=
 qAw (fun x:((List Int) × (List Int))=>qFb signs x.1 x.2) (b2,out)
def zae_s (b:(List Int)) (signs:BA):Option ((List Int)) :=
 gd (qAc ((b.length:Int)+(2:Int))) <|
 gd (0≤((b.length:Int)+(2:Int))∧((b.length:Int)+(2:Int))≤9223372036854775807∧1≤(3:Int)) <|
 gd (qAc ((((b.length:Int)+(2:Int)) / (3:Int))*(4:Int))) <|
 gd (0≤(0:Int)∧(0:Int)≤((((b.length:Int)+(2:Int)) / (3:Int))*(4:Int))∧((((b.length:Int)+(2:Int)) / (3:Int))*(4:Int))≤9223372036854775807∧((((b.length:Int)+(2:Int)) / (3:Int))*(4:Int))*1≤140737488355328) <|
 (zae_p0 signs b []).bind fun o1 =>
 bif decide ((o1.1.length:Int)=(2:Int)) then (
  gd (0≤(0:Int)∧(0:Int)<o1.1.length) <|
  gd ((Int.toNat (0:Int))<o1.1.length) <|
  gd (0≤(2:Int)) <|
  gd (0≤((o1.1.getD (Int.toNat (0:Int)) (ET.dft .u8)) / 4)∧((o1.1.getD (Int.toNat (0:Int)) (ET.dft .u8)) / 4)<signs.size) <|
  gd (0≤(0:Int)∧(0:Int)<o1.1.length) <|
  gd ((Int.toNat (0:Int))<o1.1.length) <|
  gd (0≤(4:Int)) <|
  gd (0≤(1:Int)∧(1:Int)<o1.1.length) <|
  gd ((Int.toNat (1:Int))<o1.1.length) <|
  gd (0≤(4:Int)) <|
  gd (0≤(qAk .u8 (((qAi .u8 (o1.1.getD (Int.toNat (0:Int)) (ET.dft .u8)) (3:Int))*16) % 256) ((o1.1.getD (Int.toNat (1:Int)) (ET.dft .u8)) / 16))∧(qAk .u8 (((qAi .u8 (o1.1.getD (Int.toNat (0:Int)) (ET.dft .u8)) (3:Int))*16) % 256) ((o1.1.getD (Int.toNat (1:Int)) (ET.dft .u8)) / 16))<signs.size) <|
  gd (0≤(1:Int)∧(1:Int)<o1.1.length) <|
  gd ((Int.toNat (1:Int))<o1.1.length) <|
  gd (0≤(2:Int)) <|
  gd (0≤(((qAi .u8 (o1.1.getD (Int.toNat (1:Int)) (ET.dft .u8)) (15:Int))*4) % 256)∧(((qAi .u8 (o1.1.getD (Int.toNat (1:Int)) (ET.dft .u8)) (15:Int))*4) % 256)<signs.size) <|
  gd (o1.2.length+([(bAt signs ((o1.1.getD (Int.toNat (0:Int)) (ET.dft .u8)) / 4)),(bAt signs (qAk .u8 (((qAi .u8 (o1.1.getD (Int.toNat (0:Int)) (ET.dft .u8)) (3:Int))*16) % 256) ((o1.1.getD (Int.toNat (1:Int)) (ET.dft .u8)) / 16))),(bAt signs (((qAi .u8 (o1.1.getD (Int.toNat (1:Int)) (ET.dft .u8)) (15:Int))*4) % 256))]:List Int).length≤9223372036854775807∧(o1.2.length+([(bAt signs ((o1.1.getD (Int.toNat (0:Int)) (ET.dft .u8)) / 4)),(bAt signs (qAk .u8 (((qAi .u8 (o1.1.getD (Int.toNat (0:Int)) (ET.dft .u8)) (3:Int))*16) % 256) ((o1.1.getD (Int.toNat (1:Int)) (ET.dft .u8)) / 16))),(bAt signs (((qAi .u8 (o1.1.getD (Int.toNat (1:Int)) (ET.dft .u8)) (15:Int))*4) % 256))]:List Int).length)*1≤140737488355328) <|
  some (o1.2++[(bAt signs ((o1.1.getD (Int.toNat (0:Int)) (ET.dft .u8)) / 4)),(bAt signs (qAk .u8 (((qAi .u8 (o1.1.getD (Int.toNat (0:Int)) (ET.dft .u8)) (3:Int))*16) % 256) ((o1.1.getD (Int.toNat (1:Int)) (ET.dft .u8)) / 16))),(bAt signs (((qAi .u8 (o1.1.getD (Int.toNat (1:Int)) (ET.dft .u8)) (15:Int))*4) % 256))]))
 else (
  bif decide ((o1.1.length:Int)=(1:Int)) then (
   gd (0≤(0:Int)∧(0:Int)<o1.1.length) <|
   gd ((Int.toNat (0:Int))<o1.1.length) <|
   gd (0≤(2:Int)) <|
   gd (0≤((o1.1.getD (Int.toNat (0:Int)) (ET.dft .u8)) / 4)∧((o1.1.getD (Int.toNat (0:Int)) (ET.dft .u8)) / 4)<signs.size) <|
   gd (0≤(0:Int)∧(0:Int)<o1.1.length) <|
   gd ((Int.toNat (0:Int))<o1.1.length) <|
   gd (0≤(4:Int)) <|
   gd (0≤(((qAi .u8 (o1.1.getD (Int.toNat (0:Int)) (ET.dft .u8)) (3:Int))*16) % 256)∧(((qAi .u8 (o1.1.getD (Int.toNat (0:Int)) (ET.dft .u8)) (3:Int))*16) % 256)<signs.size) <|
   gd (o1.2.length+([(bAt signs ((o1.1.getD (Int.toNat (0:Int)) (ET.dft .u8)) / 4)),(bAt signs (((qAi .u8 (o1.1.getD (Int.toNat (0:Int)) (ET.dft .u8)) (3:Int))*16) % 256))]:List Int).length≤9223372036854775807∧(o1.2.length+([(bAt signs ((o1.1.getD (Int.toNat (0:Int)) (ET.dft .u8)) / 4)),(bAt signs (((qAi .u8 (o1.1.getD (Int.toNat (0:Int)) (ET.dft .u8)) (3:Int))*16) % 256))]:List Int).length)*1≤140737488355328) <|
   some (o1.2++[(bAt signs ((o1.1.getD (Int.toNat (0:Int)) (ET.dft .u8)) / 4)),(bAt signs (((qAi .u8 (o1.1.getD (Int.toNat (0:Int)) (ET.dft .u8)) (3:Int))*16) % 256))]))
  else (
   some o1.2))
def zae_G:Nat→Option CQ:=tblQ []
def zae_d0:=(dQS (qAa (dSO 0 (dO 1)) (qAa (dSO 1 dS) (qAa (dSO 5 (dO 2)) dNil))) (qAa (qBn .u8) (qAa (qBn .u8) (qAa (dRow .u8 5) dNil))))
def zae_l0:SubQ:=mkL zae_d0 (fun x=>zae_p0 x.1.2.1 x.2.2.1 x.2.2.2.1) fun x r R kn kx kr=>kx 0 ⟨[sL 0 (.own 1),sL 1 (.vS x.1.2.1),sL 5 (.own 2)],[],[.view .u8 x.2.1,.view .u8 r.1,.row .u8 5 r.2]⟩
def zae_L:Nat→SubQ:=tblL [(0,zae_l0)]
theorem zae_sub0:qBe zae_L zae_G 1 57 106 0 zae_b0:=qAo (show zae_L 0=zae_l0 from by kernel_rfl) fun x R kn kx kr=>qAl (step:=fun y=>qFb x.1.2.1 y.1 y.2) (enc:=fun (y:(List Int) × (List Int))=>zae_d0.e (x.1,(x.2.1,y.1,y.2,x.2.2.2.2))) (fun y=>by kernel_rfl) (fun y ki=>by simp only [qFb,-eq_self,sZ]; kernel_rfl) (x.2.2.1,x.2.2.2.1)
def zae_c:CS:=mkC (qAa (dVC (dCO (dO 0))) (qAa (dVC (dCO dS)) dNil)) (qAa (qBn .u8) dNil) (fun x y=>zae_s y.1 x.2.1) (fun x y r=>.c (.o (.own 1))) fun x y r=>[.view .u8 y.1,.row .u8 5 r]
theorem zae_val:qAh Tryd.prog 44 zae_c:=vl1 zae_q [.tmp 4] 106 57 1 (show qA3 zae_L zae_G 1 57 106 [(0,zae_b0)] from ⟨zae_sub0,tV⟩) (fun f C h=>by cases h) fun x y=>by
 simp only [zae_s,-eq_self,sZ];kernel_rfl
def zae_w:CQ:=qBk [(0,none,some (.u8,5))] (qBq [false] zae_c)
theorem zae_ok:qAe Tryd.prog 44 zae_w:=qAn zae_val
def zab_q:IQ:=(.seq (rg 2 [oP 2 (.mv (.v (.string ⟨#[]⟩)))]) (.seq (rg 2 [oM 3 t0,oP 4 (.call 44 [t3,(.v (.string ⟨#[65,66,67,68,69,70,71,72,73,74,75,76,77,78,79,80,81,82,83,84,85,86,87,88,89,90,97,98,99,100,101,102,103,104,105,106,107,108,109,110,111,112,113,114,115,116,117,118,119,120,121,122,48,49,50,51,52,53,54,55,56,57,45,95]⟩))]),oP 5 (.ext .toStr [t4]),oM 2 t5]) (.cn [2] .ret)))
def zab_s (b:(List Int)):Option BA :=
 (zae_s b (⟨#[65,66,67,68,69,70,71,72,73,74,75,76,77,78,79,80,81,82,83,84,85,86,87,88,89,90,97,98,99,100,101,102,103,104,105,106,107,108,109,110,111,112,113,114,115,116,117,118,119,120,121,122,48,49,50,51,52,53,54,55,56,57,45,95]⟩:BA)).bind fun r1 =>
 some (qAp r1)
def zab_c:CS:=mkC (qAa (dVC (dCO (dO 0))) dNil) (qAa (qBn .u8) dNil) (fun x y=>zab_s y.1) (fun x y r=>.c (.o (.vS r))) fun x y r=>[.view .u8 y.1]
theorem zab_val:qAh Tryd.prog 21 zab_c:=vl0 zab_q [.tmp 2] 6 3 1 [(44,zae_w)] ⟨zae_ok,tV⟩ fun x y=>by
 simp only [zab_s,-eq_self,sZ];kernel_rfl
def zab_w:CQ:=qBk [(0,none,some (.u8,5))] (qCw [false] zab_c)
theorem zab_ok:qAe Tryd.prog 21 zab_w:=qEx zab_val
def zam_q:IQ:=(.seq (rg 5 [oP 4 (.mv (.v (.string ⟨#[]⟩))),oP 5 (.mv (vI 0))]) (.seq (rg 6 [oM 7 t0,oP 8 (.call 20 [t7]),oM 6 t8]) (.seq (.seq (rg 10 [oM 9 t6,oP 10 (.bi .eql t9 (vI 0))]) (.cond t10 (.seq (rg 5 [oP 4 (.mv (.v (.string ⟨#[]⟩))),oP 5 (.mv (vI 111))]) (.cn [4,5] .ret)) .skip)) (.seq (rg 5 [oM 11 t6,oM 12 t1,oP 13 (.ext (.toBytes 5) [t12]),oP 14 (.bslice 47 1 1 [.slice none 0 0] [(0,t13)]),oP 15 (.call 18 [t11,t14]),oM 16 t6,oP 17 (.call 19 [t16]),oP 18 (.bi .quo t17 (vI 2)),oP 19 (.sub (some 1) t15 none (some t18)),oP 20 (.call 21 [t19]),oM 4 t20,oP 5 (.mv (vI 0))]) (.cn [4,5] .ret)))))
def zam_s (a:Int) (text:BA):Option (BA × Int) :=
 (zay_s a).bind fun r1 =>
 bif decide (r1=(0:Int)) then (
  some ((⟨#[]⟩:BA),(111:Int)))
 else (
  bif decide (r1=(1:Int)) then (
   gd (0≤(0:Int)∧(0:Int)<((1:Nat):Int)) <|
   (zcg_s (⟨r1,(nrm 8 shaS256),(nrm 8 ([]:List Int)),(nrm 128 ([]:List Int)),(0:Int)⟩:qG7) (qA4 text)).bind fun r2 =>
   gd (qAc ((0:Int)+(1:Int))) <|
   (zcf_s (⟨r2.hash,(nrm 8 r2.short),(nrm 8 r2.long),(nrm 128 r2.rest),r2.n⟩:qG7)).bind fun r3 =>
   (qGe r1).bind fun r4 =>
   gd (0≤r4∧r4≤9223372036854775807∧1≤(2:Int)) <|
   gd (0≤(r4 / (2:Int))∧(r4 / (2:Int))≤r3.2.length) <|
   (zab_s (r3.2.take (Int.toNat (r4 / (2:Int))))).bind fun r5 =>
   some (r5,(0:Int)))
  else (
   bif decide (r1=(2:Int)) then (
    gd (0≤(0:Int)∧(0:Int)<((1:Nat):Int)) <|
    (zcg_s (⟨r1,(nrm 8 ([]:List Int)),(nrm 8 shaS384),(nrm 128 ([]:List Int)),(0:Int)⟩:qG7) (qA4 text)).bind fun r6 =>
    gd (qAc ((0:Int)+(1:Int))) <|
    (zcf_s (⟨r6.hash,(nrm 8 r6.short),(nrm 8 r6.long),(nrm 128 r6.rest),r6.n⟩:qG7)).bind fun r7 =>
    (qGe r1).bind fun r8 =>
    gd (0≤r8∧r8≤9223372036854775807∧1≤(2:Int)) <|
    gd (0≤(r8 / (2:Int))∧(r8 / (2:Int))≤r7.2.length) <|
    (zab_s (r7.2.take (Int.toNat (r8 / (2:Int))))).bind fun r9 =>
    some (r9,(0:Int)))
   else (
    bif decide (r1=(3:Int)) then (
     gd (0≤(0:Int)∧(0:Int)<((1:Nat):Int)) <|
     (zcg_s (⟨r1,(nrm 8 ([]:List Int)),(nrm 8 shaS512),(nrm 128 ([]:List Int)),(0:Int)⟩:qG7) (qA4 text)).bind fun r10 =>
     gd (qAc ((0:Int)+(1:Int))) <|
     (zcf_s (⟨r10.hash,(nrm 8 r10.short),(nrm 8 r10.long),(nrm 128 r10.rest),r10.n⟩:qG7)).bind fun r11 =>
     (qGe r1).bind fun r12 =>
     gd (0≤r12∧r12≤9223372036854775807∧1≤(2:Int)) <|
     gd (0≤(r12 / (2:Int))∧(r12 / (2:Int))≤r11.2.length) <|
     (zab_s (r11.2.take (Int.toNat (r12 / (2:Int))))).bind fun r13 =>
     some (r13,(0:Int)))
    else (
     (qGe r1).bind fun r14 =>
     gd (0≤r14∧r14≤9223372036854775807∧1≤(2:Int)) <|
     none))))
def sha_New_41_iq:IQ :=
 (.seq
 (.reg 2 none [
  ⟨(some 2),.mv (.v (.pointer none)),none⟩])
 (.seq
 (.reg 3 none [
  ⟨(some 4),.mv (.t 0),none⟩,
  ⟨(some 5),.build [.int .i64 0,.int .u32 0,.int .u32 0,.int .u32 0,.int .u32 0,.int .u32 0,.int .u32 0,.int .u32 0,.int .u32 0,.int .u64 0,.int .u64 0,.int .u64 0,.int .u64 0,.int .u64 0,.int .u64 0,.int .u64 0,.int .u64 0,.int .u8 0,.int .u8 0,.int .u8 0,.int .u8 0,.int .u8 0,.int .u8 0,.int .u8 0,.int .u8 0,.int .u8 0,.int .u8 0,.int .u8 0,.int .u8 0,.int .u8 0,.int .u8 0,.int .u8 0,.int .u8 0,.int .u8 0,.int .u8 0,.int .u8 0,.int .u8 0,.int .u8 0,.int .u8 0,.int .u8 0,.int .u8 0,.int .u8 0,.int .u8 0,.int .u8 0,.int .u8 0,.int .u8 0,.int .u8 0,.int .u8 0,.int .u8 0,.int .u8 0,.int .u8 0,.int .u8 0,.int .u8 0,.int .u8 0,.int .u8 0,.int .u8 0,.int .u8 0,.int .u8 0,.int .u8 0,.int .u8 0,.int .u8 0,.int .u8 0,.int .u8 0,.int .u8 0,.int .u8 0,.int .u8 0,.int .u8 0,.int .u8 0,.int .u8 0,.int .u8 0,.int .u8 0,.int .u8 0,.int .u8 0,.int .u8 0,.int .u8 0,.int .u8 0,.int .u8 0,.int .u8 0,.int .u8 0,.int .u8 0,.int .u8 0,.int .u8 0,.int .u8 0,.int .u8 0,.int .u8 0,.int .u8 0,.int .u8 0,.int .u8 0,.int .u8 0,.int .u8 0,.int .u8 0,.int .u8 0,.int .u8 0,.int .u8 0,.int .u8 0,.int .u8 0,.int .u8 0,.int .u8 0,.int .u8 0,.int .u8 0,.int .u8 0,.int .u8 0,.int .u8 0,.int .u8 0,.int .u8 0,.int .u8 0,.int .u8 0,.int .u8 0,.int .u8 0,.int .u8 0,.int .u8 0,.int .u8 0,.int .u8 0,.int .u8 0,.int .u8 0,.int .u8 0,.int .u8 0,.int .u8 0,.int .u8 0,.int .u8 0,.int .u8 0,.int .u8 0,.int .u8 0,.int .u8 0,.int .u8 0,.int .u8 0,.int .u8 0,.int .u8 0,.int .u8 0,.int .u8 0,.int .u8 0,.int .u8 0,.int .u8 0,.int .u8 0,.int .u8 0,.int .u8 0,.int .u8 0,.int .u8 0,.int .u8 0,.int .u8 0,.int .u8 0,.int .u8 0,.int .u8 0,.int .u8 0,.int .u8 0,.int .u64 0] [(0,1,(.t 4))],none⟩,
  ⟨(some 6),.box 100 146 (.t 5),none⟩,
  ⟨(some 3),.mv (.t 6),none⟩])
 (.seq
 (.seq
 (.reg 7 none [
  ⟨(some 7),.mv (.t 0),none⟩])
 (.block 0
  (.seq
  (.reg 8 none [
   ⟨(some 9),.bin false .eql (.t 7) (.v (.int .i64 1)),none⟩,
   ⟨(some 8),.mv (.t 9),none⟩])
  (.cond (.t 8)
   (.reg 0 none [
    ⟨(some 10),.mv (.t 3),none⟩,
    ⟨(some 11),.load (some 8) (.v (.pointer (some ⟨2,0,none⟩))),none⟩,
    ⟨(some 12),.ext .nilck [(.t 10)],none⟩,
    ⟨(some 13),.faddr 1 (.t 12),none⟩,
    ⟨none,.store 8 (.t 13) (.t 11),none⟩])
   (.seq
   (.reg 14 none [
    ⟨(some 15),.bin false .eql (.t 7) (.v (.int .i64 2)),none⟩,
    ⟨(some 14),.mv (.t 15),none⟩])
   (.cond (.t 14)
    (.reg 0 none [
     ⟨(some 16),.mv (.t 3),none⟩,
     ⟨(some 17),.load (some 8) (.v (.pointer (some ⟨3,0,none⟩))),none⟩,
     ⟨(some 18),.ext .nilck [(.t 16)],none⟩,
     ⟨(some 19),.faddr 9 (.t 18),none⟩,
     ⟨none,.store 8 (.t 19) (.t 17),none⟩])
    (.seq
    (.reg 20 none [
     ⟨(some 21),.bin false .eql (.t 7) (.v (.int .i64 3)),none⟩,
     ⟨(some 20),.mv (.t 21),none⟩])
    (.cond (.t 20)
     (.reg 0 none [
      ⟨(some 22),.mv (.t 3),none⟩,
      ⟨(some 23),.load (some 8) (.v (.pointer (some ⟨4,0,none⟩))),none⟩,
      ⟨(some 24),.ext .nilck [(.t 22)],none⟩,
      ⟨(some 25),.faddr 9 (.t 24),none⟩,
      ⟨none,.store 8 (.t 25) (.t 23),none⟩])
     (.seq
     (.reg 2 none [
      ⟨(some 2),.mv (.v (.pointer none)),none⟩])
     .ret)))))))))
 (.seq
 (.reg 2 none [
  ⟨(some 26),.mv (.t 3),none⟩,
  ⟨(some 2),.mv (.t 26),none⟩])
 .ret))))
theorem sha_New_41_ichk:chk Tryd.prog 41 []=some (sha_New_41_iq.erase,[.tmp 2],27):=by kernel_rfl
def zam_i18_i41_G:Nat→Option CQ:=tblQ []
theorem zam_i18_i41_Gok:∀f C,zam_i18_i41_G f=some C→qAe Tryd.prog f C:=fun f C h=>by cases h
def zam_i18_i41:CQ:=inlQ zam_i18_i41_G 8 27 sha_New_41_iq [.tmp 2]
theorem zam_i18_i41_ok:qAe Tryd.prog 41 zam_i18_i41:=inl_valid sha_New_41_ichk (by kernel_rfl) 8 zam_i18_i41_Gok (by kernel_rfl)
def sha_Sum_18_iq:IQ :=
 (.seq
 (.reg 4 none [
  ⟨(some 4),.mv (.v (.slice none 0 0)),none⟩])
 (.seq
 (.reg 5 none [
  ⟨(some 8),.mv (.t 0),none⟩,
  ⟨(some 9),.call 41 [(.t 8)],none⟩,
  ⟨(some 5),.mv (.t 9),none⟩])
 (.seq
 (.seq
 (.reg 11 none [
  ⟨(some 10),.mv (.t 5),none⟩,
  ⟨(some 11),.ext (.ptrEq false) [(.t 10),(.v (.pointer none))],none⟩])
 (.cond (.t 11)
  (.seq
  (.reg 4 none [
   ⟨(some 4),.mv (.v (.slice none 0 0)),none⟩])
  .ret)
  .skip))
 (.seq
 (.seq
 (.reg 14 none [
  ⟨(some 12),.mv (.t 1),none⟩,
  ⟨(some 13),.len (.t 12),none⟩,
  ⟨(some 14),.mv (.v (.int .i64 0)),none⟩])
 (.block 0
  (.unroll 3
   (.seq
   (.reg 15 none [
    ⟨(some 15),.bin false .lss (.t 14) (.t 13),none⟩])
   (.seq
   (.cond (.t 15)
    .skip
    (.exit 0))
   (.seq
   (.block 1
    (.seq
    (.reg 7 none [
     ⟨(some 16),.iaddr 1 (.t 12) (.t 14),none⟩,
     ⟨(some 17),.load none (.t 16),none⟩,
     ⟨(some 7),.mv (.t 17),none⟩])
    (.reg 20 none [
     ⟨(some 18),.mv (.t 5),none⟩,
     ⟨(some 19),.mv (.t 7),none⟩,
     ⟨(some 20),.call 42 [(.t 18),(.t 19)],none⟩])))
   (.reg 14 none [
    ⟨(some 21),.bin false .add (.t 14) (.v (.int .i64 1)),none⟩,
    ⟨(some 14),.mv (.t 21),none⟩])))))))
 (.seq
 (.reg 4 none [
  ⟨(some 22),.mv (.t 5),none⟩,
  ⟨(some 23),.call 43 [(.t 22)],none⟩,
  ⟨(some 4),.mv (.t 23),none⟩])
 .ret)))))
theorem sha_Sum_18_ichk:chk Tryd.prog 18 []=some (sha_Sum_18_iq.erase,[.tmp 4],24):=by kernel_rfl
def zam_i18_G:Nat→Option CQ:=tblQ [(41,zam_i18_i41),(42,zcg_w),(43,zcf_w)]
theorem zam_i18_Gok:∀f C,zam_i18_G f=some C→qAe Tryd.prog f C:=qAr ⟨zam_i18_i41_ok,zcg_ok,zcf_ok,tV⟩
def zam_i18:CQ:=inlQ zam_i18_G 15 24 sha_Sum_18_iq [.tmp 4]
theorem zam_i18_ok:qAe Tryd.prog 18 zam_i18:=inl_valid sha_Sum_18_ichk (by kernel_rfl) 15 zam_i18_Gok (by kernel_rfl)
def zam_c:CS:=mkC (qAa (dVC (dCO dZ)) (qAa (dVC (dCO dS)) dNil)) dNil (fun x y=>zam_s x.1 x.2.1) (fun x y r=>.tup [.o (.vS r.1),.o (.vI r.2)]) fun x y r=>[]
theorem zam_val:qAh Tryd.prog 6 zam_c:=vl0 zam_q [.tmp 4,.tmp 5] 21 7 0 [(20,zay_w),(18,zam_i18),(19,zce_w),(21,zab_w)] ⟨zay_ok,zam_i18_ok,zce_ok,zab_ok,tV⟩ fun x y=>by
 simp only [zam_s,-eq_self,sZ];kernel_rfl
def zam_w:CQ:=qCw [] zam_c
theorem zam_ok:qAe Tryd.prog 6 zam_w:=qAs zam_val
def zbb_q:IQ:=(.seq (rg 4 [oP 4 (.mv (vI 0))]) (.seq (rg 4 [oM 5 t0,oM 6 t1,oP 7 (.ext .idxByte [t5,t6]),oM 4 t7]) (.cn [4] .ret)))
def zbb_s (s:BA) (c:Int):Option Int :=
 some (Lib.indexByte s.data.toList (Int.toNat c).toUInt8)
def zbb_c:CS:=mkC (qAa (dVC (dCO dS)) (qAa (dVC (dCO (dI .u8))) dNil)) dNil (fun x y=>zbb_s x.1 x.2.1) (fun x y r=>.c (.o (.vI r))) fun x y r=>[]
theorem zbb_val:qAh Tryd.prog 61 zbb_c:=vl0 zbb_q [.tmp 4] 8 5 0 [] trivial fun x y=>by
 simp only [zbb_s,-eq_self,sZ];kernel_rfl
def zbb_w:CQ:=qCw [] zbb_c
theorem zbb_ok:qAe Tryd.prog 61 zbb_w:=qAs zbb_val
def zcs_q:IQ:=(.seq (rg 4 [oP 4 (.mv (vI 0))]) (.seq (rg 4 [oM 5 t0,oM 6 t1,oP 7 (.call 61 [t5,t6]),oM 4 t7]) (.cn [4] .ret)))
def zcs_s (s:BA) (c:Int):Option Int :=
 (zbb_s s c).bind fun r1 =>
 some r1
def zcs_c:CS:=mkC (qAa (dVC (dCO dS)) (qAa (dVC (dCO (dI .u8))) dNil)) dNil (fun x y=>zcs_s x.1 x.2.1) (fun x y r=>.c (.o (.vI r))) fun x y r=>[]
theorem zcs_val:qAh Tryd.prog 39 zcs_c:=vl0 zcs_q [.tmp 4] 8 5 0 [(61,zbb_w)] ⟨zbb_ok,tV⟩ fun x y=>by
 simp only [zcs_s,-eq_self,sZ];kernel_rfl
def zcs_w:CQ:=qCw [] zcs_c
theorem zcs_ok:qAe Tryd.prog 39 zcs_w:=qAs zcs_val
def zac_q:IQ:=(.seq (rg 4 [oP 4 (.mv (.v (.int .u64 0)))]) (.seq (rg 4 [oM 5 t1,oM 6 t0,oP 7 (.call 39 [t5,t6]),oP 8 (.conv false .u64 t7),oM 4 t8]) (.cn [4] .ret)))
def zac_s (c:Int) (signs:BA):Option Int :=
 (zcs_s signs c).bind fun r1 =>
 some (r1 % 18446744073709551616)
def zac_c:CS:=mkC (qAa (dVC (dCO (dI .u8))) (qAa (dVC (dCO dS)) dNil)) dNil (fun x y=>zac_s x.1 x.2.1) (fun x y r=>.c (.o (.val (.int .u64 r)))) fun x y r=>[]
theorem zac_val:qAh Tryd.prog 62 zac_c:=vl0 zac_q [.tmp 4] 9 5 0 [(39,zcs_w)] ⟨zcs_ok,tV⟩ fun x y=>by
 simp only [zac_s,-eq_self,sZ];kernel_rfl
def zac_w:CQ:=qCw [] zac_c
theorem zac_ok:qAe Tryd.prog 62 zac_w:=qAs zac_val
def zad_b0:IQ:=(.loop [0,1,6] (.seq (.seq (rg 17 [oM 15 t0,oP 16 (.lenS t15),oP 17 (.bi .geq t16 (vI 4))]) (.cond t17 .skip (.cn [0,1,6] (.exit 0)))) (.block 1 (.seq (.reg 7 (some [0,1,2,5,6,7,11,12,13,17,18,19,3,4,8,9,10,14,15,16,20,21,22]) [oM 18 t0,oP 19 (.index t18 (vI 0)),oM 20 t1,oM 23 t0,oP 24 (.index t23 (vI 1)),oM 25 t1,oM 29 t0,oP 30 (.index t29 (vI 2)),oM 31 t1,oM 35 t0,oP 36 (.index t35 (vI 3)),oM 37 t1,oP 21 (.call 62 [t19,t20]),oP 22 (.bi .shl t21 (.v (.int .u64 18))),oP 26 (.call 62 [t24,t25]),oP 27 (.bi .shl t26 (.v (.int .u64 12))),oP 28 (.bi .or t22 t27),oP 32 (.call 62 [t30,t31]),oP 33 (.bi .shl t32 (.v (.int .u64 6))),oP 34 (.bi .or t28 t33),oP 38 (.call 62 [t36,t37]),oP 39 (.bi .or t34 t38),oM 7 t39]) (.seq (rg 6 [oM 40 t6,oM 41 t7,oP 42 (.bi .shr t41 (.v (.int .u64 16))),oP 43 (.conv false .u8 t42),oM 44 t7,oP 45 (.bi .shr t44 (.v (.int .u64 8))),oP 46 (.conv false .u8 t45),oM 47 t7,oP 48 (.conv false .u8 t47),oP 49 (.bslice 5 1 3 [.int .u8 0] [(0,t43),(1,t46),(2,t48)]),oP 50 (.append 5 1 1 [.int .u8 0] t40 t49),oM 6 t50]) (rg 0 [oM 51 t0,oP 52 (.sub none t51 (some (vI 4)) none),oM 0 t52]))))))
def zad_b1:IQ:=(.seq (.seq (.reg 8 (some [0,1,2,3,6,7,8,4,5,9,10,11,12,13]) [oM 64 t8,oM 65 t0,oP 66 (.index t65 (vI 0)),oM 67 t1,oM 70 t0,oP 71 (.index t70 (vI 1)),oM 72 t1,oP 68 (.call 62 [t66,t67]),oP 69 (.bi .shl t68 (.v (.int .u64 18))),oP 73 (.call 62 [t71,t72]),oP 74 (.bi .shl t73 (.v (.int .u64 12))),oP 75 (.bi .or t69 t74),oP 76 (.bi .or t64 t75),oM 8 t76]) (.seq (rg 6 [oM 77 t6,oM 78 t8,oP 79 (.bi .shr t78 (.v (.int .u64 16))),oP 80 (.conv false .u8 t79),oP 81 (.bslice 5 1 1 [.int .u8 0] [(0,t80)]),oP 82 (.append 5 1 1 [.int .u8 0] t77 t81),oM 6 t82]) (.seq (.seq (rg 85 [oM 83 t0,oP 84 (.lenS t83),oP 85 (.bi .eql t84 (vI 3))]) (.cond t85 (.seq (rg 6 [oM 86 t6,oM 87 t8,oP 88 (.bi .shr t87 (.v (.int .u64 8))),oP 89 (.conv false .u8 t88),oP 90 (.bslice 5 1 1 [.int .u8 0] [(0,t89)]),oP 91 (.append 5 1 1 [.int .u8 0] t86 t90),oM 6 t91]) (.seq (rg 5 [oM 92 t6,oM 93 t8,oP 94 (.bi .and t93 (.v (.int .u64 255))),oP 95 (.bi .eql t94 (.v (.int .u64 0))),oM 4 t92,oM 5 t95]) (.canon [(4,none,.u8,5)] [4,5] .ret))) .skip)) (.seq (rg 5 [oM 96 t6,oM 97 t8,oP 98 (.bi .and t97 (.v (.int .u64 65535))),oP 99 (.bi .eql t98 (.v (.int .u64 0))),oM 4 t96,oM 5 t99]) (.canon [(4,none,.u8,5)] [4,5] .ret))))) (.exit 2))
def zad_q:IQ:=(.seq (rg 5 [oP 4 (.mv (.v (.slice none 0 0))),oP 5 (.mv vF)]) (.seq (rg 6 [oM 9 t0,oP 10 (.lenS t9),oP 11 (.bi .quo t10 (vI 4)),oP 12 (.bi .mul t11 (vI 3)),oP 13 (.bi .add t12 (vI 2)),oP 14 (.ext (.mkslice 5 1 1 [.int .u8 0]) [(vI 0),t13]),oM 6 t14]) (.seq (.block 0 (.cn [0,1,6] (.sub 0 zad_b0))) (.seq (rg 8 [oP 8 (.mv (.v (.int .u64 0)))]) (.seq (.seq (rg 54 [oM 53 t0,oP 54 (.lenS t53)]) (.block 2 (.seq (.block 4 (.seq (.block 3 (.seq (.seq (.seq (rg 55 [oP 56 (.bi .eql t54 (vI 3)),oM 55 t56]) (.cond t55 (.exit 3) .skip)) (.seq (rg 57 [oP 58 (.bi .eql t54 (vI 2)),oM 57 t58]) (.cond t57 (.exit 4) .skip))) (.exit 2))) (rg 8 [oM 59 t0,oP 60 (.index t59 (vI 2)),oM 61 t1,oP 62 (.call 62 [t60,t61]),oP 63 (.bi .shl t62 (.v (.int .u64 6))),oM 8 t63]))) (.cn [0,1,6,8] (.sub 1 zad_b1))))) (.seq (rg 5 [oM 100 t6,oM 4 t100,oP 5 (.mv vT)]) (.canon [(4,none,.u8,5)] [4,5] .ret)))))))
def qC6 (s signs:BA) (out:List Int):Option ((BA × (List Int)) ⊕ (BA × (List Int))) :=
 bif decide ((4:Int)≤(s.size:Int)) then (
  gd (0≤(0:Int)∧(0:Int)<s.size) <|
  gd (0≤(1:Int)∧(1:Int)<s.size) <|
  gd (0≤(2:Int)∧(2:Int)<s.size) <|
  gd (0≤(3:Int)∧(3:Int)<s.size) <|
  (zac_s (bAt s (0:Int)) signs).bind fun r9 =>
  gd (0≤(18:Int)) <|
  (zac_s (bAt s (1:Int)) signs).bind fun r10 =>
  gd (0≤(12:Int)) <|
  (zac_s (bAt s (2:Int)) signs).bind fun r11 =>
  gd (0≤(6:Int)) <|
  (zac_s (bAt s (3:Int)) signs).bind fun r12 =>
  gd (0≤(16:Int)) <|
  gd (0≤(8:Int)) <|
  gd (out.length+([(((qAk .u64 (qAk .u64 (qAk .u64 ((r9*262144) % 18446744073709551616) ((r10*4096) % 18446744073709551616)) ((r11*64) % 18446744073709551616)) r12) / 65536) % 256),(((qAk .u64 (qAk .u64 (qAk .u64 ((r9*262144) % 18446744073709551616) ((r10*4096) % 18446744073709551616)) ((r11*64) % 18446744073709551616)) r12) / 256) % 256),((qAk .u64 (qAk .u64 (qAk .u64 ((r9*262144) % 18446744073709551616) ((r10*4096) % 18446744073709551616)) ((r11*64) % 18446744073709551616)) r12) % 256)]:List Int).length≤9223372036854775807∧(out.length+([(((qAk .u64 (qAk .u64 (qAk .u64 ((r9*262144) % 18446744073709551616) ((r10*4096) % 18446744073709551616)) ((r11*64) % 18446744073709551616)) r12) / 65536) % 256),(((qAk .u64 (qAk .u64 (qAk .u64 ((r9*262144) % 18446744073709551616) ((r10*4096) % 18446744073709551616)) ((r11*64) % 18446744073709551616)) r12) / 256) % 256),((qAk .u64 (qAk .u64 (qAk .u64 ((r9*262144) % 18446744073709551616) ((r10*4096) % 18446744073709551616)) ((r11*64) % 18446744073709551616)) r12) % 256)]:List Int).length)*1≤140737488355328) <|
  gd (0≤(4:Int)∧(4:Int)≤(s.size:Int)∧(s.size:Int)≤s.size) <|
  some (.inl ((s.extract 4 s.size),(out++[(((qAk .u64 (qAk .u64 (qAk .u64 ((r9*262144) % 18446744073709551616) ((r10*4096) % 18446744073709551616)) ((r11*64) % 18446744073709551616)) r12) / 65536) % 256),(((qAk .u64 (qAk .u64 (qAk .u64 ((r9*262144) % 18446744073709551616) ((r10*4096) % 18446744073709551616)) ((r11*64) % 18446744073709551616)) r12) / 256) % 256),((qAk .u64 (qAk .u64 (qAk .u64 ((r9*262144) % 18446744073709551616) ((r10*4096) % 18446744073709551616)) ((r11*64) % 18446744073709551616)) r12) % 256)]))))
 else (
  some (.inr (s,out)))
def zad_p0 (s signs:BA) (out:List Int):Option (BA × (List Int)) :=
 qAw (fun x:(BA × (List Int))=>qC6 x.1 signs x.2) (s,out)
def zad_p1 (s signs:BA) (v:Int) (out:List Int):Option (Bool × (List Int)) :=
 gd (0≤(0:Int)∧(0:Int)<s.size) <|
 gd (0≤(1:Int)∧(1:Int)<s.size) <|
 (zac_s (bAt s (0:Int)) signs).bind fun r15 =>
 gd (0≤(18:Int)) <|
 (zac_s (bAt s (1:Int)) signs).bind fun r16 =>
 gd (0≤(12:Int)) <|
 gd (0≤(16:Int)) <|
 gd (out.length+([(((qAk .u64 v (qAk .u64 ((r15*262144) % 18446744073709551616) ((r16*4096) % 18446744073709551616))) / 65536) % 256)]:List Int).length≤9223372036854775807∧(out.length+([(((qAk .u64 v (qAk .u64 ((r15*262144) % 18446744073709551616) ((r16*4096) % 18446744073709551616))) / 65536) % 256)]:List Int).length)*1≤140737488355328) <|
 bif decide ((s.size:Int)=(3:Int)) then (
  gd (0≤(8:Int)) <|
  gd ((out++[(((qAk .u64 v (qAk .u64 ((r15*262144) % 18446744073709551616) ((r16*4096) % 18446744073709551616))) / 65536) % 256)]).length+([(((qAk .u64 v (qAk .u64 ((r15*262144) % 18446744073709551616) ((r16*4096) % 18446744073709551616))) / 256) % 256)]:List Int).length≤9223372036854775807∧((out++[(((qAk .u64 v (qAk .u64 ((r15*262144) % 18446744073709551616) ((r16*4096) % 18446744073709551616))) / 65536) % 256)]).length+([(((qAk .u64 v (qAk .u64 ((r15*262144) % 18446744073709551616) ((r16*4096) % 18446744073709551616))) / 256) % 256)]:List Int).length)*1≤140737488355328) <|
  some (decide ((qAi .u64 (qAk .u64 v (qAk .u64 ((r15*262144) % 18446744073709551616) ((r16*4096) % 18446744073709551616))) (255:Int))=(0:Int)),((out++[(((qAk .u64 v (qAk .u64 ((r15*262144) % 18446744073709551616) ((r16*4096) % 18446744073709551616))) / 65536) % 256)])++[(((qAk .u64 v (qAk .u64 ((r15*262144) % 18446744073709551616) ((r16*4096) % 18446744073709551616))) / 256) % 256)])))
 else (
  some (decide ((qAi .u64 (qAk .u64 v (qAk .u64 ((r15*262144) % 18446744073709551616) ((r16*4096) % 18446744073709551616))) (65535:Int))=(0:Int)),(out++[(((qAk .u64 v (qAk .u64 ((r15*262144) % 18446744073709551616) ((r16*4096) % 18446744073709551616))) / 65536) % 256)])))
def zad_s (s signs:BA):Option ((List Int) × Bool) :=
 gd (0≤(s.size:Int)∧(s.size:Int)≤9223372036854775807∧1≤(4:Int)) <|
 gd (qAc (((s.size:Int) / (4:Int))*(3:Int))) <|
 gd (qAc ((((s.size:Int) / (4:Int))*(3:Int))+(2:Int))) <|
 gd (0≤(0:Int)∧(0:Int)≤((((s.size:Int) / (4:Int))*(3:Int))+(2:Int))∧((((s.size:Int) / (4:Int))*(3:Int))+(2:Int))≤9223372036854775807∧((((s.size:Int) / (4:Int))*(3:Int))+(2:Int))*1≤140737488355328) <|
 (zad_p0 s signs []).bind fun o13 =>
 bif decide ((o13.1.size:Int)=(3:Int)) then (
  gd (0≤(2:Int)∧(2:Int)<o13.1.size) <|
  (zac_s (bAt o13.1 (2:Int)) signs).bind fun r14 =>
  gd (0≤(6:Int)) <|
  (zad_p1 o13.1 signs ((r14*64) % 18446744073709551616) o13.2).bind fun o17 =>
  some (o17.2,o17.1))
 else (
  bif decide ((o13.1.size:Int)=(2:Int)) then (
   (zad_p1 o13.1 signs (0:Int) o13.2).bind fun o18 =>
   some (o18.2,o18.1))
  else (
   some (o13.2,true)))
def zad_G:Nat→Option CQ:=tblQ [(62,zac_w)]
def zad_d0:=(dQS (qAa (dSO 0 dS) (qAa (dSO 1 dS) (qAa (dSO 6 (dO 0)) dNil))) (qAa (dRow .u8 5) dNil))
def zad_l0:SubQ:=mkL zad_d0 (fun x=>zad_p0 x.1.1 x.1.2.1 x.2.1) fun x r R kn kx kr=>kx 0 ⟨[sL 0 (.vS r.1),sL 1 (.vS x.1.2.1),sL 6 (.own 0)],[],[.row .u8 5 r.2]⟩
def zad_d1:=(dQS (qAa (dSO 0 dS) (qAa (dSO 1 dS) (qAa (dSO 6 (dO 0)) (qAa (dSO 8 (dI .u64)) dNil)))) (qAa (dRow .u8 5) dNil))
def zad_l1:SubQ:=mkL zad_d1 (fun x=>zad_p1 x.1.1 x.1.2.1 x.1.2.2.2.1 x.2.1) fun x r R kn kx kr=>kr ⟨[sL 4 (.own 0),sL 5 (.vB r.1)],[],[.row .u8 5 r.2]⟩
def zad_L:Nat→SubQ:=tblL [(0,zad_l0),(1,zad_l1)]
theorem zad_sub0:qBe zad_L zad_G 0 55 101 0 zad_b0:=qAo (show zad_L 0=zad_l0 from by kernel_rfl) fun x R kn kx kr=>qAl (step:=fun y=>qC6 y.1 x.1.2.1 y.2) (enc:=fun (y:BA × (List Int))=>zad_d0.e ((y.1,x.1.2),(y.2,x.2.2))) (fun y=>by kernel_rfl) (fun y ki=>by simp only [qC6,-eq_self,sZ]; kernel_rfl) (x.1.1,x.2.1)
theorem zad_sub1:qBe zad_L zad_G 0 55 101 1 zad_b1:=qAo (show zad_L 1=zad_l1 from by kernel_rfl) fun x R kn kx kr=>by
 simp only [zad_p1,-eq_self,sZ];kernel_rfl
def zad_c:CS:=mkC (qAa (dVC (dCO dS)) (qAa (dVC (dCO dS)) dNil)) dNil (fun x y=>zad_s x.1 x.2.1) (fun x y r=>.tup [.o (.own 0),.o (.vB r.2)]) fun x y r=>[.row .u8 5 r.1]
theorem zad_val:qAh Tryd.prog 40 zad_c:=vl1 zad_q [.tmp 4,.tmp 5] 101 55 0 (show qA3 zad_L zad_G 0 55 101 [(0,zad_b0),(1,zad_b1)] from ⟨zad_sub0,zad_sub1,tV⟩) (qAr ⟨zac_ok,tV⟩) fun x y=>by
 simp only [zad_s,-eq_self,sZ];kernel_rfl
def zad_w:CQ:=qBq [] zad_c
theorem zad_ok:qAe Tryd.prog 40 zad_w:=qBz zad_val
def zaa_b0:IQ:=(.loop [0,9,10] (.seq (rg 11 [oP 11 (.bi .lss t10 t9)]) (.seq (.cond t11 .skip (.cn [0] (.exit 0))) (.seq (.block 1 (.seq (rg 5 [oM 12 t10,oM 5 t12]) (.seq (rg 17 [oM 13 t0,oM 14 t5,oP 15 (.index t13 t14),oP 16 (.call 39 [(.v (.string ⟨#[65,66,67,68,69,70,71,72,73,74,75,76,77,78,79,80,81,82,83,84,85,86,87,88,89,90,97,98,99,100,101,102,103,104,105,106,107,108,109,110,111,112,113,114,115,116,117,118,119,120,121,122,48,49,50,51,52,53,54,55,56,57,45,95]⟩)),t15]),oP 17 (.bi .lss t16 (vI 0))]) (.cond t17 (.seq (rg 4 [oM 18 t5,oP 2 (.mv (.v (.slice none 0 0))),oP 3 (.mv (vI 20)),oM 4 t18]) (.canon [(2,none,.u8,5)] [2,3,4] .ret)) .skip)))) (rg 10 [oP 19 (.bi .add t10 (vI 1)),oM 10 t19])))))
def zaa_q:IQ:=(.seq (rg 4 [oP 2 (.mv (.v (.slice none 0 0))),oP 3 (.mv (vI 0)),oP 4 (.mv (vI 0))]) (.seq (.seq (rg 10 [oM 8 t0,oP 9 (.lenS t8),oP 10 (.mv (vI 0))]) (.block 0 (.cn [0,9,10] (.sub 0 zaa_b0)))) (.seq (.seq (rg 23 [oM 20 t0,oP 21 (.lenS t20),oP 22 (.bi .rem t21 (vI 4)),oP 23 (.bi .eql t22 (vI 1))]) (.cond t23 (.seq (rg 4 [oM 24 t0,oP 25 (.lenS t24),oP 2 (.mv (.v (.slice none 0 0))),oP 3 (.mv (vI 21)),oM 4 t25]) (.canon [(2,none,.u8,5)] [2,3,4] .ret)) .skip)) (.seq (rg 7 [oM 27 t0,oP 28 (.call 40 [t27,(.v (.string ⟨#[65,66,67,68,69,70,71,72,73,74,75,76,77,78,79,80,81,82,83,84,85,86,87,88,89,90,97,98,99,100,101,102,103,104,105,106,107,108,109,110,111,112,113,114,115,116,117,118,119,120,121,122,48,49,50,51,52,53,54,55,56,57,45,95]⟩))]),oM 26 t28,oP 29 (.extract t26 0),oP 30 (.extract t26 1),oM 6 t29,oM 7 t30]) (.seq (.seq (rg 32 [oM 31 t7,oP 32 (.un .not t31)]) (.cond t32 (.seq (rg 4 [oM 33 t0,oP 34 (.lenS t33),oP 35 (.bi .sub t34 (vI 1)),oP 2 (.mv (.v (.slice none 0 0))),oP 3 (.mv (vI 22)),oM 4 t35]) (.canon [(2,none,.u8,5)] [2,3,4] .ret)) .skip)) (.seq (rg 4 [oM 36 t6,oM 2 t36,oP 3 (.mv (vI 0)),oP 4 (.mv (vI 0))]) (.canon [(2,none,.u8,5)] [2,3,4] .ret)))))))
def qDs (s:BA) (x9_ x10_:Int):Option (Int ⊕ ((Int × Int × (List Int)) ⊕ Unit)) :=
 bif decide (x10_<x9_) then (
  gd (0≤x10_∧x10_<s.size) <|
  (zcs_s (⟨#[65,66,67,68,69,70,71,72,73,74,75,76,77,78,79,80,81,82,83,84,85,86,87,88,89,90,97,98,99,100,101,102,103,104,105,106,107,108,109,110,111,112,113,114,115,116,117,118,119,120,121,122,48,49,50,51,52,53,54,55,56,57,45,95]⟩:BA) (bAt s x10_)).bind fun r2 =>
  bif decide (r2<(0:Int)) then (
   some (.inr (.inl ((20:Int),x10_,[]))))
  else (
   gd (qAc (x10_+(1:Int))) <|
   some (.inl (x10_+(1:Int)))))
 else (
  some (.inr (.inr ())))
def zaa_p0 (s:BA) (x9_ x10_:Int):Option ((Int × Int × (List Int)) ⊕ Unit) :=
 qAw (fun x:Int=>qDs s x9_ x) x10_
def zaa_s (s:BA):Option ((List Int) × Int × Int) :=
 (zaa_p0 s (s.size:Int) (0:Int)).bind fun o3=>(Sum.elim (fun (o3_0:Int × Int × (List Int)) =>
  some (o3_0.2.2,o3_0.1,o3_0.2.1)) (fun (o3_1:Unit) =>
  gd (0≤(s.size:Int)∧1≤(4:Int)) <|
  bif decide (((s.size:Int) % (4:Int))=(1:Int)) then (
   some ([],(21:Int),(s.size:Int)))
  else (
   (zad_s s (⟨#[65,66,67,68,69,70,71,72,73,74,75,76,77,78,79,80,81,82,83,84,85,86,87,88,89,90,97,98,99,100,101,102,103,104,105,106,107,108,109,110,111,112,113,114,115,116,117,118,119,120,121,122,48,49,50,51,52,53,54,55,56,57,45,95]⟩:BA)).bind fun r4 =>
   bif (!r4.2) then (
    gd (qAc ((s.size:Int) - (1:Int))) <|
    some ([],(22:Int),((s.size:Int) - (1:Int))))
   else (
    some (r4.1,(0:Int),(0:Int)))))) o3
def zaa_G:Nat→Option CQ:=tblQ [(39,zcs_w),(40,zad_w)]
def zaa_d0:=(dQS (qAa (dSO 0 dS) (qAa (dSO 9 dZ) (qAa (dSO 10 dZ) dNil))) dNil)
def zaa_l0:SubQ:=mkL zaa_d0 (fun x=>zaa_p0 x.1.1 x.1.2.1 x.1.2.2.1) fun x r R kn kx kr=>(Sum.elim (fun (r_0:Int × Int × (List Int))=>kr ⟨[sL 2 (.own 0),sL 3 (.vI r_0.1),sL 4 (.vI r_0.2.1)],[],[.row .u8 5 r_0.2.2]⟩) (fun (r_1:Unit)=>kx 0 ⟨[sL 0 (.vS x.1.1)],[],[]⟩)) r
def zaa_L:Nat→SubQ:=tblL [(0,zaa_l0)]
theorem zaa_sub0:qBe zaa_L zaa_G 0 11 37 0 zaa_b0:=qAo (show zaa_L 0=zaa_l0 from by kernel_rfl) fun x R kn kx kr=>qAl (step:=fun y=>qDs x.1.1 x.1.2.1 y) (enc:=fun (y:Int)=>zaa_d0.e ((x.1.1,x.1.2.1,y,x.1.2.2.2),x.2)) (fun y=>by kernel_rfl) (fun y ki=>by simp only [qDs,-eq_self,sZ]; kernel_rfl) x.1.2.2.1
def zaa_c:CS:=mkC (qAa (dVC (dCO dS)) dNil) dNil (fun x y=>zaa_s x.1) (fun x y r=>.tup [.o (.own 0),.o (.vI r.2.1),.o (.vI r.2.2)]) fun x y r=>[.row .u8 5 r.1]
theorem zaa_val:qAh Tryd.prog 17 zaa_c:=vl1 zaa_q [.tmp 2,.tmp 3,.tmp 4] 37 11 0 (show qA3 zaa_L zaa_G 0 11 37 [(0,zaa_b0)] from ⟨zaa_sub0,tV⟩) (qAr ⟨zcs_ok,zad_ok,tV⟩) fun x y=>by
 simp only [zaa_s,-eq_self,sZ];kernel_rfl
def zaa_w:CQ:=qBq [] zaa_c
theorem zaa_ok:qAe Tryd.prog 17 zaa_w:=qBz zaa_val
end
theorem of64 {n:Nat} (hn:n<18446744073709551616):(BitVec.ofInt 64 (n:Int)).toNat=n:=by
 rw [BitVec.ofInt_natCast,BitVec.toNat_ofNat,Nat.mod_eq_of_lt (by omega)]
theorem of8 {n:Nat} (hn:n<256):(BitVec.ofInt 8 (n:Int)).toNat=n:=by
 rw [BitVec.ofInt_natCast,BitVec.toNat_ofNat,Nat.mod_eq_of_lt (by omega)]
theorem andM {n m:Nat} (hn:n<18446744073709551616) (hm:m<18446744073709551616):qAi .u64 (n:Int) (m:Int)=((n &&& m:Nat):Int):=by
 unfold qAi;show IntKind.u64.wrap ((BitVec.ofInt 64 (n:Int) &&& BitVec.ofInt 64 (m:Int)).toNat:Int)=_;rw [BitVec.toNat_and,of64 hn,of64 hm,u64_eq];have:n &&& m≤n:=Nat.and_le_left;omega
theorem orM {n m:Nat} (hn:n<18446744073709551616) (hm:m<18446744073709551616):qAk .u64 (n:Int) (m:Int)=((n ||| m:Nat):Int):=by
 unfold qAk;show IntKind.u64.wrap ((BitVec.ofInt 64 (n:Int) ||| BitVec.ofInt 64 (m:Int)).toNat:Int)=_
 rw [BitVec.toNat_or,of64 hn,of64 hm,u64_eq];have:n ||| m<2 ^ 64:=Nat.or_lt_two_pow hn hm
 omega
theorem and8 {n m:Nat} (hn:n<256) (hm:m<256):qAi .u8 (n:Int) (m:Int)=((n &&& m:Nat):Int):=by
 unfold qAi;show IntKind.u8.wrap ((BitVec.ofInt 8 (n:Int) &&& BitVec.ofInt 8 (m:Int)).toNat:Int)=_;rw [BitVec.toNat_and,of8 hn,of8 hm,u8_eq];have:n &&& m≤n:=Nat.and_le_left;omega
theorem or8 {n m:Nat} (hn:n<256) (hm:m<256):qAk .u8 (n:Int) (m:Int)=((n ||| m:Nat):Int):=by
 unfold qAk;show IntKind.u8.wrap ((BitVec.ofInt 8 (n:Int) ||| BitVec.ofInt 8 (m:Int)).toNat:Int)=_
 rw [BitVec.toNat_or,of8 hn,of8 hm,u8_eq];have:n ||| m<2 ^ 8:=Nat.or_lt_two_pow hn hm
 omega
theorem or_add (k a b:Nat) (hb:b<2 ^ k):2 ^ k*a ||| b=2 ^ k*a+b:=(Nat.two_pow_add_eq_or_of_lt hb a).symm
theorem and_low (k a:Nat):a &&& (2 ^ k - 1)=a % 2 ^ k:=Nat.and_two_pow_sub_one_eq_mod a k
def URL:BA:=⟨#[65,66,67,68,69,70,71,72,73,74,75,76,77,78,79,80,81,82,83,84,85,86,87,88,89,90,97,98,99,100,101,102,103,104,105,106,107,108,109,110,111,112,113,114,115,116,117,118,119,120,121,122,48,49,50,51,52,53,54,55,56,57,45,95]⟩
theorem URL_size:URL.size=64:=by decide
def sg (v:Nat):Int:=bAt URL (v:Int)
theorem sg_all:∀v:Fin 64,0≤sg v.1∧sg v.1<256∧Lib.indexByte URL.data.toList (Int.toNat (sg v.1)).toUInt8=(v.1:Int):=by decide +kernel
theorem sg_byte {v:Nat} (h:v<64):0≤sg v∧sg v<256:=⟨(sg_all ⟨v,h⟩).1,(sg_all ⟨v,h⟩).2.1⟩
theorem p_index {v:Nat} (h:v<64):zcs_s URL (sg v)=some (v:Int):=by
 unfold zcs_s zbb_s;rw [(sg_all ⟨v,h⟩).2.2];rfl
theorem qEr {v:Nat} (h:v<64):zac_s (sg v) URL=some (v:Int):=by
 unfold zac_s;rw [p_index h,obS,Int.emod_eq_of_lt (by omega) (by omega)]
def nI (l:List Nat):List Int:=l.map (fun n:Nat=>(n:Int))
def tlT:List Nat→List Nat
 | _::_::_::r=>tlT r
 | l=>l
def h3:List Nat→List Nat
 | x::y::z::r=>x::y::z::h3 r
 | _=>[]
def e3:List Nat→List Nat
 | x::y::z::r=>(x*65536+y*256+z) / 262144::(x*65536+y*256+z) / 4096 % 64::(x*65536+y*256+z) / 64 % 64::(x*65536+y*256+z) % 64::e3 r
 | _=>[]
def eT:List Nat→List Nat
 | [x,y]=>[x / 4,x % 4*16+y / 16,y % 16*4]
 | [x]=>[x / 4,x % 4*16]
 | _=>[]
def encN (l:List Nat):List Nat:=e3 l++eT (tlT l)
theorem h3_tlT:∀l:List Nat,h3 l++tlT l=l
 | []=>rfl
 | [_]=>rfl
 | [_,_]=>rfl
 | x::y::z::r=>by
  show x::y::z::(h3 r++tlT r)=_;rw [h3_tlT r]
theorem tlT_len:∀l:List Nat,(tlT l).length<3
 | []=>by simp [tlT]
 | [_]=>by simp [tlT]
 | [_,_]=>by simp [tlT]
 | _::_::_::r=>tlT_len r
theorem tlT_in:∀l:List Nat,∀x∈tlT l,x∈l
 | [],x,h=>h
 | [_],x,h=>h
 | [_,_],x,h=>h
 | _::_::_::r,x,h=>List.mem_cons_of_mem _ (List.mem_cons_of_mem _ (List.mem_cons_of_mem _ (tlT_in r x h)))
theorem e3_len:∀l:List Nat,3*(e3 l).length=4*(h3 l).length
 | []=>rfl
 | [_]=>rfl
 | [_,_]=>rfl
 | _::_::_::r=>by
  have:=e3_len r;simp only [e3,h3,List.length_cons];omega
theorem h3_mod:∀l:List Nat,(h3 l).length % 3=0
 | []=>rfl
 | [_]=>rfl
 | [_,_]=>rfl
 | _::_::_::r=>by
  have:=h3_mod r;simp only [h3,List.length_cons];omega
theorem e3_low:∀l:List Nat,(∀x∈l,x<256)→∀v∈e3 l,v<64
 | [],_,v,h=>by cases h
 | [_],_,v,h=>by cases h
 | [_,_],_,v,h=>by cases h
 | x::y::z::r,hl,v,h=>by
  have hx:=hl x List.mem_cons_self;have hy:=hl y (List.mem_cons_of_mem _ List.mem_cons_self);have hz:=hl z (List.mem_cons_of_mem _ (List.mem_cons_of_mem _ List.mem_cons_self));simp only [e3,List.mem_cons] at h;rcases h with rfl | rfl | rfl | rfl | h
  ·omega
  ·omega
  ·omega
  ·omega
  ·exact e3_low r (fun q hq=>hl q (List.mem_cons_of_mem _ (List.mem_cons_of_mem _ (List.mem_cons_of_mem _ hq)))) v h
theorem eT_low {l:List Nat} (hl:∀x∈l,x<256):∀v∈eT l,v<64:=by
 intro v h;match l,hl,h with
 | [],_,h=>cases h
 | [x],hl,h =>
  have hx:=hl x List.mem_cons_self;simp only [eT,List.mem_cons,List.not_mem_nil,or_false] at h;omega
 | [x,y],hl,h =>
  have hx:=hl x List.mem_cons_self;have hy:=hl y (List.mem_cons_of_mem _ List.mem_cons_self);simp only [eT,List.mem_cons,List.not_mem_nil,or_false] at h;omega
 | _::_::_::_,_,h=>cases h
theorem encN_low {l:List Nat} (hl:∀x∈l,x<256):∀v∈encN l,v<64:=fun v h=>by
 rcases List.mem_append.1 h with h | h
 ·exact e3_low l hl v h
 ·exact eT_low (fun x hx=>hl x (tlT_in l x hx)) v h
theorem e0_is {x y z:Nat} (hx:x<256) (hy:y<256) (hz:z<256) (r:List Nat):qAm (nI (x::y::z::r))=((x*65536+y*256+z:Nat):Int):=by
 show qAk .u64 (qAk .u64 ((((x:Int) % 18446744073709551616)*65536) % 18446744073709551616) ((((y:Int) % 18446744073709551616)*256) % 18446744073709551616)) ((z:Int) % 18446744073709551616)=_;rw [show (((x:Int) % 18446744073709551616)*65536) % 18446744073709551616=((2 ^ 16*x:Nat):Int) by omega,show (((y:Int) % 18446744073709551616)*256) % 18446744073709551616=((2 ^ 8*y:Nat):Int) by omega,show (z:Int) % 18446744073709551616=((z:Nat):Int) by omega];rw [orM (by omega) (by omega),or_add 16 x _ (by omega),show 2 ^ 16*x+2 ^ 8*y=2 ^ 8*(256*x+y) by omega,orM (by omega) (by omega),or_add 8 _ _ (by omega)];omega
theorem and63 {n:Nat} (hn:n<18446744073709551616):qAi .u64 (n:Int) (63:Int)=((n % 64:Nat):Int):=by
 rw [show (63:Int)=((2 ^ 6 - 1:Nat):Int) from rfl,andM hn (by decide),and_low]
theorem spell_loop:∀(l:List Nat) (out:List Int),(∀x∈l,x<256)→out.length+4*l.length≤1000000→zae_p0 URL (nI l) out=some (nI (tlT l),out++(e3 l).map sg)
 | [],out,_,_=>by
  unfold zae_p0;show qAw _ _=some (nI [],out++[]);rw [List.append_nil];exact qAj rfl
 | [x],out,_,_=>by
  unfold zae_p0;show qAw _ _=some (nI [x],out++[]);rw [List.append_nil];exact qAj rfl
 | [x,y],out,_,_=>by
  unfold zae_p0;show qAw _ _=some (nI [x,y],out++[]);rw [List.append_nil];exact qAj rfl
 | x::y::z::r,out,hl,ho=>by
  have hx:=hl x List.mem_cons_self;have hy:=hl y (List.mem_cons_of_mem _ List.mem_cons_self);have hz:=hl z (List.mem_cons_of_mem _ (List.mem_cons_of_mem _ List.mem_cons_self));have hlen:(nI (x::y::z::r)).length=r.length+3:=by simp [nI]
  simp only [List.length_cons] at ho;have hst:qFb URL (nI (x::y::z::r)) out=some (.inl (nI r,out++[sg ((x*65536+y*256+z) / 262144),sg ((x*65536+y*256+z) / 4096 % 64),sg ((x*65536+y*256+z) / 64 % 64),sg ((x*65536+y*256+z) % 64)])):=by
   unfold qFb;rw [e0_is hx hy hz,URL_size,hlen];generalize hV:x*65536+y*256+z=V
   rw [show ((V:Nat):Int) / 262144=((V / 262144:Nat):Int) by omega,show ((V:Nat):Int) / 4096=((V / 4096:Nat):Int) by omega,show ((V:Nat):Int) / 64=((V / 64:Nat):Int) by omega];rw [and63 (by omega),and63 (by omega),and63 (by omega)];rw [deT (by omega),cnT]
   repeat refine (qAb (by first | decide | omega | (simp only [List.length_cons,List.length_nil]; omega)) _).trans ?_
   show some (Sum.inl (((nI (x::y::z::r)).take (r.length+3)).drop 3,_))=_;rw [List.take_of_length_le (by rw [hlen]; omega)];rfl
  have ih:=spell_loop r (out++[sg ((x*65536+y*256+z) / 262144),sg ((x*65536+y*256+z) / 4096 % 64),sg ((x*65536+y*256+z) / 64 % 64),sg ((x*65536+y*256+z) % 64)]) (fun q hq=>hl q (List.mem_cons_of_mem _ (List.mem_cons_of_mem _ (List.mem_cons_of_mem _ hq)))) (by rw [List.length_append]; simp only [List.length_cons,List.length_nil]; omega);unfold zae_p0 at ih ⊢;rw [qAu hst,ih];simp [tlT,e3]
theorem tail2 {x y:Nat} (hx:x<256) (hy:y<256):qAk .u8 (((qAi .u8 (x:Int) (3:Int))*16) % 256) ((y:Int) / 16)=((x % 4*16+y / 16:Nat):Int):=by
 rw [show (3:Int)=((2 ^ 2 - 1:Nat):Int) from rfl,and8 hx (by decide),and_low,show (((x % 2 ^ 2:Nat):Int)*16) % 256=((2 ^ 4*(x % 4):Nat):Int) by omega,show (y:Int) / 16=((y / 16:Nat):Int) by omega,or8 (by omega) (by omega),or_add 4 _ _ (by omega)];omega
theorem tail1 {x:Nat} (hx:x<256):((qAi .u8 (x:Int) (3:Int))*16) % 256=((x % 4*16:Nat):Int):=by
 rw [show (3:Int)=((2 ^ 2 - 1:Nat):Int) from rfl,and8 hx (by decide),and_low];omega
theorem tail3 {y:Nat} (hy:y<256):((qAi .u8 (y:Int) (15:Int))*4) % 256=((y % 16*4:Nat):Int):=by
 rw [show (15:Int)=((2 ^ 4 - 1:Nat):Int) from rfl,and8 hy (by decide),and_low];omega
theorem p_spell {l:List Nat} (hl:∀x∈l,x<256) (hn:l.length≤200000):zae_s (nI l) URL=some ((encN l).map sg):=by
 have hlen:(nI l).length=l.length:=by simp [nI]
 have hh:(h3 l).length+(tlT l).length=l.length:=by rw [←List.length_append,h3_tlT]
 have h3l:=e3_len l;unfold zae_s;rw [hlen]
 repeat refine (qAb (by first | (unfold qAc; omega) | omega) _).trans ?_
 rw [spell_loop l [] hl (by simp only [List.length_nil]; omega),obS];dsimp only;rw [List.nil_append];have hE:((e3 l).map sg).length≤500000:=by rw [List.length_map]; omega
 unfold encN;rw [List.map_append];generalize (e3 l).map sg=E at hE ⊢
 have ht:=tlT_len l;have hT:∀x∈tlT l,x<256:=fun x hx=>hl x (tlT_in l x hx)
 generalize tlT l=L at ht hT
 match L,ht,hT with
 | [],_,_=>simp [nI,eT]
 | [x],_,hT =>
  have hx:=hT x List.mem_cons_self;rw [deF (by simp [nI]),cnF,deT (by simp [nI]),cnT];rw [show (nI [x]).getD (Int.toNat 0) (ET.dft .u8)=(x:Int) from rfl,tail1 hx,show (x:Int) / 4=((x / 4:Nat):Int) by omega,URL_size,show (nI [x]).length=1 from rfl]
  repeat refine (qAb (by first | decide | omega | (simp only [List.length_cons,List.length_nil]; omega)) _).trans ?_
  rfl
 | [x,y],_,hT =>
  have hx:=hT x List.mem_cons_self;have hy:=hT y (List.mem_cons_of_mem _ List.mem_cons_self);rw [deT (by simp [nI]),cnT];rw [show (nI [x,y]).getD (Int.toNat 0) (ET.dft .u8)=(x:Int) from rfl,show (nI [x,y]).getD (Int.toNat 1) (ET.dft .u8)=(y:Int) from rfl,tail2 hx hy,tail3 hy,show (x:Int) / 4=((x / 4:Nat):Int) by omega,URL_size,show (nI [x,y]).length=2 from rfl]
  repeat refine (qAb (by first | decide | omega | (simp only [List.length_cons,List.length_nil]; omega)) _).trans ?_
  rfl
def encB (l:List Nat):BA:=qAp ((encN l).map sg)
theorem p_Encode {l:List Nat} (hl:∀x∈l,x<256) (hn:l.length≤200000):zab_s (nI l)=some (encB l):=by
 unfold zab_s;rw [show (⟨#[65,66,67,68,69,70,71,72,73,74,75,76,77,78,79,80,81,82,83,84,85,86,87,88,89,90,97,98,99,100,101,102,103,104,105,106,107,108,109,110,111,112,113,114,115,116,117,118,119,120,121,122,48,49,50,51,52,53,54,55,56,57,45,95]⟩:BA)=URL from rfl,p_spell hl hn];rfl
theorem qBo (l:List Int):(qAp l).size=l.length:=by
 rw [bytesI_eq];show (List.toArray _).size=_;simp
theorem sgs_at {L:List Nat} (hL:∀v∈L,v<64) (i:Nat) (h:i<L.length):bAt (qAp (L.map sg)) (i:Int)=sg L[i]:=by
 have hs:=sg_byte (hL _ (List.getElem_mem h));have hsz:i<(qAp (L.map sg)).size:=by rw [qBo,List.length_map]; exact h
 have hsz':i<(qAp (L.map sg)).data.toList.length:=by simpa using hsz
 have e:(qAp (L.map sg)).data.toList=(L.map sg).map fun n=>UInt8.ofNat n.toNat:=by rw [bytesI_eq]
 have e2:(qAp (L.map sg)).data.toList[i]=UInt8.ofNat (sg L[i]).toNat:=by
  simp only [e,List.getElem_map]
 have e3:(qAp (L.map sg))[i]=UInt8.ofNat (sg L[i]).toNat:=by
  rw [←e2];simp [ByteArray.getElem_eq_getElem_data]
 have hin:bAt (qAp (L.map sg)) (i:Int)=((qAp (L.map sg))[i].toNat:Int):=by
  unfold bAt;simp [hsz]
 rw [hin,e3,UInt8.toNat_ofNat',Nat.mod_eq_of_lt (by omega)];omega
theorem sgs_drop (L:List Nat) (k:Nat):(qAp (L.map sg)).extract k (qAp (L.map sg)).size=qAp ((L.drop k).map sg):=by
 rw [qBo];rw [bytesI_eq,bytesI_eq];apply ByteArray.ext;rw [ByteArray.data_extract];simp only [List.map_drop,List.extract_toArray,List.length_map,List.extract_eq_take_drop];congr 1
 exact List.take_of_length_le (by simp)
theorem quad {a b c d:Nat} (ha:a<64) (hb:b<64) (hc:c<64) (hd:d<64):qAk .u64 (qAk .u64 (qAk .u64 (((a:Int)*262144) % 18446744073709551616) (((b:Int)*4096) % 18446744073709551616)) (((c:Int)*64) % 18446744073709551616)) (d:Int)=((a*262144+b*4096+c*64+d:Nat):Int):=by
 rw [show ((a:Int)*262144) % 18446744073709551616=((2 ^ 18*a:Nat):Int) by omega,show ((b:Int)*4096) % 18446744073709551616=((2 ^ 12*b:Nat):Int) by omega,show ((c:Int)*64) % 18446744073709551616=((2 ^ 6*c:Nat):Int) by omega];rw [orM (by omega) (by omega),or_add 18 a _ (by omega),show 2 ^ 18*a+2 ^ 12*b=2 ^ 12*(64*a+b) by omega,orM (by omega) (by omega),or_add 12 _ _ (by omega),show 2 ^ 12*(64*a+b)+2 ^ 6*c=2 ^ 6*(64*(64*a+b)+c) by omega,orM (by omega) (by omega),or_add 6 _ _ (by omega)];omega
theorem read_loop:∀(l:List Nat) (out:List Int),(∀x∈l,x<256)→out.length+l.length≤1000000→zad_p0 (qAp ((encN l).map sg)) URL out=some (qAp ((eT (tlT l)).map sg),out++nI (h3 l))
 | [],out,_,_=>by
  unfold zad_p0;show qAw _ _=some (qAp ((encN []).map sg),out++[]);rw [List.append_nil];exact qAj rfl
 | [x],out,_,_=>by
  unfold zad_p0;show qAw _ _=some (qAp ((encN [x]).map sg),out++[]);rw [List.append_nil];refine qAj ?_;unfold qC6;rw [deF (by rw [qBo,List.length_map]; show ¬(4:Int)≤((2:Nat):Int); decide),cnF]
 | [x,y],out,_,_=>by
  unfold zad_p0;show qAw _ _=some (qAp ((encN [x,y]).map sg),out++[]);rw [List.append_nil];refine qAj ?_;unfold qC6;rw [deF (by rw [qBo,List.length_map]; show ¬(4:Int)≤((3:Nat):Int); decide),cnF]
 | x::y::z::r,out,hl,ho=>by
  have hx:=hl x List.mem_cons_self;have hy:=hl y (List.mem_cons_of_mem _ List.mem_cons_self);have hz:=hl z (List.mem_cons_of_mem _ (List.mem_cons_of_mem _ List.mem_cons_self));have hr:∀q∈r,q<256:=fun q hq=>hl q (List.mem_cons_of_mem _ (List.mem_cons_of_mem _ (List.mem_cons_of_mem _ hq)))
  simp only [List.length_cons] at ho;have hlow:=encN_low hl;have hE:encN (x::y::z::r)=(x*65536+y*256+z) / 262144::(x*65536+y*256+z) / 4096 % 64::(x*65536+y*256+z) / 64 % 64::(x*65536+y*256+z) % 64::encN r:=rfl;have hst:qC6 (qAp ((encN (x::y::z::r)).map sg)) URL out=some (.inl (qAp ((encN r).map sg),out++[(x:Int),(y:Int),(z:Int)])):=by
   have hD:=sgs_drop (encN (x::y::z::r)) 4;rw [hE] at hlow hD ⊢;have ha:(x*65536+y*256+z) / 262144<64:=by omega
   have hb:(x*65536+y*256+z) / 4096 % 64<64:=by omega
   have hc:(x*65536+y*256+z) / 64 % 64<64:=by omega
   have hd:(x*65536+y*256+z) % 64<64:=by omega
   have hV:=quad ha hb hc hd;rw [show (x*65536+y*256+z) / 262144*262144+(x*65536+y*256+z) / 4096 % 64*4096+(x*65536+y*256+z) / 64 % 64*64+(x*65536+y*256+z) % 64=x*65536+y*256+z by omega] at hV;generalize (x*65536+y*256+z) / 262144=a at ha hV hlow hD ⊢
   generalize (x*65536+y*256+z) / 4096 % 64=b at hb hV hlow hD ⊢
   generalize (x*65536+y*256+z) / 64 % 64=c at hc hV hlow hD ⊢
   generalize (x*65536+y*256+z) % 64=d at hd hV hlow hD ⊢
   have b0:bAt (qAp ((a::b::c::d::encN r).map sg)) (0:Int)=sg a:=sgs_at hlow 0 (by simp);have b1:bAt (qAp ((a::b::c::d::encN r).map sg)) (1:Int)=sg b:=sgs_at hlow 1 (by simp);have b2:bAt (qAp ((a::b::c::d::encN r).map sg)) (2:Int)=sg c:=sgs_at hlow 2 (by simp);have b3:bAt (qAp ((a::b::c::d::encN r).map sg)) (3:Int)=sg d:=sgs_at hlow 3 (by simp);have hS:(qAp ((a::b::c::d::encN r).map sg)).size=(encN r).length+4:=by rw [qBo]; simp
   unfold qC6;rw [hD,b0,b1,b2,b3,hS,qEr ha,qEr hb,qEr hc,qEr hd];simp only [obS,hV];rw [deT (by omega),cnT]
   repeat refine (qAb (by first | decide | omega | (simp only [List.length_cons,List.length_nil]; omega)) _).trans ?_
   rw [show ((x*65536+y*256+z:Nat):Int) / 65536 % 256=(x:Int) by omega,show ((x*65536+y*256+z:Nat):Int) / 256 % 256=(y:Int) by omega,show ((x*65536+y*256+z:Nat):Int) % 256=(z:Int) by omega];rfl
  have ih:=read_loop r (out++[(x:Int),(y:Int),(z:Int)]) hr (by rw [List.length_append]; simp only [List.length_cons,List.length_nil]; omega);unfold zad_p0 at ih ⊢;rw [qAu hst,ih];simp [tlT,h3,nI]
theorem read_two {x y:Nat} (hx:x<256) (hy:y<256) (out:List Int) (ho:out.length≤1000000):(zac_s (bAt (qAp ((eT [x,y]).map sg)) (2:Int)) URL).bind (fun r14=>gd (0≤(6:Int)) <| (zad_p1 (qAp ((eT [x,y]).map sg)) URL ((r14*64) % 18446744073709551616) out).bind fun o17=>some (o17.2,o17.1))=some (out++[(x:Int),(y:Int)],true):=by
 have hlow:∀v∈eT [x,y],v<64:=eT_low (fun q hq=>by simp only [List.mem_cons,List.not_mem_nil,or_false] at hq; omega);have ha:x / 4<64:=by omega
 have hb:x % 4*16+y / 16<64:=by omega
 have hc:y % 16*4<64:=by omega
 have b0:bAt (qAp ((eT [x,y]).map sg)) (0:Int)=sg (x / 4):=sgs_at hlow 0 (by simp [eT]);have b1:bAt (qAp ((eT [x,y]).map sg)) (1:Int)=sg (x % 4*16+y / 16):=sgs_at hlow 1 (by simp [eT]);have b2:bAt (qAp ((eT [x,y]).map sg)) (2:Int)=sg (y % 16*4):=sgs_at hlow 2 (by simp [eT]);have hS:(qAp ((eT [x,y]).map sg)).size=3:=by rw [qBo]; rfl
 have hV:qAk .u64 ((((y % 16*4:Nat):Int)*64) % 18446744073709551616) (qAk .u64 ((((x / 4:Nat):Int)*262144) % 18446744073709551616) ((((x % 4*16+y / 16:Nat):Int)*4096) % 18446744073709551616))=((x*65536+y*256:Nat):Int):=by
  rw [show (((y % 16*4:Nat):Int)*64) % 18446744073709551616=((256*(y % 16):Nat):Int) by omega,show (((x / 4:Nat):Int)*262144) % 18446744073709551616=((2 ^ 18*(x / 4):Nat):Int) by omega,show (((x % 4*16+y / 16:Nat):Int)*4096) % 18446744073709551616=((2 ^ 12*(x % 4*16+y / 16):Nat):Int) by omega];rw [orM (by omega) (by omega),or_add 18 _ _ (by omega),orM (by omega) (by omega),Nat.or_comm,show 2 ^ 18*(x / 4)+2 ^ 12*(x % 4*16+y / 16)=2 ^ 12*(64*(x / 4)+(x % 4*16+y / 16)) by omega,or_add 12 _ _ (by omega)];omega
 have hA:qAi .u64 ((x*65536+y*256:Nat):Int) (255:Int)=0:=by
  rw [show (255:Int)=((2 ^ 8 - 1:Nat):Int) from rfl,andM (by omega) (by decide),and_low];omega
 unfold zad_p1;rw [b0,b1,b2,hS,qEr ha,qEr hb,qEr hc];simp only [obS,hV,hA]
 repeat refine (qAb (by first | decide | omega) _).trans ?_
 rw [show ((x*65536+y*256:Nat):Int) / 65536 % 256=(x:Int) by omega,show ((x*65536+y*256:Nat):Int) / 256 % 256=(y:Int) by omega];rw [qAb (by decide),qAb (by decide),qAb (by decide),qAb (by decide),qAb (by decide),qAb (by simp only [List.length_cons,List.length_nil]; omega),deT (show ((3:Nat):Int)=3 from rfl),cnT,qAb (by decide),qAb (by simp only [List.length_append,List.length_cons,List.length_nil]; omega)];simp
theorem read_one {x:Nat} (hx:x<256) (out:List Int) (ho:out.length≤1000000):(zad_p1 (qAp ((eT [x]).map sg)) URL (0:Int) out).bind (fun o18=>some (o18.2,o18.1))=some (out++[(x:Int)],true):=by
 have hlow:∀v∈eT [x],v<64:=eT_low (fun q hq=>by simp only [List.mem_cons,List.not_mem_nil,or_false] at hq; omega);have ha:x / 4<64:=by omega
 have hb:x % 4*16<64:=by omega
 have b0:bAt (qAp ((eT [x]).map sg)) (0:Int)=sg (x / 4):=sgs_at hlow 0 (by simp [eT]);have b1:bAt (qAp ((eT [x]).map sg)) (1:Int)=sg (x % 4*16):=sgs_at hlow 1 (by simp [eT]);have hS:(qAp ((eT [x]).map sg)).size=2:=by rw [qBo]; rfl
 have hV:qAk .u64 (0:Int) (qAk .u64 ((((x / 4:Nat):Int)*262144) % 18446744073709551616) ((((x % 4*16:Nat):Int)*4096) % 18446744073709551616))=((x*65536:Nat):Int):=by
  rw [show (((x / 4:Nat):Int)*262144) % 18446744073709551616=((2 ^ 18*(x / 4):Nat):Int) by omega,show (((x % 4*16:Nat):Int)*4096) % 18446744073709551616=((2 ^ 12*(x % 4*16):Nat):Int) by omega];rw [orM (by omega) (by omega),or_add 18 _ _ (by omega),show (0:Int)=((0:Nat):Int) from rfl,orM (by omega) (by omega),Nat.zero_or];omega
 have hA:qAi .u64 ((x*65536:Nat):Int) (65535:Int)=0:=by
  rw [show (65535:Int)=((2 ^ 16 - 1:Nat):Int) from rfl,andM (by omega) (by decide),and_low];omega
 unfold zad_p1;rw [b0,b1,hS,qEr ha,qEr hb];simp only [obS,hV,hA];rw [show ((x*65536:Nat):Int) / 65536 % 256=(x:Int) by omega];rw [qAb (by decide),qAb (by decide),qAb (by decide),qAb (by decide),qAb (by decide),qAb (by simp only [List.length_cons,List.length_nil]; omega),deF (by decide),cnF];simp
theorem encN_len (l:List Nat):(encN l).length % 4≠1∧(encN l).length≤4*l.length+3:=by
 have h1:=e3_len l;have h2:=h3_mod l;have ht3:=tlT_len l;have h4:(h3 l).length+(tlT l).length=l.length:=by rw [←List.length_append,h3_tlT]
 unfold encN;rw [List.length_append];generalize tlT l=L at ht3 h4
 match L,ht3 with
 | [],_=>simp only [eT,List.length_nil]; omega
 | [_],_=>simp only [eT,List.length_cons,List.length_nil]; omega
 | [_,_],_=>simp only [eT,List.length_cons,List.length_nil]; omega
theorem p_readB {l:List Nat} (hl:∀x∈l,x<256) (hn:l.length≤100000):zad_s (encB l) URL=some (nI l,true):=by
 have hlen:=(encN_len l).2;have hS:(encB l).size=(encN l).length:=by unfold encB; rw [qBo,List.length_map]
 have hh:(h3 l).length+(tlT l).length=l.length:=by rw [←List.length_append,h3_tlT]
 have ht3:=tlT_len l;unfold zad_s;rw [hS]
 repeat refine (qAb (by first | (unfold qAc; omega) | omega) _).trans ?_
 unfold encB;rw [read_loop l [] hl (by simp only [List.length_nil]; omega),obS];dsimp only;rw [List.nil_append];have hsp:nI l=nI (h3 l)++nI (tlT l):=by
  unfold nI;rw [←List.map_append,h3_tlT]
 rw [hsp];have hT:∀x∈tlT l,x<256:=fun x hx=>hl x (tlT_in l x hx)
 have hH:(nI (h3 l)).length≤1000000:=by unfold nI; rw [List.length_map]; omega
 generalize nI (h3 l)=H at hH ⊢
 generalize tlT l=L at ht3 hT ⊢
 match L,ht3,hT with
 | [],_,_ =>
  rw [qBo,deF (by decide),cnF,deF (by decide),cnF];simp [nI]
 | [x],_,hT =>
  have hx:=hT x List.mem_cons_self;have h1:(qAp ((eT [x]).map sg)).size=2:=by rw [qBo]; rfl
  rw [h1,deF (by decide),cnF,deT (show ((2:Nat):Int)=2 from rfl),cnT,read_one hx H hH];rfl
 | [x,y],_,hT =>
  have hx:=hT x List.mem_cons_self;have hy:=hT y (List.mem_cons_of_mem _ List.mem_cons_self);have h1:(qAp ((eT [x,y]).map sg)).size=3:=by rw [qBo]; rfl
  rw [h1,deT (show ((3:Nat):Int)=3 from rfl),cnT,qAb (by decide),read_two hx hy H hH];rfl
theorem signs_loop {L:List Nat} (hL:∀v∈L,v<64) (hn:L.length≤1000000):∀(j i:Nat),i+j=L.length→zaa_p0 (qAp (L.map sg)) (L.length:Int) (i:Int)=some (.inr ())
 | 0,i,h=>by
  unfold zaa_p0;refine qAj ?_;unfold qDs;rw [deF (by omega),cnF]
 | j+1,i,h=>by
  have hi:i<L.length:=by omega
  have hS:(qAp (L.map sg)).size=L.length:=by rw [qBo,List.length_map]
  have hst:qDs (qAp (L.map sg)) (L.length:Int) (i:Int)=some (.inl ((i+1:Nat):Int)):=by
   unfold qDs;rw [deT (by omega),cnT,qAb (by rw [hS]; omega),sgs_at hL i hi];rw [show (⟨#[65,66,67,68,69,70,71,72,73,74,75,76,77,78,79,80,81,82,83,84,85,86,87,88,89,90,97,98,99,100,101,102,103,104,105,106,107,108,109,110,111,112,113,114,115,116,117,118,119,120,121,122,48,49,50,51,52,53,54,55,56,57,45,95]⟩:BA)=URL from rfl,p_index (hL _ (List.getElem_mem hi)),obS,deF (by omega),cnF];exact qAb (by unfold qAc; omega) _
  have ih:=signs_loop hL hn j (i+1) (by omega);unfold zaa_p0 at ih ⊢;rw [qAu hst];exact ih
theorem p_Decode {l:List Nat} (hl:∀x∈l,x<256) (hn:l.length≤100000):zaa_s (encB l)=some (nI l,0,0):=by
 obtain ⟨h1,h2⟩:=encN_len l;have hS:(encB l).size=(encN l).length:=by unfold encB; rw [qBo,List.length_map]
 have hlp:=signs_loop (encN_low hl) (by omega) (encN l).length 0 (by omega);unfold zaa_s;rw [hS,show zaa_p0 (encB l) ((encN l).length:Int) 0=some (.inr ()) from hlp,obS,Sum.elim_inr,qAb (by omega),deF (by omega),cnF];rw [show (⟨#[65,66,67,68,69,70,71,72,73,74,75,76,77,78,79,80,81,82,83,84,85,86,87,88,89,90,97,98,99,100,101,102,103,104,105,106,107,108,109,110,111,112,113,114,115,116,117,118,119,120,121,122,48,49,50,51,52,53,54,55,56,57,45,95]⟩:BA)=URL from rfl,p_readB hl hn];rfl
theorem encB_size (l:List Nat):(encB l).size=(encN l).length:=by unfold encB; rw [qBo,List.length_map]
theorem encN_same:∀(l m:List Nat),l.length=m.length→(encN l).length=(encN m).length
 | [],[],_=>rfl
 | [_],[_],_=>rfl
 | [_,_],[_,_],_=>rfl
 | _::_::_::r,_::_::_::r',h=>by
  have:=encN_same r r' (by simp only [List.length_cons] at h; omega);simp only [encN,e3,tlT,List.length_append,List.length_cons] at this ⊢;omega
 | [],_::_,h=>by simp at h
 | _::_,[],h=>by simp at h
 | [_],_::_::_,h=>by simp at h
 | [_,_],[_],h=>by simp at h
 | [_,_],_::_::_::_,h=>by simp at h
 | _::_::_::_,[_],h=>by simp at h
 | _::_::_::_,[_,_],h=>by simp at h
def hsh (a:Int):Int:=bif decide (a=1) || decide (a=4) || decide (a=7) || decide (a=10) then 1 else bif decide (a=2) || decide (a=5) || decide (a=8) || decide (a=11) then 2 else bif decide (a=3) || decide (a=6) || decide (a=9) || decide (a=12) then 3 else 0
theorem alg_cases (a:Int):a=1∨a=2∨a=3∨a=4∨a=5∨a=6∨a=7∨a=8∨a=9∨a=10∨a=11∨a=12∨(a≠1∧a≠2∧a≠3∧a≠4∧a≠5∧a≠6∧a≠7∧a≠8∧a≠9∧a≠10∧a≠11∧a≠12):=by omega
theorem p_hash (a:Int):zay_s a=some (hsh a):=by
 rcases alg_cases a with rfl | rfl | rfl | rfl | rfl | rfl | rfl | rfl | rfl | rfl | rfl | rfl | ⟨h1,h2,h3,h4,h5,h6,h7,h8,h9,h10,h11,h12⟩ <;> try rfl
 unfold zay_s zay_p0 zay_p1 hsh;simp [h1,h2,h3,h4,h5,h6,h7,h8,h9,h10,h11,h12]
theorem hsh_cases (a:Int):hsh a=0∨hsh a=1∨hsh a=2∨hsh a=3:=by
 unfold hsh;cases decide (a=1) || decide (a=4) || decide (a=7) || decide (a=10) <;> cases decide (a=2) || decide (a=5) || decide (a=8) || decide (a=11) <;> cases decide (a=3) || decide (a=6) || decide (a=9) || decide (a=12) <;> simp
def Byt (l:List Int):Prop:=∀x∈l,0≤x∧x<256
theorem Byt.app {l m:List Int} (h:Byt l) (g:Byt m):Byt (l++m):=fun x hx=>by
 rcases List.mem_append.1 hx with hx | hx
 ·exact h x hx
 ·exact g x hx
theorem byt_mod (x:Int):0≤x % 256∧x % 256<256:=⟨Int.emod_nonneg _ (by decide),Int.emod_lt_of_pos _ (by decide)⟩
theorem by32_byt (s:List Int):∀(k:Nat) (x:Int × List Int),Byt x.2→Byt (itr (by32 s) k x).2
 | 0,x,h=>h
 | k+1,x,h=>by32_byt s k (by32 s x) (h.app fun y hy=>by
  simp only [List.mem_cons,List.not_mem_nil,or_false] at hy;rcases hy with rfl | rfl | rfl | rfl <;> exact byt_mod _)
theorem by8_byt (v:Int):∀(k:Nat) (x:Int × List Int),Byt x.2→Byt (itr (byt8 v) k x).2
 | 0,x,h=>h
 | k+1,x,h=>by8_byt v k (byt8 v x) (h.app fun y hy=>by
  simp only [List.mem_cons,List.not_mem_nil,or_false] at hy;rw [hy];exact byt_mod _)
theorem by64_byt (s:List Int):∀(k:Nat) (x:Int × List Int),Byt x.2→Byt (itr (by64 s) k x).2
 | 0,x,h=>h
 | k+1,x,h=>by64_byt s k (by64 s x) (by8_byt _ 8 (56,x.2) h)
theorem byt_nil:Byt []:=fun _ h=>by cases h
theorem outB_byt (s:qG7):Byt (outB s):=by
 unfold outB;cases decide (s.hash=1) with
 | true=>exact by32_byt _ 8 (0,[]) byt_nil
 | false=>exact fun x hx=>by64_byt s.long 8 (0,[]) byt_nil x (List.mem_of_mem_take hx)
theorem shaS_byt (s:qG7):Byt (shaS s):=outB_byt _
theorem shaS_nrm (s:qG7):shaS (nrmS s)=shaS s:=by
 unfold shaS;rw [shaW_nrm];rfl
def toN (l:List Int):List Nat:=l.map Int.toNat
theorem toN_byte {l:List Int} (h:Byt l):∀x∈toN l,x<256:=fun x hx=>by
 obtain ⟨y,hy,rfl⟩:=List.mem_map.1 hx;have:=h y hy;omega
theorem nI_toN:∀ {l:List Int},Byt l→nI (toN l)=l
 | [],_=>rfl
 | x::l,h=>by
  have h1:=h x List.mem_cons_self;have ih:=nI_toN (l:=l) fun y hy=>h y (List.mem_cons_of_mem _ hy)
  show ((x.toNat:Nat):Int)::nI (toN l)=_;rw [ih];congr 1
  omega
theorem toN_take (l:List Int) (k:Nat):toN (l.take k)=(toN l).take k:=by simp [toN,List.map_take]
def stS (h:Int):qG7:=⟨h,bif decide (h=1) then nrm 8 shaS256 else nrm 8 [],bif decide (h=1) then nrm 8 [] else bif decide (h=2) then nrm 8 shaS384 else nrm 8 shaS512,nrm 128 [],0⟩
def sumT (h:Int) (text:BA):List Int:=shaS (shaW (stS h) (qA4 text))
def halfT (a:Int) (text:BA):BA:=bif decide (hsh a=0) then ⟨#[]⟩ else encB ((toN (sumT (hsh a) text)).take (sumZ (hsh a) / 2))
theorem shaW_st {s:qG7} (h0:0≤s.n) (hn:s.n<18446744073709551616) (b:List Int):0≤(shaW s b).n∧(shaW s b).n<18446744073709551616∧(shaW s b).hash=s.hash:=wrt_n _ _ (nrmS s) b h0 hn
theorem sumT_len {h:Int} (hh:h=1∨h=2∨h=3) (text:BA):(sumT h text).length=sumZ h:=by
 obtain ⟨h1,h2,h3⟩:=shaW_st (s:=stS h) (Int.le_refl _) (by show (0:Int)<_; decide) (qA4 text);unfold sumT;rw [shaS_len _ (by rw [h3]; exact hh) h1 h2,h3];rfl
theorem half_core {s:qG7} (hh:s.hash=1∨s.hash=2∨s.hash=3) (h0:s.n=0) (b:List Int) :
  ((zcg_s s b).bind fun r2=>gd (qAc ((0:Int)+(1:Int))) <| (zcf_s (⟨r2.hash,(nrm 8 r2.short),(nrm 8 r2.long),(nrm 128 r2.rest),r2.n⟩:qG7)).bind fun r3 =>
   (qGe s.hash).bind fun r4=>gd (0≤r4∧r4≤9223372036854775807∧1≤(2:Int)) <| gd (0≤(r4 / (2:Int))∧(r4 / (2:Int))≤r3.2.length) <|
   (zab_s (r3.2.take (Int.toNat (r4 / (2:Int))))).bind fun r5=>some (r5,(0:Int)))=some (encB ((toN (shaS (shaW s b))).take (sumZ s.hash / 2)),0):=by
 obtain ⟨h1,h2,h3⟩:=shaW_st (s:=s) (by omega) (by omega) b;have hl:=shaS_len (shaW s b) (by rw [h3]; exact hh) h1 h2;rw [h3] at hl;have hz:=sumZ_le s.hash;rw [p_Write s b hh (by omega) (by omega),obS,qAb (by unfold qAc; decide)];rw [show (⟨(shaW s b).hash,nrm 8 (shaW s b).short,nrm 8 (shaW s b).long,nrm 128 (shaW s b).rest,(shaW s b).n⟩:qG7)=nrmS (shaW s b) from rfl,p_Sum (nrmS (shaW s b)) (by show (shaW s b).hash=1∨(shaW s b).hash=2∨(shaW s b).hash=3; rw [h3]; exact hh) h1 h2,obS,p_Size,obS,shaS_nrm];have hb:=shaS_byt (shaW s b);dsimp only;generalize shaS (shaW s b)=S at hl hb ⊢
 rw [qAb (by omega),qAb (by rw [hl]; omega),show (((sumZ s.hash:Nat):Int) / 2).toNat=sumZ s.hash / 2 by omega];have ht:Byt (S.take (sumZ s.hash / 2)):=fun x hx=>hb x (List.mem_of_mem_take hx)
 rw [←nI_toN ht,p_Encode (toN_byte ht) (by unfold toN; rw [List.length_map,List.length_take]; omega),toN_take];rfl
theorem p_Half (a:Int) (text:BA):zam_s a text=some (halfT a text,bif decide (hsh a=0) then 111 else 0):=by
 unfold zam_s halfT;rw [p_hash,obS];rcases hsh_cases a with h | h | h | h <;> rw [h]
 ·rfl
 ·have:=half_core (s:=stS 1) (.inl rfl) rfl (qA4 text);rw [deF (by decide),cnF,deT rfl,cnT,qAb (by decide)];exact this
 ·have:=half_core (s:=stS 2) (.inr (.inl rfl)) rfl (qA4 text);rw [deF (by decide),cnF,deF (by decide),cnF,deT rfl,cnT,qAb (by decide)];exact this
 ·have:=half_core (s:=stS 3) (.inr (.inr rfl)) rfl (qA4 text);rw [deF (by decide),cnF,deF (by decide),cnF,deF (by decide),cnF,deT rfl,cnT,qAb (by decide)];exact this
end Go.Proofs.YtlmfmmgfiffjiaaDoor
