/-
  Texts of a claim.
-/
import Derived.Lib.Bytealg
import Derived.Test.YtlmfmmgfiffjiaaGreatDoorPSha
import Derived.Test.YtlmfmmgfiffjiaaGreatDoorEngO
import Derived.Test.YtlmfmmgfiffjiaaGreatDoorProg
import Derived.Test.YtlmfmmgfiffjiaaGreatDoorEngS
import Derived.Test.YtlmfmmgfiffjiaaGreatDoorEngN
set_option linter.unusedSimpArgs false
set_option linter.unusedVariables false
namespace Go.Proofs.YtlmfmmgfiffjiaaGreatDoor
open Go.Eng
theorem blk_nrm (s:qGy):blk ⟨s.hash,nrm 8 s.short,nrm 8 s.long,nrm 128 s.rest,s.n⟩=blk s:=by
 unfold blk;rw [blk32_nrm,blk64_nrm]
def put (size:Nat) (s:qGy) (b:List Int):qGy :=
 let s2:qGy:=⟨s.hash,s.short,s.long,(nrm 128 s.rest).take (s.n % size).toNat++(b.take (size - (s.n % size).toNat)++(nrm 128 s.rest).drop ((s.n % size).toNat+min b.length (size - (s.n % size).toNat))),(s.n+(min b.length (size - (s.n % size).toNat):Nat)) % 18446744073709551616⟩
 bif decide ((s.n % size).toNat+min b.length (size - (s.n % size).toNat)=size) then blk s2 else s2
def wrt (size:Nat):Nat→qGy→List Int→qGy
 | 0,s,_=>s
 | _+1,s,[]=>s
 | f+1,s,x::b=>wrt size f (put size s (x::b)) ((x::b).drop (min (x::b).length (size - (s.n % size).toNat)))
theorem blk_n (s:qGy):(blk s).n=s.n∧(blk s).hash=s.hash:=by
 unfold blk;cases decide (s.hash=1) <;> exact ⟨rfl,rfl⟩
theorem put_n (size:Nat) (s:qGy) (b:List Int):0≤(put size s b).n∧(put size s b).n<18446744073709551616∧(put size s b).hash=s.hash:=by
 unfold put;generalize decide ((s.n % (size:Int)).toNat+min b.length (size - (s.n % (size:Int)).toNat)=size)=c
 cases c
 ·exact ⟨Int.emod_nonneg _ (by decide),Int.emod_lt_of_pos _ (by decide),rfl⟩
 ·refine ⟨?_,?_,?_⟩
  ·rw [cnT,(blk_n _).1]; exact Int.emod_nonneg _ (by decide)
  ·rw [cnT,(blk_n _).1]; exact Int.emod_lt_of_pos _ (by decide)
  ·rw [cnT,(blk_n _).2]
theorem p_write (size:Nat) (h1:1≤size) (h2:size≤128):∀(f:Nat) (s:qGy) (b:List Int),b.length≤f→0≤s.n→s.n<18446744073709551616 →
  zbv_p0 size s.hash s.short s.long s.rest s.n b=some ((wrt size f s b).hash,(wrt size f s b).short,(wrt size f s b).long,(wrt size f s b).rest,(wrt size f s b).n)
 | f,s,[],hb,h0,hn=>by
  have:wrt size f s []=s:=by cases f <;> rfl
  rw [this];unfold zbv_p0;refine qAj ?_;unfold qD3;rw [deF (by simp),cnF]
 | 0,s,x::b,hb,_,_=>by simp at hb
 | f+1,s,x::b,hb,h0,hn=>by
  have hsz:(size:Int) % 18446744073709551616=size:=Int.emod_eq_of_lt (by omega) (by omega);have hm0:0≤s.n % size:=Int.emod_nonneg _ (by omega);have hm1:s.n % size<size:=Int.emod_lt_of_pos _ (by omega);generalize hB:x::b=B at hb ⊢
  have hBl:0<B.length:=by rw [←hB]; simp
  have hst:qD3 size s.hash s.short s.long s.rest s.n B=some (.inl ((put size s B).hash,(put size s B).short,(put size s B).long,(put size s B).rest,(put size s B).n,B.drop (min B.length (size - (s.n % size).toNat)))):=by
   unfold qD3;rw [deT (by omega),cnT,hsz];have hk:(((min B.length ((Int.toNat (size:Int)) - (Int.toNat (s.n % size)))):Nat):Int) % 18446744073709551616=((min B.length (size - (s.n % size).toNat):Nat):Int):=by
    rw [Int.toNat_natCast];exact Int.emod_eq_of_lt (by omega) (by omega)
   rw [hk];simp only [Int.toNat_natCast,List.take_length]
   iterate 6 refine (qAb (by first | (unfold qAc; omega) | omega) _).trans ?_
   have hd:decide (s.n % (size:Int)+((min B.length (size - (s.n % size).toNat):Nat):Int)=size)=decide ((s.n % size).toNat+min B.length (size - (s.n % size).toNat)=size):=by
    rw [decide_eq_decide];omega
   rw [hd];unfold put;cases decide ((s.n % size).toNat+min B.length (size - (s.n % size).toNat)=size)
   ·rfl
   ·simp only [cnT,p_block,obS];have:=blk_nrm ⟨s.hash,s.short,s.long,(nrm 128 s.rest).take (s.n % size).toNat++(B.take (size - (s.n % size).toNat)++(nrm 128 s.rest).drop ((s.n % size).toNat+min B.length (size - (s.n % size).toNat))),(s.n+(min B.length (size - (s.n % size).toNat):Nat)) % 18446744073709551616⟩;simp only at this;rw [this]
  obtain ⟨p1,p2,p3⟩:=put_n size s B;have ih:=p_write size h1 h2 f (put size s B) (B.drop (min B.length (size - (s.n % size).toNat))) (by rw [List.length_drop]; omega) p1 p2;have hw:wrt size (f+1) s B=wrt size f (put size s B) (B.drop (min B.length (size - (s.n % size).toNat))):=by rw [←hB]; rfl
  rw [hw];unfold zbv_p0 at ih ⊢;rw [qA9 hst];exact ih
def qCe (h:Int):Nat:=bif decide (h=1) then 64 else bif decide (h=2) then 128 else bif decide (h=3) then 128 else 0
theorem p_Block (h:Int):zbs_s h=some ((qCe h:Nat):Int):=by
 unfold zbs_s qCe;cases decide (h=1) <;> cases decide (h=2) <;> cases decide (h=3) <;> rfl
def nrmS (s:qGy):qGy:=⟨s.hash,nrm 8 s.short,nrm 8 s.long,nrm 128 s.rest,s.n⟩
def shaW (s:qGy) (b:List Int):qGy:=wrt (qCe s.hash) b.length (nrmS s) b
theorem sizeB_of {h:Int} (hh:h=1∨h=2∨h=3):64≤qCe h∧qCe h≤128∧(h=1→qCe h=64)∧(h≠1→qCe h=128):=by
 rcases hh with rfl | rfl | rfl <;> decide
theorem p_Write (s:qGy) (b:List Int) (hh:s.hash=1∨s.hash=2∨s.hash=3) (h0:0≤s.n) (hn:s.n<18446744073709551616):zbv_s s b=some (shaW s b):=by
 obtain ⟨h1,h2,_⟩:=sizeB_of hh;unfold zbv_s shaW;rw [p_Block,obS];have h:=p_write (qCe s.hash) (by omega) h2 b.length (nrmS s) b (Nat.le_refl _) h0 hn;simp only [nrmS] at h ⊢;rw [h];rfl
theorem wrt_n (size:Nat):∀(f:Nat) (s:qGy) (b:List Int),0≤s.n→s.n<18446744073709551616→0≤(wrt size f s b).n∧(wrt size f s b).n<18446744073709551616∧(wrt size f s b).hash=s.hash
 | 0,s,b,h0,hn=>⟨h0,hn,rfl⟩
 | f+1,s,[],h0,hn=>⟨h0,hn,rfl⟩
 | f+1,s,x::b,h0,hn=>by
  obtain ⟨p1,p2,p3⟩:=put_n size s (x::b);have:=wrt_n size f (put size s (x::b)) ((x::b).drop (min (x::b).length (size - (s.n % size).toNat))) p1 p2;rw [p3] at this;exact this
def zer (size field m:Int) (n:Nat):Nat:=((size - field - m - n) % size).toNat
theorem p_pad (size n field:Int) (hs:size=64∧field=8∨size=128∧field=16) (hn:0≤n) (hn2:n<18446744073709551616):∀(k:Nat) (pad:List Int),zer size field (n % size) pad.length=k→pad.length+k≤1000 →
  zbu_p0 size n field pad=some (pad++List.replicate k 0):=by
 have hsz:size % 18446744073709551616=size:=by rcases hs with ⟨rfl,_⟩ | ⟨rfl,_⟩ <;> rfl
 have hm0:0≤n % size:=Int.emod_nonneg _ (by omega);have hm1:n % size<size:=Int.emod_lt_of_pos _ (by omega);intro k;induction k with
 | zero =>
  intro pad hz hl;unfold zbu_p0;refine qAj ?_;unfold qD1;rw [hsz]
  iterate 5 refine (qAb (by first | (unfold qAc; omega) | omega) _).trans ?_
  have hc:((n % size)+(pad.length:Int)) % size=size - field:=by
   unfold zer at hz;rcases hs with ⟨rfl,rfl⟩ | ⟨rfl,rfl⟩ <;> omega
  rw [deT hc];simp
 | succ k ih =>
  intro pad hz hl;have hst:qD1 size n field pad=some (.inl (pad++[0])):=by
   unfold qD1;rw [hsz]
   iterate 5 refine (qAb (by first | (unfold qAc; omega) | omega) _).trans ?_
   have hc:¬((n % size)+(pad.length:Int)) % size=size - field:=by
    unfold zer at hz;rcases hs with ⟨rfl,rfl⟩ | ⟨rfl,rfl⟩ <;> omega
   rw [deF hc];exact qAb (by simp only [List.length_cons,List.length_nil]; omega) _
  have:=ih (pad++[0]) (by
   unfold zer at hz ⊢;rw [List.length_append,List.length_singleton];rcases hs with ⟨rfl,rfl⟩ | ⟨rfl,rfl⟩ <;> omega) (by rw [List.length_append,List.length_singleton]; omega)
  unfold zbu_p0 at this ⊢;rw [qA9 hst,this,List.append_assoc];rfl
def lenB (n i:Int):Int:=bif decide (i<8) then ((n*8) % 18446744073709551616) / 2 ^ (min (Int.toNat (8*i)) 64) % 256 else bif decide (i=8) then n / 2305843009213693952 % 256 else 0
def lenS (n:Int) (x:Int × List Int):Int × List Int:=(x.1 - 1,x.2++[lenB n x.1])
theorem p_len (n i:Int) (pad:List Int) (hi:i≤15) (hp:pad.length≤500):zbu_p1 n i pad=some (itr (lenS n) (i+1).toNat (i,pad)).2:=by
 unfold zbu_p1;refine qCq (fun x => - x.1) (lenS n) (fun x=>x.2) (fun x=>x.1≤15∧(x.2.length:Int)+x.1≤600) 1 (fun x hx hn=>?_) (fun x hx hn=>?_) _ (i,pad) ⟨hi,by show (pad.length:Int)+i≤600; omega⟩ (by show (1 - -i).toNat=_; omega)
 ·obtain ⟨h1,h2⟩:=hx;refine ⟨?_,by show -(x.1 - 1) = -x.1+1; omega,by show x.1 - 1≤15; omega,by show ((x.2++[lenB n x.1]).length:Int)+(x.1 - 1)≤600; rw [List.length_append,List.length_singleton]; omega⟩;have hn : -x.1<1:=hn;unfold qE7;rw [deT (by omega),cnT];unfold lenS lenB;by_cases h8:x.1<8
  ·rw [deT h8,cnT]
   iterate 5 refine (qAb (by first | decide | (unfold qAc; omega) | omega | (simp only [List.length_cons,List.length_nil]; omega)) _).trans ?_
   rfl
  ·rw [deF h8,cnF];by_cases h9:x.1=8
   ·rw [deT h9,cnT]
    iterate 3 refine (qAb (by first | decide | (unfold qAc; omega) | omega | (simp only [List.length_cons,List.length_nil]; omega)) _).trans ?_
    rfl
   ·rw [deF h9,cnF]
    iterate 2 refine (qAb (by first | decide | (unfold qAc; omega) | omega | (simp only [List.length_cons,List.length_nil]; omega)) _).trans ?_
    rfl
 ·have hn:1 ≤ -x.1:=hn;unfold qE7;rw [deF (by omega),cnF]
def by32 (s:List Int) (x:Int × List Int):Int × List Int:=(x.1+1,x.2++[(nrm 8 s).getD (Int.toNat x.1) 0 / 16777216 % 256,(nrm 8 s).getD (Int.toNat x.1) 0 / 65536 % 256,(nrm 8 s).getD (Int.toNat x.1) 0 / 256 % 256,(nrm 8 s).getD (Int.toNat x.1) 0 % 256])
theorem p_out32 (s:List Int):zbu_p2 s 0 []=some (itr (by32 s) 8 (0,[])).2:=by
 unfold zbu_p2;refine qCq (fun x=>x.1) (by32 s) (fun x=>x.2) (fun x=>0≤x.1∧(x.2.length:Int)≤4*x.1) 8 (fun x hx hn=>?_) (fun x hx hn=>?_) _ (0,[]) ⟨Int.le_refl _,by simp⟩ rfl
 ·obtain ⟨h1,h2⟩:=hx;refine ⟨?_,rfl,by show 0≤x.1+1; omega,by show ((x.2++[_,_,_,_]).length:Int)≤4*(x.1+1); rw [List.length_append]; simp only [List.length_cons,List.length_nil]; omega⟩;unfold qE8;rw [deT hn,cnT]
  iterate 6 refine (qAb (by first | decide | (unfold qAc; omega) | omega | (simp only [List.length_cons,List.length_nil]; omega)) _).trans ?_
  rfl
 ·unfold qE8;rw [deF (by omega),cnF]
def byt8 (v:Int) (x:Int × List Int):Int × List Int:=(x.1 - 8,x.2++[v / 2 ^ (min (Int.toNat x.1) 64) % 256])
theorem p_out8 (v:Int) (out:List Int) (ho:out.length≤500):zbu_p4 v 56 out=some (itr (byt8 v) 8 (56,out)).2:=by
 have key:∀(k:Nat) (i:Int) (out:List Int),i=8*(k:Int) - 8→k≤8→out.length+k≤600→zbu_p4 v i out=some (itr (byt8 v) k (i,out)).2:=by
  intro k;induction k with
  | zero =>
   intro i out hi _ _;unfold zbu_p4;refine qAj ?_;unfold qD2;rw [deF (by omega),cnF];rfl
  | succ k ih =>
   intro i out hi hk hl;have hst:qD2 v i out=some (.inl (byt8 v (i,out))):=by
    unfold qD2;rw [deT (by omega),cnT]
    iterate 3 refine (qAb (by first | decide | (unfold qAc; omega) | omega | (simp only [List.length_cons,List.length_nil]; omega)) _).trans ?_
    rfl
   have:=ih (i - 8) (out++[v / 2 ^ (min (Int.toNat i) 64) % 256]) (by omega) (by omega) (by rw [List.length_append,List.length_singleton]; omega);unfold zbu_p4 at this ⊢;rw [qA9 hst];exact this
 exact key 8 56 out rfl (Nat.le_refl _) (by omega)
theorem byt8_len (v:Int):∀(k:Nat) (x:Int × List Int),(itr (byt8 v) k x).2.length=x.2.length+k
 | 0,x=>rfl
 | k+1,x=>by
  rw [itr,byt8_len v k];show (x.2++[_]).length+k=_;rw [List.length_append,List.length_singleton];omega
def by64 (s:List Int) (x:Int × List Int):Int × List Int:=(x.1+1,(itr (byt8 ((nrm 8 s).getD (Int.toNat x.1) 0)) 8 (56,x.2)).2)
theorem p_out64 (s a b c d e f:List Int) (hs:s.length=8) (ha:a.length=8) (hb:b.length=8) (hc:c.length=128) (hd:d.length=8) (he:e.length=8) (hf:f.length=128) :
  zbu_p3 s 0 a b c d e f []=some (a,b,c,d,e,f,(itr (by64 s) 8 (0,[])).2):=by
 have key:∀(k:Nat) (i:Int) (out:List Int),0≤i→i+k=8→out.length≤8*i.toNat→zbu_p3 s i a b c d e f out=some (a,b,c,d,e,f,(itr (by64 s) k (i,out)).2):=by
  intro k;induction k with
  | zero =>
   intro i out h0 hi _;unfold zbu_p3;refine qAj ?_;show qC7 s i a b c d e f out=_;unfold qC7;rw [deF (by omega),cnF];rfl
  | succ k ih =>
   intro i out h0 hi hl;have hst:qC7 s i a b c d e f out=some (.inl (s,i+1,a,b,c,d,e,f,(by64 s (i,out)).2)):=by
    unfold qC7;rw [deT (by omega),cnT];refine (qAb (by omega) _).trans ?_;rw [p_out8 _ _ (by omega),obS];refine (qAb (by unfold qAc; omega) _).trans ?_;rw [nrm_eq hs,nrm_eq ha,nrm_eq hb,nrm_eq hc,nrm_eq hd,nrm_eq he,nrm_eq hf];unfold by64;rw [nrm_eq hs]
   have:=ih (i+1) (by64 s (i,out)).2 (by omega) (by omega) (by
    show (itr _ 8 (56,out)).2.length≤_;rw [byt8_len];show out.length+8≤_;omega)
   unfold zbu_p3 at this ⊢;rw [qA9 hst];exact this
 exact key 8 0 [] (Int.le_refl _) rfl (by simp)
def sumZ (h:Int):Nat:=bif decide (h=1) then 32 else bif decide (h=2) then 48 else bif decide (h=3) then 64 else 0
theorem sumZ_le (h:Int):sumZ h≤64:=by
 unfold sumZ;cases decide (h=1) <;> cases decide (h=2) <;> cases decide (h=3) <;> decide
theorem p_Size (h:Int):zbt_s h=some ((sumZ h:Nat):Int):=by
 unfold zbt_s sumZ;cases decide (h=1) <;> cases decide (h=2) <;> cases decide (h=3) <;> rfl
def padB (size field n:Int):List Int:=(itr (lenS n) field.toNat (field - 1,[128]++List.replicate (zer size field (n % size) 1) 0)).2
def outB (s:qGy):List Int:=bif decide (s.hash=1) then (itr (by32 s.short) 8 (0,[])).2 else (itr (by64 s.long) 8 (0,[])).2.take (sumZ s.hash)
def shaS (s:qGy):List Int:=outB (shaW s (padB (qCe s.hash) (qCe s.hash / 8) s.n))
theorem by64_len (s:List Int):∀(k:Nat) (x:Int × List Int),(itr (by64 s) k x).2.length=x.2.length+8*k
 | 0,x=>rfl
 | k+1,x=>by
  rw [itr,by64_len s k];show (itr _ 8 (56,x.2)).2.length+8*k=_;rw [byt8_len];show x.2.length+8+8*k=_;omega
theorem by32_len (s:List Int):∀(k:Nat) (x:Int × List Int),(itr (by32 s) k x).2.length=x.2.length+4*k
 | 0,x=>rfl
 | k+1,x=>by
  rw [itr,by32_len s k];show (x.2++[_,_,_,_]).length+4*k=_;rw [List.length_append];simp only [List.length_cons,List.length_nil];omega
theorem by32_nrm (s:List Int):by32 (nrm 8 s)=by32 s:=by
 funext x
 simp only [by32,nrm_nrm]
theorem by64_nrm (s:List Int):by64 (nrm 8 s)=by64 s:=by
 funext x
 simp only [by64,nrm_nrm]
theorem shaW_nrm (s:qGy) (b:List Int):shaW (nrmS s) b=shaW s b:=by simp only [shaW,nrmS,nrm_nrm]
theorem p_Sum (s:qGy) (hh:s.hash=1∨s.hash=2∨s.hash=3) (h0:0≤s.n) (hn:s.n<18446744073709551616):zbu_s s=some (nrmS s,shaS s):=by
 obtain ⟨h1,h2,h3,h4⟩:=sizeB_of hh;have hcase:((qCe s.hash:Nat):Int)=64∧((qCe s.hash:Nat):Int) / 8=8∨((qCe s.hash:Nat):Int)=128∧((qCe s.hash:Nat):Int) / 8=16:=by
  by_cases hc:s.hash=1
  ·rw [h3 hc]; exact .inl ⟨rfl,rfl⟩
  ·rw [h4 hc]; exact .inr ⟨rfl,rfl⟩
 have hz:zer (qCe s.hash) (qCe s.hash / 8) (s.n % qCe s.hash) 1≤128:=by
  unfold zer;have:=Int.emod_lt_of_pos ((qCe s.hash:Int) - (qCe s.hash:Int) / 8 - s.n % (qCe s.hash:Int) - (1:Nat)) (show (0:Int)<(qCe s.hash:Int) by omega);omega
 unfold zbu_s;rw [p_Block,obS];refine (qAb (by omega) _).trans ?_;rw [p_pad _ _ _ hcase h0 hn (zer (qCe s.hash) (qCe s.hash / 8) (s.n % qCe s.hash) 1) [128] rfl (by simp only [List.length_cons,List.length_nil]; omega),obS];refine (qAb (by unfold qAc; omega) _).trans ?_;rw [p_len _ _ _ (by omega) (by simp only [List.length_append,List.length_replicate,List.length_cons,List.length_nil]; omega),obS];simp only [nrm_nrm];have hpad:(itr (lenS s.n) ((qCe s.hash:Int) / 8 - 1+1).toNat ((qCe s.hash:Int) / 8 - 1,[128]++List.replicate (zer (qCe s.hash) (qCe s.hash / 8) (s.n % qCe s.hash) 1) 0)).2=padB (qCe s.hash) (qCe s.hash / 8) s.n:=by
  unfold padB;rw [show (qCe s.hash:Int) / 8 - 1+1=(qCe s.hash:Int) / 8 by omega]
 rw [hpad,show (⟨s.hash,nrm 8 s.short,nrm 8 s.long,nrm 128 s.rest,s.n⟩:qGy)=nrmS s from rfl,p_Write (nrmS s) _ hh h0 hn,obS,shaW_nrm];have hwh:(shaW s (padB (qCe s.hash) (qCe s.hash / 8) s.n)).hash=s.hash:=(wrt_n _ _ (nrmS s) _ h0 hn).2.2;unfold shaS outB;generalize hT:shaW s (padB (qCe s.hash) (qCe s.hash / 8) s.n)=T at hwh ⊢
 cases hc:decide (T.hash=1) with
 | true =>
  simp only [cnT];rw [p_out32,obS,by32_nrm]
 | false =>
  simp only [cnF];have hl:((sumZ T.hash:Nat):Int)≤((itr (by64 T.long) 8 (0,([]:List Int))).2.length:Int):=by
   rw [by64_len];have:sumZ T.hash≤64:=sumZ_le _;simp only [List.length_nil];omega
  rw [p_out64 _ _ _ _ _ _ _ (qE2 _ _) (qE2 _ _) (qE2 _ _) (qE2 _ _) (qE2 _ _) (qE2 _ _) (qE2 _ _),obS,p_Size,obS,obS,by64_nrm];dsimp only;generalize (itr (by64 T.long) 8 (0,([]:List Int))).2=O at hl ⊢
  refine (qAb (by refine ⟨?_,by omega,by omega,hl⟩; trivial) _).trans ?_;rw [Int.toNat_natCast];rfl
theorem shaS_len (s:qGy) (hh:s.hash=1∨s.hash=2∨s.hash=3) (h0:0≤s.n) (hn:s.n<18446744073709551616):(shaS s).length=sumZ s.hash:=by
 have hwh:(shaW s (padB (qCe s.hash) (qCe s.hash / 8) s.n)).hash=s.hash:=(wrt_n _ _ (nrmS s) _ h0 hn).2.2;unfold shaS outB;rw [hwh];rcases hh with h | h | h <;> rw [h]
 ·rw [deT rfl,cnT,by32_len];rfl
 ·rw [deF (by decide),cnF,List.length_take,by64_len];rfl
 ·rw [deF (by decide),cnF,List.length_take,by64_len];rfl
set_option maxRecDepth 100000
noncomputable section
def zav_b1:IQ:=(.join [] [] (.cond t9 (.seq (rg 2 [oP 2 (.mv (vI 2))]) (.cn [2] .ret)) (.seq (.seq (rg 14 [oP 15 (.bi .eql t3 (vI 3)),oM 14 t15]) (.cond t14 .skip (.seq (rg 14 [oP 16 (.bi .eql t3 (vI 6)),oM 14 t16]) (.cond t14 .skip (.seq (rg 14 [oP 17 (.bi .eql t3 (vI 9)),oM 14 t17]) (.cond t14 .skip (rg 14 [oP 18 (.bi .eql t3 (vI 12)),oM 14 t18]))))))) (.cond t14 (.seq (rg 2 [oP 2 (.mv (vI 3))]) (.cn [2] .ret)) .skip))))
def zav_b0:IQ:=(.join [] [] (.cond t4 (.seq (rg 2 [oP 2 (.mv (vI 1))]) (.cn [2] .ret)) (.seq (.seq (rg 9 [oP 10 (.bi .eql t3 (vI 2)),oM 9 t10]) (.cond t9 .skip (.seq (rg 9 [oP 11 (.bi .eql t3 (vI 5)),oM 9 t11]) (.cond t9 .skip (.seq (rg 9 [oP 12 (.bi .eql t3 (vI 8)),oM 9 t12]) (.cond t9 .skip (rg 9 [oP 13 (.bi .eql t3 (vI 11)),oM 9 t13]))))))) (.cn [3,9] (.sub 1 zav_b1)))))
def zav_q:IQ:=(.seq (rg 2 [oP 2 (.mv (vI 0))]) (.seq (.seq (rg 3 [oM 3 t0]) (.block 0 (.seq (.seq (rg 4 [oP 5 (.bi .eql t3 (vI 1)),oM 4 t5]) (.cond t4 .skip (.seq (rg 4 [oP 6 (.bi .eql t3 (vI 4)),oM 4 t6]) (.cond t4 .skip (.seq (rg 4 [oP 7 (.bi .eql t3 (vI 7)),oM 4 t7]) (.cond t4 .skip (rg 4 [oP 8 (.bi .eql t3 (vI 10)),oM 4 t8]))))))) (.cn [3,4] (.sub 0 zav_b0))))) (.seq (rg 2 [oP 2 (.mv (vI 0))]) (.cn [2] .ret))))
def zav_p1 (x3_:Int) (x9_:Bool):Option (Int ⊕ Unit) :=
 bif x9_ then (
  some (.inl (2:Int)))
 else (
  bif decide (x3_=(3:Int)) then (
   bif decide (x3_=(3:Int)) then (
    some (.inl (3:Int)))
   else (
    some (.inr ())))
  else (
   bif decide (x3_=(6:Int)) then (
    bif decide (x3_=(6:Int)) then (
     some (.inl (3:Int)))
    else (
     some (.inr ())))
   else (
    bif decide (x3_=(9:Int)) then (
     bif decide (x3_=(9:Int)) then (
      some (.inl (3:Int)))
     else (
      some (.inr ())))
    else (
     bif decide (x3_=(12:Int)) then (
      some (.inl (3:Int)))
     else (
      some (.inr ()))))))
def zav_p0 (x3_:Int) (x4_:Bool):Option (Int ⊕ Unit) :=
 bif x4_ then (
  some (.inl (1:Int)))
 else (
  bif decide (x3_=(2:Int)) then (
   (zav_p1 x3_ (decide (x3_=(2:Int)))).bind fun o1=>(Sum.elim (fun (o1_0:Int) =>
    some (.inl o1_0)) (fun (o1_1:Unit) =>
    some (.inr ()))) o1)
  else (
   bif decide (x3_=(5:Int)) then (
    (zav_p1 x3_ (decide (x3_=(5:Int)))).bind fun o2=>(Sum.elim (fun (o2_0:Int) =>
     some (.inl o2_0)) (fun (o2_1:Unit) =>
     some (.inr ()))) o2)
   else (
    bif decide (x3_=(8:Int)) then (
     (zav_p1 x3_ (decide (x3_=(8:Int)))).bind fun o3=>(Sum.elim (fun (o3_0:Int) =>
      some (.inl o3_0)) (fun (o3_1:Unit) =>
      some (.inr ()))) o3)
    else (
     (zav_p1 x3_ (decide (x3_=(11:Int)))).bind fun o4=>(Sum.elim (fun (o4_0:Int) =>
      some (.inl o4_0)) (fun (o4_1:Unit) =>
      some (.inr ()))) o4))))
def zav_s (a:Int):Option Int :=
 bif decide (a=(1:Int)) then (
  (zav_p0 a (decide (a=(1:Int)))).bind fun o5=>(Sum.elim (fun (o5_0:Int) =>
   some o5_0) (fun (o5_1:Unit) =>
   some (0:Int))) o5)
 else (
  bif decide (a=(4:Int)) then (
   (zav_p0 a (decide (a=(4:Int)))).bind fun o6=>(Sum.elim (fun (o6_0:Int) =>
    some o6_0) (fun (o6_1:Unit) =>
    some (0:Int))) o6)
  else (
   bif decide (a=(7:Int)) then (
    (zav_p0 a (decide (a=(7:Int)))).bind fun o7=>(Sum.elim (fun (o7_0:Int) =>
     some o7_0) (fun (o7_1:Unit) =>
     some (0:Int))) o7)
   else (
    (zav_p0 a (decide (a=(10:Int)))).bind fun o8=>(Sum.elim (fun (o8_0:Int) =>
     some o8_0) (fun (o8_1:Unit) =>
     some (0:Int))) o8)))
def zav_G:Nat→Option CQ:=tblQ []
def zav_d1:=(dQS (qAa (dSO 3 dZ) (qAa (dSO 9 dB) dNil)) dNil)
def zav_l1:SubQ:=mkL zav_d1 (fun x=>zav_p1 x.1.1 x.1.2.1) fun x r R kn kx kr=>(Sum.elim (fun (r_0:Int)=>kr ⟨[sL 2 (.vI r_0)],[],[]⟩) (fun (r_1:Unit)=>kn ⟨[],[],[]⟩)) r
def zav_d0:=(dQS (qAa (dSO 3 dZ) (qAa (dSO 4 dB) dNil)) dNil)
def zav_l0:SubQ:=mkL zav_d0 (fun x=>zav_p0 x.1.1 x.1.2.1) fun x r R kn kx kr=>(Sum.elim (fun (r_0:Int)=>kr ⟨[sL 2 (.vI r_0)],[],[]⟩) (fun (r_1:Unit)=>kn ⟨[],[],[]⟩)) r
def zav_L:Nat→SubQ:=tblL [(1,zav_l1),(0,zav_l0)]
theorem zav_sub1:qA0 zav_L zav_G 0 4 19 1 zav_b1:=qAh (show zav_L 1=zav_l1 from by kernel_rfl) fun x R kn kx kr=>by
 simp only [zav_p1,-eq_self,sZ];kernel_rfl
theorem zav_sub0:qA0 zav_L zav_G 0 4 19 0 zav_b0:=qAh (show zav_L 0=zav_l0 from by kernel_rfl) fun x R kn kx kr=>by
 simp only [zav_p0,-eq_self,sZ];kernel_rfl
def zav_c:CS:=mkC (qAa (dVC (dCO dZ)) dNil) dNil (fun x y=>zav_s x.1) (fun x y r=>.c (.o (.vI r))) fun x y r=>[]
theorem zav_val:qAf Tryz.prog 29 zav_c:=vl1 zav_q [.tmp 2] 19 4 0 (show qA3 zav_L zav_G 0 4 19 [(0,zav_b0),(1,zav_b1)] from ⟨zav_sub0,zav_sub1,tV⟩) (fun f C h=>by cases h) fun x y=>by
 simp only [zav_s,-eq_self,sZ];kernel_rfl
def zav_w:CQ:=qCc [] zav_c
theorem zav_ok:qAe Tryz.prog 29 zav_w:=qAn zav_val
def zab_b0:IQ:=(.loop [0,1,5] (.join [(1000000,none,.u8,0)] [0,1,5] (.seq (.seq (rg 15 [oM 13 t0,oP 14 (.len t13),oP 15 (.bi .geq t14 (vI 3))]) (.cond t15 .skip (.cn [0,1,5] (.exit 0)))) (.block 1 (.seq (.reg 6 (some [0,1,2,3,4,5,6,7,8,9,10,11,12,13,14,15,16]) [oM 16 t0,oP 17 (.iaddr 1 t16 (vI 0)),oP 18 (.load none t17),oP 19 (.conv false .u64 t18),oP 20 (.bi .shl t19 (.v (.int .u64 16))),oM 21 t0,oP 22 (.iaddr 1 t21 (vI 1)),oP 23 (.load none t22),oP 24 (.conv false .u64 t23),oP 25 (.bi .shl t24 (.v (.int .u64 8))),oP 26 (.bi .or t20 t25),oM 27 t0,oP 28 (.iaddr 1 t27 (vI 2)),oP 29 (.load none t28),oP 30 (.conv false .u64 t29),oP 31 (.bi .or t26 t30),oM 6 t31]) (.seq (.reg 5 (some [0,1,2,3,4,5,6,7,8,9,10,11,12,13,14,15,16,17,18,19,20,21]) [oM 32 t5,oM 33 t1,oM 34 t6,oP 35 (.bi .shr t34 (.v (.int .u64 18))),oP 36 (.index t33 t35),oM 37 t1,oM 38 t6,oP 39 (.bi .shr t38 (.v (.int .u64 12))),oP 40 (.bi .and t39 (.v (.int .u64 63))),oP 41 (.index t37 t40),oM 42 t1,oM 43 t6,oP 44 (.bi .shr t43 (.v (.int .u64 6))),oP 45 (.bi .and t44 (.v (.int .u64 63))),oP 46 (.index t42 t45),oM 47 t1,oM 48 t6,oP 49 (.bi .and t48 (.v (.int .u64 63))),oP 50 (.index t47 t49),oP 51 (.bslice 5 1 4 [.int .u8 0] [(0,t36),(1,t41),(2,t46),(3,t50)]),oP 52 (.append 5 1 1 [.int .u8 0] t32 t51),oM 5 t52]) (rg 0 [oM 53 t0,oP 54 (.sub (some 1) t53 (some (vI 3)) none),oM 0 t54])))))))
def zab_q:IQ:=(.seq (rg 4 [oP 4 (.mv (.v (.slice none 0 0)))]) (.seq (rg 5 [oM 7 t0,oP 8 (.len t7),oP 9 (.bi .add t8 (vI 2)),oP 10 (.bi .quo t9 (vI 3)),oP 11 (.bi .mul t10 (vI 4)),oP 12 (.ext (.mkslice 5 1 1 [.int .u8 0]) [(vI 0),t11]),oM 5 t12]) (.seq (.block 0 (.canon [(1000000,none,.u8,0)] [0,1,5] (.sub 0 zab_b0))) (.seq (.seq (rg 56 [oM 55 t0,oP 56 (.len t55)]) (.block 2 (.seq (rg 57 [oP 58 (.bi .eql t56 (vI 2)),oM 57 t58]) (.cond t57 (.reg 5 (some [0,1,2,3,4,5,6,7,8,9,10,11,12,13,14,15,16,17,18,19,20,21,22,23,24,25,26,27,28]) [oM 59 t5,oM 60 t1,oM 61 t0,oP 62 (.iaddr 1 t61 (vI 0)),oP 63 (.load none t62),oP 64 (.bi .shr t63 (.v (.int .u64 2))),oP 65 (.index t60 t64),oM 66 t1,oM 67 t0,oP 68 (.iaddr 1 t67 (vI 0)),oP 69 (.load none t68),oP 70 (.bi .and t69 (vC 3)),oP 71 (.bi .shl t70 (.v (.int .u64 4))),oM 72 t0,oP 73 (.iaddr 1 t72 (vI 1)),oP 74 (.load none t73),oP 75 (.bi .shr t74 (.v (.int .u64 4))),oP 76 (.bi .or t71 t75),oP 77 (.index t66 t76),oM 78 t1,oM 79 t0,oP 80 (.iaddr 1 t79 (vI 1)),oP 81 (.load none t80),oP 82 (.bi .and t81 (vC 15)),oP 83 (.bi .shl t82 (.v (.int .u64 2))),oP 84 (.index t78 t83),oP 85 (.bslice 5 1 3 [.int .u8 0] [(0,t65),(1,t77),(2,t84)]),oP 86 (.append 5 1 1 [.int .u8 0] t59 t85),oM 5 t86]) (.seq (rg 87 [oP 88 (.bi .eql t56 (vI 1)),oM 87 t88]) (.cond t87 (.reg 5 (some [0,1,2,3,4,5,6,7,8,9,10,11,12,13,14,15,16]) [oM 89 t5,oM 90 t1,oM 91 t0,oP 92 (.iaddr 1 t91 (vI 0)),oP 93 (.load none t92),oP 94 (.bi .shr t93 (.v (.int .u64 2))),oP 95 (.index t90 t94),oM 96 t1,oM 97 t0,oP 98 (.iaddr 1 t97 (vI 0)),oP 99 (.load none t98),oP 100 (.bi .and t99 (vC 3)),oP 101 (.bi .shl t100 (.v (.int .u64 4))),oP 102 (.index t96 t101),oP 103 (.bslice 5 1 2 [.int .u8 0] [(0,t95),(1,t102)]),oP 104 (.append 5 1 1 [.int .u8 0] t89 t103),oM 5 t104]) .skip)))))) (.seq (rg 4 [oM 105 t5,oM 4 t105]) (.canon [(4,none,.u8,5)] [4] .ret))))))
def qAl (b2:List Int) :=
 (qCg .u64 (qCg .u64 ((((b2.getD (Int.toNat (0:Int)) (ET.dft .u8)) % 18446744073709551616)*65536) % 18446744073709551616) ((((b2.getD (Int.toNat (1:Int)) (ET.dft .u8)) % 18446744073709551616)*256) % 18446744073709551616)) ((b2.getD (Int.toNat (2:Int)) (ET.dft .u8)) % 18446744073709551616))
def qE6 (signs:BA) (b2 out:List Int):Option (((List Int) × (List Int)) ⊕ ((List Int) × (List Int))) :=
 bif decide ((3:Int)≤(b2.length:Int)) then (
  gd (0≤(0:Int)∧(0:Int)<b2.length) <|
  gd ((Int.toNat (0:Int))<b2.length) <|
  gd (0≤(16:Int)) <|
  gd (0≤(1:Int)∧(1:Int)<b2.length) <|
  gd ((Int.toNat (1:Int))<b2.length) <|
  gd (0≤(8:Int)) <|
  gd (0≤(2:Int)∧(2:Int)<b2.length) <|
  gd ((Int.toNat (2:Int))<b2.length) <|
  gd (0≤(18:Int)) <|
  gd (0≤((qAl b2) / 262144)∧((qAl b2) / 262144)<signs.size) <|
  gd (0≤(12:Int)) <|
  gd (0≤(qAm .u64 ((qAl b2) / 4096) (63:Int))∧(qAm .u64 ((qAl b2) / 4096) (63:Int))<signs.size) <|
  gd (0≤(6:Int)) <|
  gd (0≤(qAm .u64 ((qAl b2) / 64) (63:Int))∧(qAm .u64 ((qAl b2) / 64) (63:Int))<signs.size) <|
  gd (0≤(qAm .u64 (qAl b2) (63:Int))∧(qAm .u64 (qAl b2) (63:Int))<signs.size) <|
  gd (out.length+([(bAt signs ((qAl b2) / 262144)),(bAt signs (qAm .u64 ((qAl b2) / 4096) (63:Int))),(bAt signs (qAm .u64 ((qAl b2) / 64) (63:Int))),(bAt signs (qAm .u64 (qAl b2) (63:Int)))]:List Int).length≤9223372036854775807∧(out.length+([(bAt signs ((qAl b2) / 262144)),(bAt signs (qAm .u64 ((qAl b2) / 4096) (63:Int))),(bAt signs (qAm .u64 ((qAl b2) / 64) (63:Int))),(bAt signs (qAm .u64 (qAl b2) (63:Int)))]:List Int).length)*1≤140737488355328) <|
  gd (0≤(3:Int)∧(3:Int)≤(b2.length:Int)∧(b2.length:Int)≤b2.length) <|
  some (.inl (((b2.take b2.length).drop 3),(out++[(bAt signs ((qAl b2) / 262144)),(bAt signs (qAm .u64 ((qAl b2) / 4096) (63:Int))),(bAt signs (qAm .u64 ((qAl b2) / 64) (63:Int))),(bAt signs (qAm .u64 (qAl b2) (63:Int)))]))))
 else (
  some (.inr (b2,out)))
def zab_p0 (signs:BA) (b2 out:List Int):Option ((List Int) × (List Int)) :=
 qAt (fun x:((List Int) × (List Int))=>qE6 signs x.1 x.2) (b2,out)
def zab_s (b:(List Int)) (signs:BA):Option ((List Int)) :=
 gd (qAc ((b.length:Int)+(2:Int))) <|
 gd (0≤((b.length:Int)+(2:Int))∧((b.length:Int)+(2:Int))≤9223372036854775807∧1≤(3:Int)) <|
 gd (qAc ((((b.length:Int)+(2:Int)) / (3:Int))*(4:Int))) <|
 gd (0≤(0:Int)∧(0:Int)≤((((b.length:Int)+(2:Int)) / (3:Int))*(4:Int))∧((((b.length:Int)+(2:Int)) / (3:Int))*(4:Int))≤9223372036854775807∧((((b.length:Int)+(2:Int)) / (3:Int))*(4:Int))*1≤140737488355328) <|
 (zab_p0 signs b []).bind fun o1 =>
 bif decide ((o1.1.length:Int)=(2:Int)) then (
  gd (0≤(0:Int)∧(0:Int)<o1.1.length) <|
  gd ((Int.toNat (0:Int))<o1.1.length) <|
  gd (0≤(2:Int)) <|
  gd (0≤((o1.1.getD (Int.toNat (0:Int)) (ET.dft .u8)) / 4)∧((o1.1.getD (Int.toNat (0:Int)) (ET.dft .u8)) / 4)<signs.size) <|
  gd (0≤(0:Int)∧(0:Int)<o1.1.length) <|
  gd ((Int.toNat (0:Int))<o1.1.length) <|
  gd (0≤(4:Int)) <|
  gd (0≤(1:Int)∧(1:Int)<o1.1.length) <|
  gd ((Int.toNat (1:Int))<o1.1.length) <|
  gd (0≤(4:Int)) <|
  gd (0≤(qCg .u8 (((qAm .u8 (o1.1.getD (Int.toNat (0:Int)) (ET.dft .u8)) (3:Int))*16) % 256) ((o1.1.getD (Int.toNat (1:Int)) (ET.dft .u8)) / 16))∧(qCg .u8 (((qAm .u8 (o1.1.getD (Int.toNat (0:Int)) (ET.dft .u8)) (3:Int))*16) % 256) ((o1.1.getD (Int.toNat (1:Int)) (ET.dft .u8)) / 16))<signs.size) <|
  gd (0≤(1:Int)∧(1:Int)<o1.1.length) <|
  gd ((Int.toNat (1:Int))<o1.1.length) <|
  gd (0≤(2:Int)) <|
  gd (0≤(((qAm .u8 (o1.1.getD (Int.toNat (1:Int)) (ET.dft .u8)) (15:Int))*4) % 256)∧(((qAm .u8 (o1.1.getD (Int.toNat (1:Int)) (ET.dft .u8)) (15:Int))*4) % 256)<signs.size) <|
  gd (o1.2.length+([(bAt signs ((o1.1.getD (Int.toNat (0:Int)) (ET.dft .u8)) / 4)),(bAt signs (qCg .u8 (((qAm .u8 (o1.1.getD (Int.toNat (0:Int)) (ET.dft .u8)) (3:Int))*16) % 256) ((o1.1.getD (Int.toNat (1:Int)) (ET.dft .u8)) / 16))),(bAt signs (((qAm .u8 (o1.1.getD (Int.toNat (1:Int)) (ET.dft .u8)) (15:Int))*4) % 256))]:List Int).length≤9223372036854775807∧(o1.2.length+([(bAt signs ((o1.1.getD (Int.toNat (0:Int)) (ET.dft .u8)) / 4)),(bAt signs (qCg .u8 (((qAm .u8 (o1.1.getD (Int.toNat (0:Int)) (ET.dft .u8)) (3:Int))*16) % 256) ((o1.1.getD (Int.toNat (1:Int)) (ET.dft .u8)) / 16))),(bAt signs (((qAm .u8 (o1.1.getD (Int.toNat (1:Int)) (ET.dft .u8)) (15:Int))*4) % 256))]:List Int).length)*1≤140737488355328) <|
  some (o1.2++[(bAt signs ((o1.1.getD (Int.toNat (0:Int)) (ET.dft .u8)) / 4)),(bAt signs (qCg .u8 (((qAm .u8 (o1.1.getD (Int.toNat (0:Int)) (ET.dft .u8)) (3:Int))*16) % 256) ((o1.1.getD (Int.toNat (1:Int)) (ET.dft .u8)) / 16))),(bAt signs (((qAm .u8 (o1.1.getD (Int.toNat (1:Int)) (ET.dft .u8)) (15:Int))*4) % 256))]))
 else (
  bif decide ((o1.1.length:Int)=(1:Int)) then (
   gd (0≤(0:Int)∧(0:Int)<o1.1.length) <|
   gd ((Int.toNat (0:Int))<o1.1.length) <|
   gd (0≤(2:Int)) <|
   gd (0≤((o1.1.getD (Int.toNat (0:Int)) (ET.dft .u8)) / 4)∧((o1.1.getD (Int.toNat (0:Int)) (ET.dft .u8)) / 4)<signs.size) <|
   gd (0≤(0:Int)∧(0:Int)<o1.1.length) <|
   gd ((Int.toNat (0:Int))<o1.1.length) <|
   gd (0≤(4:Int)) <|
   gd (0≤(((qAm .u8 (o1.1.getD (Int.toNat (0:Int)) (ET.dft .u8)) (3:Int))*16) % 256)∧(((qAm .u8 (o1.1.getD (Int.toNat (0:Int)) (ET.dft .u8)) (3:Int))*16) % 256)<signs.size) <|
   gd (o1.2.length+([(bAt signs ((o1.1.getD (Int.toNat (0:Int)) (ET.dft .u8)) / 4)),(bAt signs (((qAm .u8 (o1.1.getD (Int.toNat (0:Int)) (ET.dft .u8)) (3:Int))*16) % 256))]:List Int).length≤9223372036854775807∧(o1.2.length+([(bAt signs ((o1.1.getD (Int.toNat (0:Int)) (ET.dft .u8)) / 4)),(bAt signs (((qAm .u8 (o1.1.getD (Int.toNat (0:Int)) (ET.dft .u8)) (3:Int))*16) % 256))]:List Int).length)*1≤140737488355328) <|
   some (o1.2++[(bAt signs ((o1.1.getD (Int.toNat (0:Int)) (ET.dft .u8)) / 4)),(bAt signs (((qAm .u8 (o1.1.getD (Int.toNat (0:Int)) (ET.dft .u8)) (3:Int))*16) % 256))]))
  else (
   some o1.2))
def zab_G:Nat→Option CQ:=tblQ []
def zab_d0:=(dQS (qAa (dSO 0 (dO 1)) (qAa (dSO 1 dS) (qAa (dSO 5 (dO 2)) dNil))) (qAa (qBa .u8) (qAa (qBa .u8) (qAa (dRow .u8 5) dNil))))
def zab_l0:SubQ:=mkL zab_d0 (fun x=>zab_p0 x.1.2.1 x.2.2.1 x.2.2.2.1) fun x r R kn kx kr=>kx 0 ⟨[sL 0 (.own 1),sL 1 (.vS x.1.2.1),sL 5 (.own 2)],[],[.view .u8 x.2.1,.view .u8 r.1,.row .u8 5 r.2]⟩
def zab_L:Nat→SubQ:=tblL [(0,zab_l0)]
theorem zab_sub0:qA0 zab_L zab_G 1 57 106 0 zab_b0:=qAh (show zab_L 0=zab_l0 from by kernel_rfl) fun x R kn kx kr=>qAg (step:=fun y=>qE6 x.1.2.1 y.1 y.2) (enc:=fun (y:(List Int) × (List Int))=>zab_d0.e (x.1,(x.2.1,y.1,y.2,x.2.2.2.2))) (fun y=>by kernel_rfl) (fun y ki=>by simp only [qE6,-eq_self,sZ]; kernel_rfl) (x.2.2.1,x.2.2.2.1)
def zab_c:CS:=mkC (qAa (dVC (dCO (dO 0))) (qAa (dVC (dCO dS)) dNil)) (qAa (qBa .u8) dNil) (fun x y=>zab_s y.1 x.2.1) (fun x y r=>.c (.o (.own 1))) fun x y r=>[.view .u8 y.1,.row .u8 5 r]
theorem zab_val:qAf Tryz.prog 45 zab_c:=vl1 zab_q [.tmp 4] 106 57 1 (show qA3 zab_L zab_G 1 57 106 [(0,zab_b0)] from ⟨zab_sub0,tV⟩) (fun f C h=>by cases h) fun x y=>by
 simp only [zab_s,-eq_self,sZ];kernel_rfl
def zab_w:CQ:=qBs [(0,none,some (.u8,5))] (qB4 [false] zab_c)
theorem zab_ok:qAe Tryz.prog 45 zab_w:=qAv zab_val
def zaa_q:IQ:=(.seq (rg 2 [oP 2 (.mv (.v (.string ⟨#[]⟩)))]) (.seq (rg 2 [oM 3 t0,oP 4 (.call 45 [t3,(.v (.string ⟨#[65,66,67,68,69,70,71,72,73,74,75,76,77,78,79,80,81,82,83,84,85,86,87,88,89,90,97,98,99,100,101,102,103,104,105,106,107,108,109,110,111,112,113,114,115,116,117,118,119,120,121,122,48,49,50,51,52,53,54,55,56,57,45,95]⟩))]),oP 5 (.ext .toStr [t4]),oM 2 t5]) (.cn [2] .ret)))
def zaa_s (b:(List Int)):Option BA :=
 (zab_s b (⟨#[65,66,67,68,69,70,71,72,73,74,75,76,77,78,79,80,81,82,83,84,85,86,87,88,89,90,97,98,99,100,101,102,103,104,105,106,107,108,109,110,111,112,113,114,115,116,117,118,119,120,121,122,48,49,50,51,52,53,54,55,56,57,45,95]⟩:BA)).bind fun r1 =>
 some (qF7 r1)
def zaa_c:CS:=mkC (qAa (dVC (dCO (dO 0))) dNil) (qAa (qBa .u8) dNil) (fun x y=>zaa_s y.1) (fun x y r=>.c (.o (.vS r))) fun x y r=>[.view .u8 y.1]
theorem zaa_val:qAf Tryz.prog 30 zaa_c:=vl0 zaa_q [.tmp 2] 6 3 1 [(45,zab_w)] ⟨zab_ok,tV⟩ fun x y=>by
 simp only [zaa_s,-eq_self,sZ];kernel_rfl
def zaa_w:CQ:=qBs [(0,none,some (.u8,5))] (qCc [false] zaa_c)
theorem zaa_ok:qAe Tryz.prog 30 zaa_w:=qB3 zaa_val
def zaj_q:IQ:=(.seq (rg 5 [oP 4 (.mv (.v (.string ⟨#[]⟩))),oP 5 (.mv (vI 0))]) (.seq (rg 6 [oM 7 t0,oP 8 (.call 29 [t7]),oM 6 t8]) (.seq (.seq (rg 10 [oM 9 t6,oP 10 (.bi .eql t9 (vI 0))]) (.cond t10 (.seq (rg 5 [oP 4 (.mv (.v (.string ⟨#[]⟩))),oP 5 (.mv (vI 111))]) (.cn [4,5] .ret)) .skip)) (.seq (rg 5 [oM 11 t6,oM 12 t1,oP 13 (.ext (.toBytes 5) [t12]),oP 14 (.bslice 65 1 1 [.slice none 0 0] [(0,t13)]),oP 15 (.call 31 [t11,t14]),oM 16 t6,oP 17 (.call 32 [t16]),oP 18 (.bi .quo t17 (vI 2)),oP 19 (.sub (some 1) t15 none (some t18)),oP 20 (.call 30 [t19]),oM 4 t20,oP 5 (.mv (vI 0))]) (.cn [4,5] .ret)))))
def zaj_s (a:Int) (text:BA):Option (BA × Int) :=
 (zav_s a).bind fun r1 =>
 bif decide (r1=(0:Int)) then (
  some ((⟨#[]⟩:BA),(111:Int)))
 else (
  bif decide (r1=(1:Int)) then (
   gd (0≤(0:Int)∧(0:Int)<((1:Nat):Int)) <|
   (zbv_s (⟨r1,(nrm 8 shaS256),(nrm 8 ([]:List Int)),(nrm 128 ([]:List Int)),(0:Int)⟩:qGy) (qCk text)).bind fun r2 =>
   gd (qAc ((0:Int)+(1:Int))) <|
   (zbu_s (⟨r2.hash,(nrm 8 r2.short),(nrm 8 r2.long),(nrm 128 r2.rest),r2.n⟩:qGy)).bind fun r3 =>
   (zbt_s r1).bind fun r4 =>
   gd (0≤r4∧r4≤9223372036854775807∧1≤(2:Int)) <|
   gd (0≤(r4 / (2:Int))∧(r4 / (2:Int))≤r3.2.length) <|
   (zaa_s (r3.2.take (Int.toNat (r4 / (2:Int))))).bind fun r5 =>
   some (r5,(0:Int)))
  else (
   bif decide (r1=(2:Int)) then (
    gd (0≤(0:Int)∧(0:Int)<((1:Nat):Int)) <|
    (zbv_s (⟨r1,(nrm 8 ([]:List Int)),(nrm 8 shaS384),(nrm 128 ([]:List Int)),(0:Int)⟩:qGy) (qCk text)).bind fun r6 =>
    gd (qAc ((0:Int)+(1:Int))) <|
    (zbu_s (⟨r6.hash,(nrm 8 r6.short),(nrm 8 r6.long),(nrm 128 r6.rest),r6.n⟩:qGy)).bind fun r7 =>
    (zbt_s r1).bind fun r8 =>
    gd (0≤r8∧r8≤9223372036854775807∧1≤(2:Int)) <|
    gd (0≤(r8 / (2:Int))∧(r8 / (2:Int))≤r7.2.length) <|
    (zaa_s (r7.2.take (Int.toNat (r8 / (2:Int))))).bind fun r9 =>
    some (r9,(0:Int)))
   else (
    bif decide (r1=(3:Int)) then (
     gd (0≤(0:Int)∧(0:Int)<((1:Nat):Int)) <|
     (zbv_s (⟨r1,(nrm 8 ([]:List Int)),(nrm 8 shaS512),(nrm 128 ([]:List Int)),(0:Int)⟩:qGy) (qCk text)).bind fun r10 =>
     gd (qAc ((0:Int)+(1:Int))) <|
     (zbu_s (⟨r10.hash,(nrm 8 r10.short),(nrm 8 r10.long),(nrm 128 r10.rest),r10.n⟩:qGy)).bind fun r11 =>
     (zbt_s r1).bind fun r12 =>
     gd (0≤r12∧r12≤9223372036854775807∧1≤(2:Int)) <|
     gd (0≤(r12 / (2:Int))∧(r12 / (2:Int))≤r11.2.length) <|
     (zaa_s (r11.2.take (Int.toNat (r12 / (2:Int))))).bind fun r13 =>
     some (r13,(0:Int)))
    else (
     (zbt_s r1).bind fun r14 =>
     gd (0≤r14∧r14≤9223372036854775807∧1≤(2:Int)) <|
     none))))
def sha_New_46_iq:IQ :=
 (.seq
 (.reg 2 none [
  ⟨(some 2),.mv (.v (.pointer none)),none⟩])
 (.seq
 (.reg 3 none [
  ⟨(some 4),.mv (.t 0),none⟩,
  ⟨(some 5),.build [.int .i64 0,.int .u32 0,.int .u32 0,.int .u32 0,.int .u32 0,.int .u32 0,.int .u32 0,.int .u32 0,.int .u32 0,.int .u64 0,.int .u64 0,.int .u64 0,.int .u64 0,.int .u64 0,.int .u64 0,.int .u64 0,.int .u64 0,.int .u8 0,.int .u8 0,.int .u8 0,.int .u8 0,.int .u8 0,.int .u8 0,.int .u8 0,.int .u8 0,.int .u8 0,.int .u8 0,.int .u8 0,.int .u8 0,.int .u8 0,.int .u8 0,.int .u8 0,.int .u8 0,.int .u8 0,.int .u8 0,.int .u8 0,.int .u8 0,.int .u8 0,.int .u8 0,.int .u8 0,.int .u8 0,.int .u8 0,.int .u8 0,.int .u8 0,.int .u8 0,.int .u8 0,.int .u8 0,.int .u8 0,.int .u8 0,.int .u8 0,.int .u8 0,.int .u8 0,.int .u8 0,.int .u8 0,.int .u8 0,.int .u8 0,.int .u8 0,.int .u8 0,.int .u8 0,.int .u8 0,.int .u8 0,.int .u8 0,.int .u8 0,.int .u8 0,.int .u8 0,.int .u8 0,.int .u8 0,.int .u8 0,.int .u8 0,.int .u8 0,.int .u8 0,.int .u8 0,.int .u8 0,.int .u8 0,.int .u8 0,.int .u8 0,.int .u8 0,.int .u8 0,.int .u8 0,.int .u8 0,.int .u8 0,.int .u8 0,.int .u8 0,.int .u8 0,.int .u8 0,.int .u8 0,.int .u8 0,.int .u8 0,.int .u8 0,.int .u8 0,.int .u8 0,.int .u8 0,.int .u8 0,.int .u8 0,.int .u8 0,.int .u8 0,.int .u8 0,.int .u8 0,.int .u8 0,.int .u8 0,.int .u8 0,.int .u8 0,.int .u8 0,.int .u8 0,.int .u8 0,.int .u8 0,.int .u8 0,.int .u8 0,.int .u8 0,.int .u8 0,.int .u8 0,.int .u8 0,.int .u8 0,.int .u8 0,.int .u8 0,.int .u8 0,.int .u8 0,.int .u8 0,.int .u8 0,.int .u8 0,.int .u8 0,.int .u8 0,.int .u8 0,.int .u8 0,.int .u8 0,.int .u8 0,.int .u8 0,.int .u8 0,.int .u8 0,.int .u8 0,.int .u8 0,.int .u8 0,.int .u8 0,.int .u8 0,.int .u8 0,.int .u8 0,.int .u8 0,.int .u8 0,.int .u8 0,.int .u8 0,.int .u8 0,.int .u8 0,.int .u8 0,.int .u8 0,.int .u8 0,.int .u64 0] [(0,1,(.t 4))],none⟩,
  ⟨(some 6),.box 104 146 (.t 5),none⟩,
  ⟨(some 3),.mv (.t 6),none⟩])
 (.seq
 (.seq
 (.reg 7 none [
  ⟨(some 7),.mv (.t 0),none⟩])
 (.block 0
  (.seq
  (.reg 8 none [
   ⟨(some 9),.bin false .eql (.t 7) (.v (.int .i64 1)),none⟩,
   ⟨(some 8),.mv (.t 9),none⟩])
  (.cond (.t 8)
   (.reg 0 none [
    ⟨(some 10),.mv (.t 3),none⟩,
    ⟨(some 11),.load (some 8) (.v (.pointer (some ⟨0,0,none⟩))),none⟩,
    ⟨(some 12),.ext .nilck [(.t 10)],none⟩,
    ⟨(some 13),.faddr 1 (.t 12),none⟩,
    ⟨none,.store 8 (.t 13) (.t 11),none⟩])
   (.seq
   (.reg 14 none [
    ⟨(some 15),.bin false .eql (.t 7) (.v (.int .i64 2)),none⟩,
    ⟨(some 14),.mv (.t 15),none⟩])
   (.cond (.t 14)
    (.reg 0 none [
     ⟨(some 16),.mv (.t 3),none⟩,
     ⟨(some 17),.load (some 8) (.v (.pointer (some ⟨1,0,none⟩))),none⟩,
     ⟨(some 18),.ext .nilck [(.t 16)],none⟩,
     ⟨(some 19),.faddr 9 (.t 18),none⟩,
     ⟨none,.store 8 (.t 19) (.t 17),none⟩])
    (.seq
    (.reg 20 none [
     ⟨(some 21),.bin false .eql (.t 7) (.v (.int .i64 3)),none⟩,
     ⟨(some 20),.mv (.t 21),none⟩])
    (.cond (.t 20)
     (.reg 0 none [
      ⟨(some 22),.mv (.t 3),none⟩,
      ⟨(some 23),.load (some 8) (.v (.pointer (some ⟨2,0,none⟩))),none⟩,
      ⟨(some 24),.ext .nilck [(.t 22)],none⟩,
      ⟨(some 25),.faddr 9 (.t 24),none⟩,
      ⟨none,.store 8 (.t 25) (.t 23),none⟩])
     (.seq
     (.reg 2 none [
      ⟨(some 2),.mv (.v (.pointer none)),none⟩])
     .ret)))))))))
 (.seq
 (.reg 2 none [
  ⟨(some 26),.mv (.t 3),none⟩,
  ⟨(some 2),.mv (.t 26),none⟩])
 .ret))))
theorem sha_New_46_ichk:chk Tryz.prog 46 []=some (sha_New_46_iq.erase,[.tmp 2],27):=by kernel_rfl
def zaj_i31_i46_G:Nat→Option CQ:=tblQ []
theorem zaj_i31_i46_Gok:∀f C,zaj_i31_i46_G f=some C→qAe Tryz.prog f C:=fun f C h=>by cases h
def zaj_i31_i46:CQ:=inlQ zaj_i31_i46_G 8 27 sha_New_46_iq [.tmp 2]
theorem zaj_i31_i46_ok:qAe Tryz.prog 46 zaj_i31_i46:=inl_valid sha_New_46_ichk (by kernel_rfl) 8 zaj_i31_i46_Gok (by kernel_rfl)
def sha_Sum_31_iq:IQ :=
 (.seq
 (.reg 4 none [
  ⟨(some 4),.mv (.v (.slice none 0 0)),none⟩])
 (.seq
 (.reg 5 none [
  ⟨(some 8),.mv (.t 0),none⟩,
  ⟨(some 9),.call 46 [(.t 8)],none⟩,
  ⟨(some 5),.mv (.t 9),none⟩])
 (.seq
 (.seq
 (.reg 11 none [
  ⟨(some 10),.mv (.t 5),none⟩,
  ⟨(some 11),.ext (.ptrEq false) [(.t 10),(.v (.pointer none))],none⟩])
 (.cond (.t 11)
  (.seq
  (.reg 4 none [
   ⟨(some 4),.mv (.v (.slice none 0 0)),none⟩])
  .ret)
  .skip))
 (.seq
 (.seq
 (.reg 14 none [
  ⟨(some 12),.mv (.t 1),none⟩,
  ⟨(some 13),.len (.t 12),none⟩,
  ⟨(some 14),.mv (.v (.int .i64 0)),none⟩])
 (.block 0
  (.unroll 3
   (.seq
   (.reg 15 none [
    ⟨(some 15),.bin false .lss (.t 14) (.t 13),none⟩])
   (.seq
   (.cond (.t 15)
    .skip
    (.exit 0))
   (.seq
   (.block 1
    (.seq
    (.reg 7 none [
     ⟨(some 16),.iaddr 1 (.t 12) (.t 14),none⟩,
     ⟨(some 17),.load none (.t 16),none⟩,
     ⟨(some 7),.mv (.t 17),none⟩])
    (.reg 20 none [
     ⟨(some 18),.mv (.t 5),none⟩,
     ⟨(some 19),.mv (.t 7),none⟩,
     ⟨(some 20),.call 47 [(.t 18),(.t 19)],none⟩])))
   (.reg 14 none [
    ⟨(some 21),.bin false .add (.t 14) (.v (.int .i64 1)),none⟩,
    ⟨(some 14),.mv (.t 21),none⟩])))))))
 (.seq
 (.reg 4 none [
  ⟨(some 22),.mv (.t 5),none⟩,
  ⟨(some 23),.call 48 [(.t 22)],none⟩,
  ⟨(some 4),.mv (.t 23),none⟩])
 .ret)))))
theorem sha_Sum_31_ichk:chk Tryz.prog 31 []=some (sha_Sum_31_iq.erase,[.tmp 4],24):=by kernel_rfl
def zaj_i31_G:Nat→Option CQ:=tblQ [(46,zaj_i31_i46),(47,zbv_w),(48,zbu_w)]
theorem zaj_i31_Gok:∀f C,zaj_i31_G f=some C→qAe Tryz.prog f C:=qAq ⟨zaj_i31_i46_ok,zbv_ok,zbu_ok,tV⟩
def zaj_i31:CQ:=inlQ zaj_i31_G 15 24 sha_Sum_31_iq [.tmp 4]
theorem zaj_i31_ok:qAe Tryz.prog 31 zaj_i31:=inl_valid sha_Sum_31_ichk (by kernel_rfl) 15 zaj_i31_Gok (by kernel_rfl)
def zaj_c:CS:=mkC (qAa (dVC (dCO dZ)) (qAa (dVC (dCO dS)) dNil)) dNil (fun x y=>zaj_s x.1 x.2.1) (fun x y r=>.tup [.o (.vS r.1),.o (.vI r.2)]) fun x y r=>[]
theorem zaj_val:qAf Tryz.prog 12 zaj_c:=vl0 zaj_q [.tmp 4,.tmp 5] 21 7 0 [(29,zav_w),(31,zaj_i31),(32,zbt_w),(30,zaa_w)] ⟨zav_ok,zaj_i31_ok,zbt_ok,zaa_ok,tV⟩ fun x y=>by
 simp only [zaj_s,-eq_self,sZ];kernel_rfl
def zaj_w:CQ:=qCc [] zaj_c
theorem zaj_ok:qAe Tryz.prog 12 zaj_w:=qAn zaj_val
end
theorem of64 {n:Nat} (hn:n<18446744073709551616):(BitVec.ofInt 64 (n:Int)).toNat=n:=by
 rw [BitVec.ofInt_natCast,BitVec.toNat_ofNat,Nat.mod_eq_of_lt (by omega)]
theorem of8 {n:Nat} (hn:n<256):(BitVec.ofInt 8 (n:Int)).toNat=n:=by
 rw [BitVec.ofInt_natCast,BitVec.toNat_ofNat,Nat.mod_eq_of_lt (by omega)]
theorem andM {n m:Nat} (hn:n<18446744073709551616) (hm:m<18446744073709551616):qAm .u64 (n:Int) (m:Int)=((n &&& m:Nat):Int):=by
 unfold qAm;show IntKind.u64.wrap ((BitVec.ofInt 64 (n:Int) &&& BitVec.ofInt 64 (m:Int)).toNat:Int)=_;rw [BitVec.toNat_and,of64 hn,of64 hm,u64_eq];have:n &&& m≤n:=Nat.and_le_left;omega
theorem orM {n m:Nat} (hn:n<18446744073709551616) (hm:m<18446744073709551616):qCg .u64 (n:Int) (m:Int)=((n ||| m:Nat):Int):=by
 unfold qCg;show IntKind.u64.wrap ((BitVec.ofInt 64 (n:Int) ||| BitVec.ofInt 64 (m:Int)).toNat:Int)=_
 rw [BitVec.toNat_or,of64 hn,of64 hm,u64_eq];have:n ||| m<2 ^ 64:=Nat.or_lt_two_pow hn hm
 omega
theorem and8 {n m:Nat} (hn:n<256) (hm:m<256):qAm .u8 (n:Int) (m:Int)=((n &&& m:Nat):Int):=by
 unfold qAm;show IntKind.u8.wrap ((BitVec.ofInt 8 (n:Int) &&& BitVec.ofInt 8 (m:Int)).toNat:Int)=_;rw [BitVec.toNat_and,of8 hn,of8 hm,u8_eq];have:n &&& m≤n:=Nat.and_le_left;omega
theorem or8 {n m:Nat} (hn:n<256) (hm:m<256):qCg .u8 (n:Int) (m:Int)=((n ||| m:Nat):Int):=by
 unfold qCg;show IntKind.u8.wrap ((BitVec.ofInt 8 (n:Int) ||| BitVec.ofInt 8 (m:Int)).toNat:Int)=_
 rw [BitVec.toNat_or,of8 hn,of8 hm,u8_eq];have:n ||| m<2 ^ 8:=Nat.or_lt_two_pow hn hm
 omega
theorem or_add (k a b:Nat) (hb:b<2 ^ k):2 ^ k*a ||| b=2 ^ k*a+b:=(Nat.two_pow_add_eq_or_of_lt hb a).symm
theorem and_low (k a:Nat):a &&& (2 ^ k - 1)=a % 2 ^ k:=Nat.and_two_pow_sub_one_eq_mod a k
def URL:BA:=⟨#[65,66,67,68,69,70,71,72,73,74,75,76,77,78,79,80,81,82,83,84,85,86,87,88,89,90,97,98,99,100,101,102,103,104,105,106,107,108,109,110,111,112,113,114,115,116,117,118,119,120,121,122,48,49,50,51,52,53,54,55,56,57,45,95]⟩
theorem URL_size:URL.size=64:=by decide
def sg (v:Nat):Int:=bAt URL (v:Int)
def nI (l:List Nat):List Int:=l.map (fun n:Nat=>(n:Int))
def tlT:List Nat→List Nat
 | _::_::_::r=>tlT r
 | l=>l
def h3:List Nat→List Nat
 | x::y::z::r=>x::y::z::h3 r
 | _=>[]
def e3:List Nat→List Nat
 | x::y::z::r=>(x*65536+y*256+z) / 262144::(x*65536+y*256+z) / 4096 % 64::(x*65536+y*256+z) / 64 % 64::(x*65536+y*256+z) % 64::e3 r
 | _=>[]
def eT:List Nat→List Nat
 | [x,y]=>[x / 4,x % 4*16+y / 16,y % 16*4]
 | [x]=>[x / 4,x % 4*16]
 | _=>[]
def encN (l:List Nat):List Nat:=e3 l++eT (tlT l)
theorem h3_tlT:∀l:List Nat,h3 l++tlT l=l
 | []=>rfl
 | [_]=>rfl
 | [_,_]=>rfl
 | x::y::z::r=>by
  show x::y::z::(h3 r++tlT r)=_;rw [h3_tlT r]
theorem tlT_len:∀l:List Nat,(tlT l).length<3
 | []=>by simp [tlT]
 | [_]=>by simp [tlT]
 | [_,_]=>by simp [tlT]
 | _::_::_::r=>tlT_len r
theorem tlT_in:∀l:List Nat,∀x∈tlT l,x∈l
 | [],x,h=>h
 | [_],x,h=>h
 | [_,_],x,h=>h
 | _::_::_::r,x,h=>List.mem_cons_of_mem _ (List.mem_cons_of_mem _ (List.mem_cons_of_mem _ (tlT_in r x h)))
theorem e3_len:∀l:List Nat,3*(e3 l).length=4*(h3 l).length
 | []=>rfl
 | [_]=>rfl
 | [_,_]=>rfl
 | _::_::_::r=>by
  have:=e3_len r;simp only [e3,h3,List.length_cons];omega
theorem e0_is {x y z:Nat} (hx:x<256) (hy:y<256) (hz:z<256) (r:List Nat):qAl (nI (x::y::z::r))=((x*65536+y*256+z:Nat):Int):=by
 show qCg .u64 (qCg .u64 ((((x:Int) % 18446744073709551616)*65536) % 18446744073709551616) ((((y:Int) % 18446744073709551616)*256) % 18446744073709551616)) ((z:Int) % 18446744073709551616)=_;rw [show (((x:Int) % 18446744073709551616)*65536) % 18446744073709551616=((2 ^ 16*x:Nat):Int) by omega,show (((y:Int) % 18446744073709551616)*256) % 18446744073709551616=((2 ^ 8*y:Nat):Int) by omega,show (z:Int) % 18446744073709551616=((z:Nat):Int) by omega];rw [orM (by omega) (by omega),or_add 16 x _ (by omega),show 2 ^ 16*x+2 ^ 8*y=2 ^ 8*(256*x+y) by omega,orM (by omega) (by omega),or_add 8 _ _ (by omega)];omega
theorem and63 {n:Nat} (hn:n<18446744073709551616):qAm .u64 (n:Int) (63:Int)=((n % 64:Nat):Int):=by
 rw [show (63:Int)=((2 ^ 6 - 1:Nat):Int) from rfl,andM hn (by decide),and_low]
theorem spell_loop:∀(l:List Nat) (out:List Int),(∀x∈l,x<256)→out.length+4*l.length≤1000000→zab_p0 URL (nI l) out=some (nI (tlT l),out++(e3 l).map sg)
 | [],out,_,_=>by
  unfold zab_p0;show qAt _ _=some (nI [],out++[]);rw [List.append_nil];exact qAj rfl
 | [x],out,_,_=>by
  unfold zab_p0;show qAt _ _=some (nI [x],out++[]);rw [List.append_nil];exact qAj rfl
 | [x,y],out,_,_=>by
  unfold zab_p0;show qAt _ _=some (nI [x,y],out++[]);rw [List.append_nil];exact qAj rfl
 | x::y::z::r,out,hl,ho=>by
  have hx:=hl x List.mem_cons_self;have hy:=hl y (List.mem_cons_of_mem _ List.mem_cons_self);have hz:=hl z (List.mem_cons_of_mem _ (List.mem_cons_of_mem _ List.mem_cons_self));have hlen:(nI (x::y::z::r)).length=r.length+3:=by simp [nI]
  simp only [List.length_cons] at ho;have hst:qE6 URL (nI (x::y::z::r)) out=some (.inl (nI r,out++[sg ((x*65536+y*256+z) / 262144),sg ((x*65536+y*256+z) / 4096 % 64),sg ((x*65536+y*256+z) / 64 % 64),sg ((x*65536+y*256+z) % 64)])):=by
   unfold qE6;rw [e0_is hx hy hz,URL_size,hlen];generalize hV:x*65536+y*256+z=V
   rw [show ((V:Nat):Int) / 262144=((V / 262144:Nat):Int) by omega,show ((V:Nat):Int) / 4096=((V / 4096:Nat):Int) by omega,show ((V:Nat):Int) / 64=((V / 64:Nat):Int) by omega];rw [and63 (by omega),and63 (by omega),and63 (by omega)];rw [deT (by omega),cnT]
   repeat refine (qAb (by first | decide | omega | (simp only [List.length_cons,List.length_nil]; omega)) _).trans ?_
   show some (Sum.inl (((nI (x::y::z::r)).take (r.length+3)).drop 3,_))=_;rw [List.take_of_length_le (by rw [hlen]; omega)];rfl
  have ih:=spell_loop r (out++[sg ((x*65536+y*256+z) / 262144),sg ((x*65536+y*256+z) / 4096 % 64),sg ((x*65536+y*256+z) / 64 % 64),sg ((x*65536+y*256+z) % 64)]) (fun q hq=>hl q (List.mem_cons_of_mem _ (List.mem_cons_of_mem _ (List.mem_cons_of_mem _ hq)))) (by rw [List.length_append]; simp only [List.length_cons,List.length_nil]; omega);unfold zab_p0 at ih ⊢;rw [qA9 hst,ih];simp [tlT,e3]
theorem tail2 {x y:Nat} (hx:x<256) (hy:y<256):qCg .u8 (((qAm .u8 (x:Int) (3:Int))*16) % 256) ((y:Int) / 16)=((x % 4*16+y / 16:Nat):Int):=by
 rw [show (3:Int)=((2 ^ 2 - 1:Nat):Int) from rfl,and8 hx (by decide),and_low,show (((x % 2 ^ 2:Nat):Int)*16) % 256=((2 ^ 4*(x % 4):Nat):Int) by omega,show (y:Int) / 16=((y / 16:Nat):Int) by omega,or8 (by omega) (by omega),or_add 4 _ _ (by omega)];omega
theorem tail1 {x:Nat} (hx:x<256):((qAm .u8 (x:Int) (3:Int))*16) % 256=((x % 4*16:Nat):Int):=by
 rw [show (3:Int)=((2 ^ 2 - 1:Nat):Int) from rfl,and8 hx (by decide),and_low];omega
theorem tail3 {y:Nat} (hy:y<256):((qAm .u8 (y:Int) (15:Int))*4) % 256=((y % 16*4:Nat):Int):=by
 rw [show (15:Int)=((2 ^ 4 - 1:Nat):Int) from rfl,and8 hy (by decide),and_low];omega
theorem p_spell {l:List Nat} (hl:∀x∈l,x<256) (hn:l.length≤200000):zab_s (nI l) URL=some ((encN l).map sg):=by
 have hlen:(nI l).length=l.length:=by simp [nI]
 have hh:(h3 l).length+(tlT l).length=l.length:=by rw [←List.length_append,h3_tlT]
 have h3l:=e3_len l;unfold zab_s;rw [hlen]
 repeat refine (qAb (by first | (unfold qAc; omega) | omega) _).trans ?_
 rw [spell_loop l [] hl (by simp only [List.length_nil]; omega),obS];dsimp only;rw [List.nil_append];have hE:((e3 l).map sg).length≤500000:=by rw [List.length_map]; omega
 unfold encN;rw [List.map_append];generalize (e3 l).map sg=E at hE ⊢
 have ht:=tlT_len l;have hT:∀x∈tlT l,x<256:=fun x hx=>hl x (tlT_in l x hx)
 generalize tlT l=L at ht hT
 match L,ht,hT with
 | [],_,_=>simp [nI,eT]
 | [x],_,hT =>
  have hx:=hT x List.mem_cons_self;rw [deF (by simp [nI]),cnF,deT (by simp [nI]),cnT];rw [show (nI [x]).getD (Int.toNat 0) (ET.dft .u8)=(x:Int) from rfl,tail1 hx,show (x:Int) / 4=((x / 4:Nat):Int) by omega,URL_size,show (nI [x]).length=1 from rfl]
  repeat refine (qAb (by first | decide | omega | (simp only [List.length_cons,List.length_nil]; omega)) _).trans ?_
  rfl
 | [x,y],_,hT =>
  have hx:=hT x List.mem_cons_self;have hy:=hT y (List.mem_cons_of_mem _ List.mem_cons_self);rw [deT (by simp [nI]),cnT];rw [show (nI [x,y]).getD (Int.toNat 0) (ET.dft .u8)=(x:Int) from rfl,show (nI [x,y]).getD (Int.toNat 1) (ET.dft .u8)=(y:Int) from rfl,tail2 hx hy,tail3 hy,show (x:Int) / 4=((x / 4:Nat):Int) by omega,URL_size,show (nI [x,y]).length=2 from rfl]
  repeat refine (qAb (by first | decide | omega | (simp only [List.length_cons,List.length_nil]; omega)) _).trans ?_
  rfl
def encB (l:List Nat):BA:=qF7 ((encN l).map sg)
theorem p_Encode {l:List Nat} (hl:∀x∈l,x<256) (hn:l.length≤200000):zaa_s (nI l)=some (encB l):=by
 unfold zaa_s;rw [show (⟨#[65,66,67,68,69,70,71,72,73,74,75,76,77,78,79,80,81,82,83,84,85,86,87,88,89,90,97,98,99,100,101,102,103,104,105,106,107,108,109,110,111,112,113,114,115,116,117,118,119,120,121,122,48,49,50,51,52,53,54,55,56,57,45,95]⟩:BA)=URL from rfl,p_spell hl hn];rfl
def hsh (a:Int):Int:=bif decide (a=1) || decide (a=4) || decide (a=7) || decide (a=10) then 1 else bif decide (a=2) || decide (a=5) || decide (a=8) || decide (a=11) then 2 else bif decide (a=3) || decide (a=6) || decide (a=9) || decide (a=12) then 3 else 0
theorem alg_cases (a:Int):a=1∨a=2∨a=3∨a=4∨a=5∨a=6∨a=7∨a=8∨a=9∨a=10∨a=11∨a=12∨(a≠1∧a≠2∧a≠3∧a≠4∧a≠5∧a≠6∧a≠7∧a≠8∧a≠9∧a≠10∧a≠11∧a≠12):=by omega
theorem p_hash (a:Int):zav_s a=some (hsh a):=by
 rcases alg_cases a with rfl | rfl | rfl | rfl | rfl | rfl | rfl | rfl | rfl | rfl | rfl | rfl | ⟨h1,h2,h3,h4,h5,h6,h7,h8,h9,h10,h11,h12⟩ <;> try rfl
 unfold zav_s zav_p0 zav_p1 hsh;simp [h1,h2,h3,h4,h5,h6,h7,h8,h9,h10,h11,h12]
theorem hsh_cases (a:Int):hsh a=0∨hsh a=1∨hsh a=2∨hsh a=3:=by
 unfold hsh;cases decide (a=1) || decide (a=4) || decide (a=7) || decide (a=10) <;> cases decide (a=2) || decide (a=5) || decide (a=8) || decide (a=11) <;> cases decide (a=3) || decide (a=6) || decide (a=9) || decide (a=12) <;> simp
def Byt (l:List Int):Prop:=∀x∈l,0≤x∧x<256
theorem Byt.app {l m:List Int} (h:Byt l) (g:Byt m):Byt (l++m):=fun x hx=>by
 rcases List.mem_append.1 hx with hx | hx
 ·exact h x hx
 ·exact g x hx
theorem byt_mod (x:Int):0≤x % 256∧x % 256<256:=⟨Int.emod_nonneg _ (by decide),Int.emod_lt_of_pos _ (by decide)⟩
theorem by32_byt (s:List Int):∀(k:Nat) (x:Int × List Int),Byt x.2→Byt (itr (by32 s) k x).2
 | 0,x,h=>h
 | k+1,x,h=>by32_byt s k (by32 s x) (h.app fun y hy=>by
  simp only [List.mem_cons,List.not_mem_nil,or_false] at hy;rcases hy with rfl | rfl | rfl | rfl <;> exact byt_mod _)
theorem by8_byt (v:Int):∀(k:Nat) (x:Int × List Int),Byt x.2→Byt (itr (byt8 v) k x).2
 | 0,x,h=>h
 | k+1,x,h=>by8_byt v k (byt8 v x) (h.app fun y hy=>by
  simp only [List.mem_cons,List.not_mem_nil,or_false] at hy;rw [hy];exact byt_mod _)
theorem by64_byt (s:List Int):∀(k:Nat) (x:Int × List Int),Byt x.2→Byt (itr (by64 s) k x).2
 | 0,x,h=>h
 | k+1,x,h=>by64_byt s k (by64 s x) (by8_byt _ 8 (56,x.2) h)
theorem byt_nil:Byt []:=fun _ h=>by cases h
theorem outB_byt (s:qGy):Byt (outB s):=by
 unfold outB;cases decide (s.hash=1) with
 | true=>exact by32_byt _ 8 (0,[]) byt_nil
 | false=>exact fun x hx=>by64_byt s.long 8 (0,[]) byt_nil x (List.mem_of_mem_take hx)
theorem shaS_byt (s:qGy):Byt (shaS s):=outB_byt _
theorem shaS_nrm (s:qGy):shaS (nrmS s)=shaS s:=by
 unfold shaS;rw [shaW_nrm];rfl
def toN (l:List Int):List Nat:=l.map Int.toNat
theorem toN_byte {l:List Int} (h:Byt l):∀x∈toN l,x<256:=fun x hx=>by
 obtain ⟨y,hy,rfl⟩:=List.mem_map.1 hx;have:=h y hy;omega
theorem nI_toN:∀ {l:List Int},Byt l→nI (toN l)=l
 | [],_=>rfl
 | x::l,h=>by
  have h1:=h x List.mem_cons_self;have ih:=nI_toN (l:=l) fun y hy=>h y (List.mem_cons_of_mem _ hy)
  show ((x.toNat:Nat):Int)::nI (toN l)=_;rw [ih];congr 1
  omega
theorem toN_take (l:List Int) (k:Nat):toN (l.take k)=(toN l).take k:=by simp [toN,List.map_take]
def stS (h:Int):qGy:=⟨h,bif decide (h=1) then nrm 8 shaS256 else nrm 8 [],bif decide (h=1) then nrm 8 [] else bif decide (h=2) then nrm 8 shaS384 else nrm 8 shaS512,nrm 128 [],0⟩
def sumT (h:Int) (text:BA):List Int:=shaS (shaW (stS h) (qCk text))
def halfT (a:Int) (text:BA):BA:=bif decide (hsh a=0) then ⟨#[]⟩ else encB ((toN (sumT (hsh a) text)).take (sumZ (hsh a) / 2))
theorem shaW_st {s:qGy} (h0:0≤s.n) (hn:s.n<18446744073709551616) (b:List Int):0≤(shaW s b).n∧(shaW s b).n<18446744073709551616∧(shaW s b).hash=s.hash:=wrt_n _ _ (nrmS s) b h0 hn
theorem half_core {s:qGy} (hh:s.hash=1∨s.hash=2∨s.hash=3) (h0:s.n=0) (b:List Int) :
  ((zbv_s s b).bind fun r2=>gd (qAc ((0:Int)+(1:Int))) <| (zbu_s (⟨r2.hash,(nrm 8 r2.short),(nrm 8 r2.long),(nrm 128 r2.rest),r2.n⟩:qGy)).bind fun r3 =>
   (zbt_s s.hash).bind fun r4=>gd (0≤r4∧r4≤9223372036854775807∧1≤(2:Int)) <| gd (0≤(r4 / (2:Int))∧(r4 / (2:Int))≤r3.2.length) <|
   (zaa_s (r3.2.take (Int.toNat (r4 / (2:Int))))).bind fun r5=>some (r5,(0:Int)))=some (encB ((toN (shaS (shaW s b))).take (sumZ s.hash / 2)),0):=by
 obtain ⟨h1,h2,h3⟩:=shaW_st (s:=s) (by omega) (by omega) b;have hl:=shaS_len (shaW s b) (by rw [h3]; exact hh) h1 h2;rw [h3] at hl;have hz:=sumZ_le s.hash;rw [p_Write s b hh (by omega) (by omega),obS,qAb (by unfold qAc; decide)];rw [show (⟨(shaW s b).hash,nrm 8 (shaW s b).short,nrm 8 (shaW s b).long,nrm 128 (shaW s b).rest,(shaW s b).n⟩:qGy)=nrmS (shaW s b) from rfl,p_Sum (nrmS (shaW s b)) (by show (shaW s b).hash=1∨(shaW s b).hash=2∨(shaW s b).hash=3; rw [h3]; exact hh) h1 h2,obS,p_Size,obS,shaS_nrm];have hb:=shaS_byt (shaW s b);dsimp only;generalize shaS (shaW s b)=S at hl hb ⊢
 rw [qAb (by omega),qAb (by rw [hl]; omega),show (((sumZ s.hash:Nat):Int) / 2).toNat=sumZ s.hash / 2 by omega];have ht:Byt (S.take (sumZ s.hash / 2)):=fun x hx=>hb x (List.mem_of_mem_take hx)
 rw [←nI_toN ht,p_Encode (toN_byte ht) (by unfold toN; rw [List.length_map,List.length_take]; omega),toN_take];rfl
theorem p_Half (a:Int) (text:BA):zaj_s a text=some (halfT a text,bif decide (hsh a=0) then 111 else 0):=by
 unfold zaj_s halfT;rw [p_hash,obS];rcases hsh_cases a with h | h | h | h <;> rw [h]
 ·rfl
 ·have:=half_core (s:=stS 1) (.inl rfl) rfl (qCk text);rw [deF (by decide),cnF,deT rfl,cnT,qAb (by decide)];exact this
 ·have:=half_core (s:=stS 2) (.inr (.inl rfl)) rfl (qCk text);rw [deF (by decide),cnF,deF (by decide),cnF,deT rfl,cnT,qAb (by decide)];exact this
 ·have:=half_core (s:=stS 3) (.inr (.inr rfl)) rfl (qCk text);rw [deF (by decide),cnF,deF (by decide),cnF,deF (by decide),cnF,deT rfl,cnT,qAb (by decide)];exact this
inductive Trees (v:List Eng.Node):Nat→Nat→Nat→Prop
 | nil (a:Nat):a≤v.length→Trees v 0 a a
 | cons {k a b e:Nat} (n:Eng.Node):v[a]?=some n→0≤n.kids→Trees v n.kids.toNat (a+1) b→Trees v k b e→Trees v (k+1) a e
def Tree (v:List Eng.Node) (a e:Nat):Prop:=Trees v 1 a e
theorem Trees.le {v:List Eng.Node} {k a e:Nat} (h:Trees v k a e):a+k≤e∧e≤v.length:=by
 induction h with
 | nil a ha=>exact ⟨by omega,ha⟩
 | cons n hn h0 h1 h2 i1 i2=>exact ⟨by omega,i2.2⟩
theorem Trees.zero {v:List Eng.Node} {a e:Nat} (h:Trees v 0 a e):e=a:=by
 cases h;rfl
theorem Trees.succ {v:List Eng.Node} {k a e:Nat} (h:Trees v (k+1) a e):∃n b,v[a]?=some n∧0≤n.kids∧Trees v n.kids.toNat (a+1) b∧Trees v k b e:=by
 cases h with
 | cons n hn h0 h1 h2=>exact ⟨n,_,hn,h0,h1,h2⟩
theorem Trees.det {v:List Eng.Node} {k a e:Nat} (h:Trees v k a e):∀ {e'},Trees v k a e'→e=e':=by
 induction h with
 | nil a ha=>intro e' h'; exact h'.zero.symm
 | cons n hn h0 h1 h2 i1 i2 =>
  intro e' h';obtain ⟨n',b',hn',_,g1,g2⟩:=h'.succ;rw [hn] at hn';cases hn';have:=i1 g1;subst this;exact i2 g2
theorem Trees.app {v:List Eng.Node} {k a b:Nat} (h:Trees v k a b):∀ {m e},Trees v m b e→Trees v (m+k) a e:=by
 induction h with
 | nil a ha=>intro m e h'; exact h'
 | cons n hn h0 h1 h2 i1 i2 =>
  intro m e h';exact Trees.cons n hn h0 h1 (i2 h')
theorem Trees.one {v:List Eng.Node} {k a e:Nat} (h:Trees v (k+1) a e):∃b,Tree v a b∧Trees v k b e:=by
 obtain ⟨n,b,h1,h2,h3,h4⟩:=h.succ;exact ⟨b,Trees.cons n h1 h2 h3 (Trees.nil b h3.le.2),h4⟩
theorem Tree.node {v:List Eng.Node} {a e:Nat} (h:Tree v a e):∃n,v[a]?=some n∧0≤n.kids∧Trees v n.kids.toNat (a+1) e:=by
 obtain ⟨n,b,h1,h2,h3,h4⟩:=Trees.succ h;have:=h4.zero;subst this;exact ⟨n,h1,h2,h3⟩
theorem Tree.mk {v:List Eng.Node} {a e:Nat} {n:Eng.Node} (h1:v[a]?=some n) (h2:0≤n.kids) (h3:Trees v n.kids.toNat (a+1) e):Tree v a e:=Trees.cons n h1 h2 h3 (Trees.nil e h3.le.2)
def placesT (v:List Eng.Node):Nat→Nat→List Nat→Nat→Prop
 | 0,a,l,e=>l=[]∧e=a
 | k+1,a,l,e=>∃b r,l=a::r∧Tree v a b∧placesT v k b r e
theorem Trees.places {v:List Eng.Node}:∀ {k a e:Nat},Trees v k a e→∃l,placesT v k a l e
 | 0,a,e,h=>⟨[],rfl,h.zero⟩
 | k+1,a,e,h=>by
  obtain ⟨b,h1,h2⟩:=h.one;obtain ⟨l,hl⟩:=h2.places;exact ⟨a::l,b,l,rfl,h1,hl⟩
theorem placesT.len {v:List Eng.Node}:∀ {k a e:Nat} {l:List Nat},placesT v k a l e→l.length=k
 | 0,a,e,l,h=>by rw [h.1]; rfl
 | k+1,a,e,l,h=>by
  obtain ⟨b,r,rfl,_,h2⟩:=h;simp [h2.len]
theorem bAt_in {s:BA} {k:Nat} (h:k<s.size):bAt s k=(s[k].toNat:Int):=by
 simp [bAt,h]
theorem bAt_range (s:BA) (i:Int) : -1≤bAt s i∧bAt s i≤255:=by
 unfold bAt;split
 ·split
  ·rename_i b _;have:=b.toNat_lt;omega
  ·omega
 ·omega
theorem qGd {s:BA} {i:Int} (h:0≤bAt s i):0≤i∧i<s.size:=by
 unfold bAt at h;split at h
 ·split at h
  ·rename_i h0 b hb;have:i.toNat<s.size:=by
    rcases Nat.lt_or_ge i.toNat s.size with h' | h'
    ·exact h'
    ·rw [getElem?_neg s i.toNat (Nat.not_lt.2 h')] at hb;cases hb
   omega
  ·omega
 ·omega
theorem bAt_out {s:BA} {i:Int} (h:¬i<s.size):bAt s i = -1:=by
 have:=(bAt_range s i).1;rcases Int.lt_or_le (bAt s i) 0 with h' | h'
 ·omega
 ·exact (h (qGd h').2).elim
theorem bAt_nn {s:BA} {i:Int} (h0:0≤i) (h:i<s.size):0≤bAt s i:=by
 have h1:i.toNat<s.size:=by omega
 have:=bAt_in h1;rw [Int.toNat_of_nonneg h0] at this;rw [this];omega
def digS (s:BA) (i:Int):Bool:=decide (48≤bAt s i) && decide (bAt s i≤57)
theorem digS_lt {s:BA} {i:Int} (h:digS s i=true):i<s.size:=by simp only [digS,Bool.and_eq_true,decide_eq_true_eq] at h; exact (qGd (by omega)).2
def manyN (s:BA):Nat→Nat→Nat
 | 0,i=>i
 | n+1,i=>if digS s (i:Int)=true then manyN s n (i+1) else i
@[irreducible] def qF0 (s:BA) (i:Nat):Nat:=manyN s (s.size - i) i
theorem manyS_yes {s:BA} {i:Nat} (h:digS s i=true):qF0 s i=qF0 s (i+1):=by
 have:=digS_lt h;unfold qF0;rw [show s.size - i=(s.size - (i+1))+1 by omega];show (if digS s (i:Int)=true then _ else _)=_;rw [if_pos h]
theorem manyS_no {s:BA} {i:Nat} (h:digS s i=false):qF0 s i=i:=by
 unfold qF0;cases s.size - i with
 | zero=>rfl
 | succ n =>
  show (if digS s (i:Int)=true then _ else _)=_;rw [if_neg (by rw [h]; decide)]
theorem manyS_ge (s:BA) (k:Nat):k≤qF0 s k:=by
 by_cases h:digS s k=true
 ·rw [manyS_yes h];have:=manyS_ge s (k+1);omega
 ·rw [manyS_no (by simpa using h)];exact Nat.le_refl _
termination_by s.size - k
decreasing_by have:=digS_lt h; omega
theorem manyS_le (s:BA) (k:Nat) (hk:k≤s.size):qF0 s k≤s.size:=by
 by_cases h:digS s k=true
 ·rw [manyS_yes h];exact manyS_le s (k+1) (by have:=digS_lt h; omega)
 ·rw [manyS_no (by simpa using h)];exact hk
termination_by s.size - k
decreasing_by have:=digS_lt h; omega
end Go.Proofs.YtlmfmmgfiffjiaaGreatDoor
namespace Go.Proofs.YtlmfmmgfiffjiaaGreatDoor
open Go.Eng
def dV (s:BA) (i:Nat):Int:=(bAt s i - 48) % 256
def qBu (s:BA) (a n:Nat):List Int:=(List.range n).map fun i=>dV s (a+i)
theorem dsFrom_length (s:BA) (a n:Nat):(qBu s a n).length=n:=by simp [qBu]
theorem dsFrom_succ (s:BA) (a n:Nat):qBu s a (n+1)=qBu s a n++[dV s (a+n)]:=by simp [qBu,List.range_succ]
def lead (l:List Int):List Int:=l.dropWhile (· == 0)
theorem lead_snoc (l:List Int) (d:Int):lead (l++[d])=if d≠0∨0<(lead l).length then lead l++[d] else []:=by
 unfold lead;induction l with
 | nil =>
  by_cases h:d=0
  ·simp [h]
  ·have:(d == 0)=false:=by simpa using h
   simp [h,this]
 | cons x l ih =>
  by_cases h:x=0
  ·subst h;simpa using ih
  ·have hx:(x == 0)=false:=by simpa using h
   simp [hx]
theorem lead_le (l:List Int):(lead l).length≤l.length:=by
 unfold lead;exact (List.dropWhile_sublist _).length_le
def trail:List Int→List Int
 | []=>[]
 | x::l=>match trail l with
  | []=>if x=0 then [] else [x]
  | y::r=>x::y::r
theorem trail_snoc_zero (l:List Int):trail (l++[0])=trail l:=by
 induction l with
 | nil=>rfl
 | cons x l ih=>simp only [List.cons_append,trail,ih]
theorem trail_snoc (l:List Int) (d:Int) (h:d≠0):trail (l++[d])=l++[d]:=by
 induction l with
 | nil=>simp [trail,h]
 | cons x l ih =>
  simp only [List.cons_append,trail,ih];cases l <;> rfl
def atA (s:BA):Nat:=if bAt s 0=45 then 1 else 0
def atB (s:BA):Nat:=qF0 s (atA s)
def badA (s:BA):Bool:=decide (atB s=atA s) || (decide (bAt s (atA s)=48) && decide (atA s+1<atB s))
def dotS (s:BA):Bool:=decide (bAt s (atB s)=46)
def atK (s:BA):Nat:=qF0 s (atB s+1)
def atC (s:BA):Nat:=if dotS s=true then atK s else atB s
def allS (s:BA):BA:=if dotS s=true then s.extract (atA s) (atB s)++s.extract (atB s+1) (atK s) else s.extract (atA s) (atB s)
def expS (s:BA):Bool:=decide (bAt s (atC s)=101) || decide (bAt s (atC s)=69)
def sgnS (s:BA):Bool:=decide (bAt s (atC s+1)=43) || decide (bAt s (atC s+1)=45)
def atE (s:BA):Nat:=if sgnS s=true then atC s+2 else atC s+1
def atF (s:BA):Nat:=qF0 s (atE s)
def atG (s:BA):Nat:=if expS s=true then atF s else atC s
structure RNum where
 minus:Bool
 digits:List Int
 off:Int
 down:Bool
 exp:List Int
 plain:Bool
 text:BA
def qE3 (s:BA):Bool:=!badA s && !(dotS s && decide (atK s=atB s+1)) && !(expS s && decide (atF s=atE s)) && decide (atG s=s.size)
def readS (s:BA):RNum where
 minus:=decide (bAt s 0=45)
 digits:=trail (lead (qBu (allS s) 0 (allS s).size))
 off:=(atB s:Int) - atA s - ((allS s).size - (lead (qBu (allS s) 0 (allS s).size)).length)
 down:=expS s && decide (bAt s (atC s+1)=45)
 exp:=if expS s=true then lead (qBu s (atE s) (atF s - atE s)) else []
 plain:=!dotS s && !expS s
 text:=s.extract (atA s) (atB s)
def qA1 (s:BA):RNum :=
 if badA s=true then ⟨decide (bAt s 0=45),[],0,false,[],true,⟨#[]⟩⟩
 else if (dotS s && decide (atK s=atB s+1))=true then ⟨decide (bAt s 0=45),[],(atB s:Int) - atA s,false,[],false,s.extract (atA s) (atB s)⟩
 else if (expS s && decide (atF s=atE s))=true then ⟨decide (bAt s 0=45),[],(atB s:Int) - atA s,(readS s).down,[],false,s.extract (atA s) (atB s)⟩
 else if decide (atG s=s.size)=false then ⟨decide (bAt s 0=45),[],(atB s:Int) - atA s,(readS s).down,(readS s).exp,!dotS s && !expS s,s.extract (atA s) (atB s)⟩
 else readS s
theorem readAll_1 {s:BA} (h1:badA s=true):qA1 s=⟨decide (bAt s 0=45),[],0,false,[],true,⟨#[]⟩⟩:=by simp [qA1,h1]
theorem readAll_2 {s:BA} (h1:badA s=false) (h2:(dotS s && decide (atK s=atB s+1))=true):qA1 s=⟨decide (bAt s 0=45),[],(atB s:Int) - atA s,false,[],false,s.extract (atA s) (atB s)⟩:=by simp only [qA1,h1,h2]; rfl
theorem readAll_3 {s:BA} (h1:badA s=false) (h2:(dotS s && decide (atK s=atB s+1))=false) (h3:(expS s && decide (atF s=atE s))=true):qA1 s=⟨decide (bAt s 0=45),[],(atB s:Int) - atA s,(readS s).down,[],false,s.extract (atA s) (atB s)⟩:=by simp only [qA1,h1,h2,h3]; rfl
theorem readAll_4 {s:BA} (h1:badA s=false) (h2:(dotS s && decide (atK s=atB s+1))=false) (h3:(expS s && decide (atF s=atE s))=false) (h4:decide (atG s=s.size)=false):qA1 s=⟨decide (bAt s 0=45),[],(atB s:Int) - atA s,(readS s).down,(readS s).exp,!dotS s && !expS s,s.extract (atA s) (atB s)⟩:=by simp only [qA1,h1,h2,h3,h4]; rfl
theorem readAll_ok {s:BA} (h:qE3 s=true):qA1 s=readS s:=by
 unfold qE3 at h;simp only [Bool.and_eq_true,Bool.not_eq_true'] at h;obtain ⟨⟨⟨h1,h2⟩,h3⟩,h4⟩:=h;simp [qA1,h1,h2,h3,h4]
theorem atA_le (s:BA):atA s≤s.size:=by
 unfold atA;split
 ·have:=qGd (s:=s) (i:=0) (by omega);omega
 ·omega
theorem atB_le (s:BA):atB s≤s.size:=manyS_le s _ (atA_le s)
theorem atA_le_atB (s:BA):atA s≤atB s:=manyS_ge s _
theorem atB_lt {s:BA} (h:dotS s=true):atB s<s.size:=by
 unfold dotS at h;have h1:=of_decide_eq_true h;have:=qGd (s:=s) (i:=atB s) (by omega);omega
theorem atK_le {s:BA} (h:dotS s=true):atK s≤s.size:=manyS_le s _ (atB_lt h)
theorem atK_ge (s:BA):atB s+1≤atK s:=manyS_ge s _
theorem atC_le (s:BA):atC s≤s.size:=by
 unfold atC;split
 ·exact atK_le (by assumption)
 ·exact atB_le s
theorem atC_lt {s:BA} (h:expS s=true):atC s<s.size:=by
 unfold expS at h;simp only [Bool.or_eq_true,decide_eq_true_eq] at h;have:=qGd (s:=s) (i:=atC s) (by omega);omega
theorem sgn_lt {s:BA} (h:sgnS s=true):atC s+1<s.size:=by
 unfold sgnS at h;simp only [Bool.or_eq_true,decide_eq_true_eq] at h;have:=qGd (s:=s) (i:=(atC s:Int)+1) (by omega);omega
theorem atE_le {s:BA} (h:expS s=true):atE s≤s.size:=by
 have h1:=atC_lt h;unfold atE;split
 ·have:=sgn_lt (s:=s) (by assumption); omega
 ·omega
theorem atF_le {s:BA} (h:expS s=true):atF s≤s.size:=manyS_le s _ (atE_le h)
end Go.Proofs.YtlmfmmgfiffjiaaGreatDoor
namespace Go.Proofs.YtlmfmmgfiffjiaaGreatDoor
open Go.Eng
structure PNum where
 minus:Bool
 int:BA
 digits:BA
 off:Int
 plain:Bool
 down:Bool
 exp:BA
end Go.Proofs.YtlmfmmgfiffjiaaGreatDoor
namespace Go.Proofs.YtlmfmmgfiffjiaaGreatDoor
open Go.Eng
end Go.Proofs.YtlmfmmgfiffjiaaGreatDoor
namespace Go.Proofs.YtlmfmmgfiffjiaaGreatDoor
open Go.Eng
def dvB (x:UInt8):Int:=((x.toNat:Int) - 48) % 256
def dl (b:BA):List Int:=b.data.toList.map dvB
end Go.Proofs.YtlmfmmgfiffjiaaGreatDoor
