/-
  Texts of a claim.
-/
import Derived.Below
import Derived.Carry
import Derived.Lib.LaidU8
import Derived.Lib.LaidTab
import Derived.Test.YtobmafbliahplaaDoorHB
import Derived.Test.YtobmafbliahplaaDoorHR
import Derived.Test.YtobmafbliahplaaDoorEngO
import Derived.Test.YtobmafbliahplaaDoorProg
import Derived.Test.YtobmafbliahplaaDoorPSha
import Derived.Test.YtobmafbliahplaaDoorRows
set_option linter.unusedSimpArgs false
set_option linter.unusedVariables false
namespace Go.Proofs.YtobmafbliahplaaDoor
open Go.Eng
theorem qBo (b:BitVec 32):BitVec.ofInt 32 (IntKind.u32.wrap (b.toNat:Int))=b:=by
 rw [u32_eq];apply BitVec.eq_of_toNat_eq;rw [BitVec.toNat_ofInt];have:=b.isLt;omega
theorem qBp (b:BitVec 64):BitVec.ofInt 64 (IntKind.u64.wrap (b.toNat:Int))=b:=by
 rw [u64_eq];apply BitVec.eq_of_toNat_eq;rw [BitVec.toNat_ofInt];have:=b.isLt;omega
theorem ch_bits {n:Nat} (e f g:BitVec n):g ^^^ (e &&& (f ^^^ g))=(e &&& f) ^^^ ((BitVec.allOnes n ^^^ e) &&& g):=by
 apply BitVec.eq_of_getElem_eq;intro i hi;simp only [BitVec.getElem_xor,BitVec.getElem_and,BitVec.getElem_allOnes];cases e[i] <;> cases f[i] <;> cases g[i] <;> rfl
theorem maj_bits {n:Nat} (a b c:BitVec n):(a &&& b) ||| (c &&& (a ||| b))=((a &&& b) ^^^ (a &&& c)) ^^^ (b &&& c):=by
 apply BitVec.eq_of_getElem_eq;intro i hi;simp only [BitVec.getElem_xor,BitVec.getElem_and,BitVec.getElem_or];cases a[i] <;> cases b[i] <;> cases c[i] <;> rfl
theorem qCb (x y:Int):qA6 .u32 x y=qA6 .u32 y x:=by
 unfold qA6;rw [BitVec.or_comm]
theorem ch32 (e f g:Int):qAf .u32 g (qAd .u32 e (qAf .u32 f g))=qAf .u32 (qAd .u32 e f) (qAd .u32 (qAf .u32 (4294967295:Int) e) g):=by
 have h:=ch_bits (BitVec.ofInt 32 e) (BitVec.ofInt 32 f) (BitVec.ofInt 32 g);have h1:BitVec.ofInt 32 (4294967295:Int)=BitVec.allOnes 32:=by decide
 show IntKind.u32.wrap ((BitVec.ofInt 32 g ^^^ BitVec.ofInt 32 (IntKind.u32.wrap ((BitVec.ofInt 32 e &&& BitVec.ofInt 32 (IntKind.u32.wrap ((BitVec.ofInt 32 f ^^^ BitVec.ofInt 32 g).toNat:Int))).toNat:Int))).toNat:Int)
  = IntKind.u32.wrap ((BitVec.ofInt 32 (IntKind.u32.wrap ((BitVec.ofInt 32 e &&& BitVec.ofInt 32 f).toNat:Int)) ^^^ BitVec.ofInt 32 (IntKind.u32.wrap ((BitVec.ofInt 32 (IntKind.u32.wrap ((BitVec.ofInt 32 (4294967295:Int) ^^^ BitVec.ofInt 32 e).toNat:Int)) &&& BitVec.ofInt 32 g).toNat:Int))).toNat:Int)
 rw [qBo,qBo,qBo,qBo,qBo,h1,h]
theorem maj32 (a b c:Int):qA6 .u32 (qAd .u32 a b) (qAd .u32 c (qA6 .u32 a b))=qAf .u32 (qAf .u32 (qAd .u32 a b) (qAd .u32 a c)) (qAd .u32 b c):=by
 have h:=maj_bits (BitVec.ofInt 32 a) (BitVec.ofInt 32 b) (BitVec.ofInt 32 c);show IntKind.u32.wrap ((BitVec.ofInt 32 (IntKind.u32.wrap ((BitVec.ofInt 32 a &&& BitVec.ofInt 32 b).toNat:Int)) ||| BitVec.ofInt 32 (IntKind.u32.wrap ((BitVec.ofInt 32 c &&& BitVec.ofInt 32 (IntKind.u32.wrap ((BitVec.ofInt 32 a ||| BitVec.ofInt 32 b).toNat:Int))).toNat:Int))).toNat:Int)
  = IntKind.u32.wrap ((BitVec.ofInt 32 (IntKind.u32.wrap ((BitVec.ofInt 32 (IntKind.u32.wrap ((BitVec.ofInt 32 a &&& BitVec.ofInt 32 b).toNat:Int)) ^^^ BitVec.ofInt 32 (IntKind.u32.wrap ((BitVec.ofInt 32 a &&& BitVec.ofInt 32 c).toNat:Int))).toNat:Int)) ^^^ BitVec.ofInt 32 (IntKind.u32.wrap ((BitVec.ofInt 32 b &&& BitVec.ofInt 32 c).toNat:Int))).toNat:Int)
 rw [qBo,qBo,qBo,qBo,qBo,qBo,h]
theorem low255_32 (x:Int):qAd .u32 x (255:Int) % 256=x % 256:=by
 have h1:(BitVec.ofInt 32 (255:Int)).toNat=2 ^ 8 - 1:=by decide
 show IntKind.u32.wrap ((BitVec.ofInt 32 x &&& BitVec.ofInt 32 (255:Int)).toNat:Int) % 256=_;rw [BitVec.toNat_and,h1,Nat.and_two_pow_sub_one_eq_mod,BitVec.toNat_ofInt,u32_eq];omega
theorem qCc (x y:Int):qA6 .u64 x y=qA6 .u64 y x:=by
 unfold qA6;rw [BitVec.or_comm]
theorem ch64 (e f g:Int):qAf .u64 g (qAd .u64 e (qAf .u64 f g))=qAf .u64 (qAd .u64 e f) (qAd .u64 (qAf .u64 (18446744073709551615:Int) e) g):=by
 have h:=ch_bits (BitVec.ofInt 64 e) (BitVec.ofInt 64 f) (BitVec.ofInt 64 g);have h1:BitVec.ofInt 64 (18446744073709551615:Int)=BitVec.allOnes 64:=by decide
 show IntKind.u64.wrap ((BitVec.ofInt 64 g ^^^ BitVec.ofInt 64 (IntKind.u64.wrap ((BitVec.ofInt 64 e &&& BitVec.ofInt 64 (IntKind.u64.wrap ((BitVec.ofInt 64 f ^^^ BitVec.ofInt 64 g).toNat:Int))).toNat:Int))).toNat:Int)
  = IntKind.u64.wrap ((BitVec.ofInt 64 (IntKind.u64.wrap ((BitVec.ofInt 64 e &&& BitVec.ofInt 64 f).toNat:Int)) ^^^ BitVec.ofInt 64 (IntKind.u64.wrap ((BitVec.ofInt 64 (IntKind.u64.wrap ((BitVec.ofInt 64 (18446744073709551615:Int) ^^^ BitVec.ofInt 64 e).toNat:Int)) &&& BitVec.ofInt 64 g).toNat:Int))).toNat:Int)
 rw [qBp,qBp,qBp,qBp,qBp,h1,h]
theorem maj64 (a b c:Int):qA6 .u64 (qAd .u64 a b) (qAd .u64 c (qA6 .u64 a b))=qAf .u64 (qAf .u64 (qAd .u64 a b) (qAd .u64 a c)) (qAd .u64 b c):=by
 have h:=maj_bits (BitVec.ofInt 64 a) (BitVec.ofInt 64 b) (BitVec.ofInt 64 c);show IntKind.u64.wrap ((BitVec.ofInt 64 (IntKind.u64.wrap ((BitVec.ofInt 64 a &&& BitVec.ofInt 64 b).toNat:Int)) ||| BitVec.ofInt 64 (IntKind.u64.wrap ((BitVec.ofInt 64 c &&& BitVec.ofInt 64 (IntKind.u64.wrap ((BitVec.ofInt 64 a ||| BitVec.ofInt 64 b).toNat:Int))).toNat:Int))).toNat:Int)
  = IntKind.u64.wrap ((BitVec.ofInt 64 (IntKind.u64.wrap ((BitVec.ofInt 64 (IntKind.u64.wrap ((BitVec.ofInt 64 a &&& BitVec.ofInt 64 b).toNat:Int)) ^^^ BitVec.ofInt 64 (IntKind.u64.wrap ((BitVec.ofInt 64 a &&& BitVec.ofInt 64 c).toNat:Int))).toNat:Int)) ^^^ BitVec.ofInt 64 (IntKind.u64.wrap ((BitVec.ofInt 64 b &&& BitVec.ofInt 64 c).toNat:Int))).toNat:Int)
 rw [qBp,qBp,qBp,qBp,qBp,qBp,h]
theorem low255_64 (x:Int):qAd .u64 x (255:Int) % 256=x % 256:=by
 have h1:(BitVec.ofInt 64 (255:Int)).toNat=2 ^ 8 - 1:=by decide
 show IntKind.u64.wrap ((BitVec.ofInt 64 x &&& BitVec.ofInt 64 (255:Int)).toNat:Int) % 256=_;rw [BitVec.toNat_and,h1,Nat.and_two_pow_sub_one_eq_mod,BitVec.toNat_ofInt,u64_eq];omega
theorem turn32_7 (x:Int):qCe x 7=some (qCi x (-7)):=by unfold qCe qCi; rw [qCb]; refine (qAb (by decide) _).trans ((qAb (by unfold qAe; decide) _).trans ((qAb (by decide) _).trans ?_)); kernel_rfl
theorem turn32_18 (x:Int):qCe x 18=some (qCi x (-18)):=by unfold qCe qCi; rw [qCb]; refine (qAb (by decide) _).trans ((qAb (by unfold qAe; decide) _).trans ((qAb (by decide) _).trans ?_)); kernel_rfl
theorem turn32_17 (x:Int):qCe x 17=some (qCi x (-17)):=by unfold qCe qCi; rw [qCb]; refine (qAb (by decide) _).trans ((qAb (by unfold qAe; decide) _).trans ((qAb (by decide) _).trans ?_)); kernel_rfl
theorem turn32_19 (x:Int):qCe x 19=some (qCi x (-19)):=by unfold qCe qCi; rw [qCb]; refine (qAb (by decide) _).trans ((qAb (by unfold qAe; decide) _).trans ((qAb (by decide) _).trans ?_)); kernel_rfl
theorem turn32_6 (x:Int):qCe x 6=some (qCi x (-6)):=by unfold qCe qCi; rw [qCb]; refine (qAb (by decide) _).trans ((qAb (by unfold qAe; decide) _).trans ((qAb (by decide) _).trans ?_)); kernel_rfl
theorem turn32_11 (x:Int):qCe x 11=some (qCi x (-11)):=by unfold qCe qCi; rw [qCb]; refine (qAb (by decide) _).trans ((qAb (by unfold qAe; decide) _).trans ((qAb (by decide) _).trans ?_)); kernel_rfl
theorem turn32_25 (x:Int):qCe x 25=some (qCi x (-25)):=by unfold qCe qCi; rw [qCb]; refine (qAb (by decide) _).trans ((qAb (by unfold qAe; decide) _).trans ((qAb (by decide) _).trans ?_)); kernel_rfl
theorem turn32_2 (x:Int):qCe x 2=some (qCi x (-2)):=by unfold qCe qCi; rw [qCb]; refine (qAb (by decide) _).trans ((qAb (by unfold qAe; decide) _).trans ((qAb (by decide) _).trans ?_)); kernel_rfl
theorem turn32_13 (x:Int):qCe x 13=some (qCi x (-13)):=by unfold qCe qCi; rw [qCb]; refine (qAb (by decide) _).trans ((qAb (by unfold qAe; decide) _).trans ((qAb (by decide) _).trans ?_)); kernel_rfl
theorem turn32_22 (x:Int):qCe x 22=some (qCi x (-22)):=by unfold qCe qCi; rw [qCb]; refine (qAb (by decide) _).trans ((qAb (by unfold qAe; decide) _).trans ((qAb (by decide) _).trans ?_)); kernel_rfl
theorem turn64_1 (x:Int):qCf x 1=some (qCj x (-1)):=by unfold qCf qCj; rw [qCc]; refine (qAb (by decide) _).trans ((qAb (by unfold qAe; decide) _).trans ((qAb (by decide) _).trans ?_)); kernel_rfl
theorem turn64_8 (x:Int):qCf x 8=some (qCj x (-8)):=by unfold qCf qCj; rw [qCc]; refine (qAb (by decide) _).trans ((qAb (by unfold qAe; decide) _).trans ((qAb (by decide) _).trans ?_)); kernel_rfl
theorem turn64_19 (x:Int):qCf x 19=some (qCj x (-19)):=by unfold qCf qCj; rw [qCc]; refine (qAb (by decide) _).trans ((qAb (by unfold qAe; decide) _).trans ((qAb (by decide) _).trans ?_)); kernel_rfl
theorem turn64_61 (x:Int):qCf x 61=some (qCj x (-61)):=by unfold qCf qCj; rw [qCc]; refine (qAb (by decide) _).trans ((qAb (by unfold qAe; decide) _).trans ((qAb (by decide) _).trans ?_)); kernel_rfl
theorem turn64_14 (x:Int):qCf x 14=some (qCj x (-14)):=by unfold qCf qCj; rw [qCc]; refine (qAb (by decide) _).trans ((qAb (by unfold qAe; decide) _).trans ((qAb (by decide) _).trans ?_)); kernel_rfl
theorem turn64_18 (x:Int):qCf x 18=some (qCj x (-18)):=by unfold qCf qCj; rw [qCc]; refine (qAb (by decide) _).trans ((qAb (by unfold qAe; decide) _).trans ((qAb (by decide) _).trans ?_)); kernel_rfl
theorem turn64_41 (x:Int):qCf x 41=some (qCj x (-41)):=by unfold qCf qCj; rw [qCc]; refine (qAb (by decide) _).trans ((qAb (by unfold qAe; decide) _).trans ((qAb (by decide) _).trans ?_)); kernel_rfl
theorem turn64_28 (x:Int):qCf x 28=some (qCj x (-28)):=by unfold qCf qCj; rw [qCc]; refine (qAb (by decide) _).trans ((qAb (by unfold qAe; decide) _).trans ((qAb (by decide) _).trans ?_)); kernel_rfl
theorem turn64_34 (x:Int):qCf x 34=some (qCj x (-34)):=by unfold qCf qCj; rw [qCc]; refine (qAb (by decide) _).trans ((qAb (by unfold qAe; decide) _).trans ((qAb (by decide) _).trans ?_)); kernel_rfl
theorem turn64_39 (x:Int):qCf x 39=some (qCj x (-39)):=by unfold qCf qCj; rw [qCc]; refine (qAb (by decide) _).trans ((qAb (by unfold qAe; decide) _).trans ((qAb (by decide) _).trans ?_)); kernel_rfl
theorem while_pre {S R:Type} {step:S→Option (S ⊕ R)} (c:S→Int) (g:S→S) (n:Int) (hs:∀s,0≤c s→c s<n→step s=some (.inl (g s))∧c (g s)=c s+1):∀(k:Nat) (s:S),0≤c s→c s+k≤n→qAp step s=qAp step (itr g k s)
 | 0,s,_,_=>rfl
 | k+1,s,h0,hk=>by
  obtain ⟨h1,h2⟩:=hs s h0 (by omega);rw [qAl h1];exact while_pre c g n hs k (g s) (by omega) (by omega)
theorem itr_congr {S:Type} {g g':S→S} (c:S→Int) (n:Int) (h:∀s,0≤c s→c s<n→g s=g' s) (hc:∀s,c (g s)=c s+1):∀(k:Nat) (s:S),0≤c s→c s+k≤n→itr g k s=itr g' k s
 | 0,_,_,_=>rfl
 | k+1,s,h0,hk=>by
  have e:=hc s;rw [itr,itr,itr_congr c n h hc k (g s) (by omega) (by omega),h s h0 (by omega)]
theorem while_map {S T R:Type} {step:S→Option (S ⊕ R)} (f:T→S) (c:T→Int) (g:T→T) (out:T→R) (n:Int) (hs:∀t,0≤c t→c t<n→step (f t)=some (.inl (f (g t)))∧c (g t)=c t+1) (he:∀t,n≤c t→step (f t)=some (.inr (out t))):∀(k:Nat) (t:T),0≤c t→(n - c t).toNat=k→qAp step (f t)=some (out (itr g k t))
 | 0,t,h0,hk=>qAt (he t (by omega))
 | k+1,t,h0,hk=>by
  obtain ⟨h1,h2⟩:=hs t h0 (by omega);rw [qAl h1];exact while_map f c g out n hs he k (g t) (by omega) (by omega)
theorem getD_nrm {n i:Nat} (l:List Int) (h:i<n):(nrm n l).getD i 0=l.getD i 0:=by
 have key:∀(n j i:Nat),i<n→(nrmI l n j).getD i 0=l.getD (j+i) 0:=by
  intro n;induction n with
  | zero=>intro j i h; omega
  | succ n ih =>
   intro j i h;cases i with
   | zero=>rfl
   | succ i =>
    show (nrmI l n (j+1)).getD i 0=_;rw [ih (j+1) i (by omega),show j+1+i=j+(i+1) by omega]
 rw [nrm,key n 0 i h,Nat.zero_add]
theorem getD_blk {l:List Int} {a k i:Nat} (h:i<k):((l.drop a).take k).getD i 0=l.getD (a+i) 0:=by
 simp only [List.getD_eq_getElem?_getD];rw [List.getElem?_take_of_lt h,List.getElem?_drop]
abbrev T9:=Int × Int × Int × Int × Int × Int × Int × Int × Int
def l8 (x:T9):List Int:=[x.1,x.2.1,x.2.2.1,x.2.2.2.1,x.2.2.2.2.1,x.2.2.2.2.2.1,x.2.2.2.2.2.2.1,x.2.2.2.2.2.2.2.1]
def il8 (x:T9):Int × List Int:=(x.2.2.2.2.2.2.2.2,l8 x)
theorem add_swap32 (a b c:Int):((a+b) % 4294967296+c) % 4294967296=((a+c) % 4294967296+b) % 4294967296:=by omega
theorem add_swap64 (a b c:Int):((a+b) % 18446744073709551616+c) % 18446744073709551616=((a+c) % 18446744073709551616+b) % 18446744073709551616:=by omega
def bk32 (h b:List Int):List Int:=add32 (rnd32 h (wrd32 b)) h
theorem s32A_blk {i:Int} (h0:0≤i) (h1:i<16) (r w:List Int):s32A i (nrm 128 r) w=s32A i (nrm 128 (r.take 64)) w:=by
 unfold s32A;simp only [qBi];have e:∀j,j<4→(nrm 128 r).getD ((Int.toNat (4*i))+j) 0=(nrm 128 (r.take 64)).getD ((Int.toNat (4*i))+j) 0:=fun j hj=>by
  rw [getD_nrm _ (by omega),getD_nrm _ (by omega),List.getD_eq_getElem?_getD,List.getD_eq_getElem?_getD,List.getElem?_take_of_lt (by omega)]
 rw [e 0 (by decide),e 1 (by decide),e 2 (by decide),e 3 (by decide)]
theorem wrd32_take (r:List Int):wrd32 r=wrd32 (r.take 64):=by
 unfold wrd32;rw [itr_congr (g':=fun x=>s32A x.1 (nrm 128 (r.take 64)) x.2) (fun x:Int × List Int=>x.1) 16 (fun s h0 h1=>s32A_blk h0 h1 r s.2) (fun s=>rfl) 16 _ (by show (0:Int)≤0; decide) (by show (0:Int)+(16:Nat)≤16; decide)]
theorem bk32_take (h b:List Int):bk32 h b=bk32 h (b.take 64):=by unfold bk32; rw [wrd32_take]
theorem itr_len {n:Nat} {g:Int × List Int→Int × List Int} (hg:∀x,x.2.length=n→(g x).2.length=n):∀(k:Nat) (x:Int × List Int),x.2.length=n→(itr g k x).2.length=n
 | 0,x,h=>h
 | k+1,x,h=>itr_len hg k (g x) (hg x h)
theorem bk32_len (h b:List Int):(bk32 h b).length=8:=by
 unfold bk32 add32;refine itr_len (fun x hx=>?_) 8 _ (qA8 _ _);show ((nrm 8 x.2).set _ _).length=8;rw [List.length_set,qA8]
theorem q_words32 (a:Nat) (all:List Int) (ha:a+64≤all.length) (hl:all.length≤140737488355328):zax_p1 (a:Int) 0 all (nrm 64 [])=some (wrd32 ((all.drop a).take 64)):=by
 unfold zax_p1;have hA:∀s:Int × List Int,0≤s.1→s.1<16→qCp (a:Int) s.1 all s.2=some (.inl (s32A s.1 (nrm 128 ((all.drop a).take 64)) s.2))∧(s32A s.1 (nrm 128 ((all.drop a).take 64)) s.2).1=s.1+1:=fun s h0 h1=>by
  refine ⟨?_,rfl⟩;have e:∀j:Nat,j<4→(nrm 128 (nrm 128 ((all.drop a).take 64))).getD ((Int.toNat (4*s.1))+j) 0=all.getD (Int.toNat ((a:Int)+4*s.1+j)) 0:=fun j hj=>by
   rw [qBi,getD_nrm _ (by omega),getD_blk (by omega),show a+(Int.toNat (4*s.1)+j)=Int.toNat ((a:Int)+4*s.1+j) by omega]
  unfold qCp;rw [deT (by omega),cnT,deT (by omega),cnT]
  iterate 19 refine (qAb (by first | decide | (unfold qAe; omega) | omega) _).trans ?_
  unfold s32A;rw [e 0 (by decide),e 1 (by decide),e 2 (by decide),e 3 (by decide)];simp only [Int.natCast_zero,Int.add_zero];rfl
 obtain ⟨ws,hws⟩:∃ws,ws=(itr (fun x:Int × List Int=>s32A x.1 (nrm 128 ((all.drop a).take 64)) x.2) 16 (0,nrm 64 [])).2:=⟨_,rfl⟩;have hst:(itr (fun x:Int × List Int=>s32A x.1 (nrm 128 ((all.drop a).take 64)) x.2) 16 (0,nrm 64 []))=(16,nrm 64 ws):=by
  have hl:ws.length=64:=by
   rw [hws];exact itr_len (fun x hx=>by
    show ((nrm 64 x.2).set _ _).length=64;rw [List.length_set,qA8]) 16 _ (qA8 _ _)
  have hi:(itr (fun x:Int × List Int=>s32A x.1 (nrm 128 ((all.drop a).take 64)) x.2) 16 (0,nrm 64 [])).1=16:=rfl;rw [qCs hl];exact Prod.ext hi hws.symm
 rw [while_pre (fun s:Int × List Int=>s.1) (fun x=>s32A x.1 (nrm 128 ((all.drop a).take 64)) x.2) 16 hA 16 (0,nrm 64 []) (by show (0:Int)≤0; decide) (by show (0:Int)+(16:Nat)≤16; decide),hst];unfold wrd32;rw [←hws];refine qBc (fun x=>x.1) (fun x=>s32B x.1 x.2) (fun x=>x.2) (fun x=>16≤x.1) 64 (fun x hi hn=>?_) (fun x hi hn=>?_) _ _ (Int.le_refl _) rfl
 ·refine ⟨?_,rfl,by show 16≤x.1+1; omega⟩;unfold qCp;rw [deT hn,cnT,deF (by omega),cnF]
  iterate 14 refine (qAb (by first | decide | (unfold qAe; omega) | omega) _).trans ?_
  rw [turn32_7,turn32_18,turn32_17,turn32_19];simp only [obS]
  iterate 3 refine (qAb (by first | decide | (unfold qAe; omega) | omega) _).trans ?_
  unfold s32B;rw [add_swap32 _ _ ((nrm 64 x.2).getD (Int.toNat (x.1 - (7:Int))) 0)]
 ·unfold qCp;rw [deF (by omega),cnF]
theorem q_rounds32 (h ws:List Int):zax_p2 0 (nrm 64 ws) (nrm 8 h)=some (l8 (rnd32 h ws)):=by
 unfold zax_p2 rnd32;have e0:((0:Int),nrm 8 h)=il8 ((nrm 8 h).getD 0 0,(nrm 8 h).getD 1 0,(nrm 8 h).getD 2 0,(nrm 8 h).getD 3 0,(nrm 8 h).getD 4 0,(nrm 8 h).getD 5 0,(nrm 8 h).getD 6 0,(nrm 8 h).getD 7 0,0):=rfl;rw [e0];refine while_map il8 (fun x:T9=>x.2.2.2.2.2.2.2.2) (fun x=>s32C x.1 x.2.1 x.2.2.1 x.2.2.2.1 x.2.2.2.2.1 x.2.2.2.2.2.1 x.2.2.2.2.2.2.1 x.2.2.2.2.2.2.2.1 x.2.2.2.2.2.2.2.2 (nrm 64 ws)) l8 64 (fun t h0 h1=>⟨?_,rfl⟩) (fun t h1=>?_) 64 _ (Int.le_refl _) rfl
 ·obtain ⟨a,b,c,d,e,f,g,hh,i⟩:=t;show qCq i (nrm 64 ws) [a,b,c,d,e,f,g,hh]=_;have h0:0≤i:=h0;have h1:i<64:=h1;unfold qCq;rw [deT h1,cnT];refine (qAb ⟨h0,h1⟩ _).trans ((qAb (by rw [shaK256_len]; omega) _).trans ((qAb ⟨h0,h1⟩ _).trans ((qAb (by omega) _).trans ?_)));rw [turn32_6,turn32_11,turn32_25,turn32_2,turn32_13,turn32_22];simp only [obS];refine (qAb (by unfold qAe; omega) _).trans ?_;simp only [List.getD_cons_zero,List.getD_cons_succ];rw [←ch32,←maj32];rfl
 ·obtain ⟨a,b,c,d,e,f,g,hh,i⟩:=t;show qCq i (nrm 64 ws) [a,b,c,d,e,f,g,hh]=_;have h1:64≤i:=h1;unfold qCq;rw [deF (by omega),cnF];rfl
theorem q_add32 (h:List Int) (x:T9):zax_p3 0 (nrm 8 h) (l8 x)=some (add32 x h):=by
 unfold zax_p3 add32;refine qBc (fun y=>y.1) (fun y=>s32D x.1 x.2.1 x.2.2.1 x.2.2.2.1 x.2.2.2.2.1 x.2.2.2.2.2.1 x.2.2.2.2.2.2.1 x.2.2.2.2.2.2.2.1 y.1 y.2) (fun y=>y.2) (fun y=>0≤y.1) 8 (fun y hi hn=>?_) (fun y hi hn=>?_) 8 (0,nrm 8 h) (Int.le_refl _) rfl
 ·refine ⟨?_,rfl,by show 0≤y.1+1; omega⟩;unfold qEs;rw [deT hn,cnT]
  iterate 7 refine (qAb (by first | (unfold qAe; omega) | omega) _).trans ?_
  rfl
 ·unfold qEs;rw [deF (by omega),cnF]
theorem l8_len (x:T9):(l8 x).length=8:=rfl
def fb (z:Nat) (bk:List Int→List Int→List Int):Nat→List Int→List Int→List Int
 | 0,h,_=>h
 | k+1,h,l=>fb z bk k (bk h (l.take z)) (l.drop z)
theorem q_blocks32 (all:List Int) (hl:all.length≤140737488355328):∀(j i:Nat) (h:List Int),h.length=8→64*(i+j)=all.length→zax_p0 ((64*i:Nat):Int) h all=some (fb 64 bk32 j h (all.drop (64*i)))
 | 0,i,h,hh,hij=>by
  unfold zax_p0;refine qAt ?_;unfold qDg;rw [deF (by omega),cnF];rfl
 | j+1,i,h,hh,hij=>by
  have ih:=q_blocks32 all hl j (i+1) (bk32 h ((all.drop (64*i)).take 64)) (bk32_len _ _) (by omega);have hst:qDg ((64*i:Nat):Int) h all=some (.inl (((64*(i+1):Nat):Int),bk32 h ((all.drop (64*i)).take 64))):=by
   unfold qDg;rw [deT (by omega),cnT,q_words32 (64*i) all (by omega) hl,obS,qBi,q_rounds32,obS,qBi,qCs (l8_len _),q_add32,obS];refine (qAb (by unfold qAe; omega) _).trans ?_;rw [show ((64*i:Nat):Int)+64=((64*(i+1):Nat):Int) by omega];rfl
  unfold zax_p0 at ih ⊢;rw [qAl hst,ih,fb,List.drop_drop,show 64*i+64=64*(i+1) by omega]
theorem q_out32 (h:List Int):zax_p4 0 (nrm 8 h) []=some (itr (by32 h) 8 (0,[])).2:=by
 unfold zax_p4;refine qBc (fun x=>x.1) (by32 h) (fun x=>x.2) (fun x=>0≤x.1∧(x.2.length:Int)≤4*x.1) 8 (fun x hx hn=>?_) (fun x hx hn=>?_) _ (0,[]) ⟨Int.le_refl _,by simp⟩ rfl
 ·obtain ⟨h1,h2⟩:=hx;refine ⟨?_,rfl,by show 0≤x.1+1; omega,by show ((x.2++[_,_,_,_]).length:Int)≤4*(x.1+1); rw [List.length_append]; simp only [List.length_cons,List.length_nil]; omega⟩;unfold qEt;rw [deT hn,cnT]
  iterate 13 refine (qAb (by first | decide | (unfold qAe; omega) | omega | (simp only [List.length_cons,List.length_nil]; omega)) _).trans ?_
  simp only [low255_32,qBi];rfl
 ·unfold qEt;rw [deF (by omega),cnF]
def bk64 (h b:List Int):List Int:=add64 (rnd64 h (wrd64 b)) h
theorem bk64_len (h b:List Int):(bk64 h b).length=8:=by
 unfold bk64 add64;refine itr_len (fun x hx=>?_) 8 _ (qA8 _ _);show ((nrm 8 x.2).set _ _).length=8;rw [List.length_set,qA8]
theorem s64A_len {i:Int} {r:List Int} (x:Int × List Int) (hx:x.2.length=80):(s64A i (8*i).toNat 8 8 x.1 r x.2).2.length=80:=by
 show ((nrm 80 x.2).set _ _).length=80;rw [List.length_set,qA8]
theorem w64A_len {r:List Int} (x:Int × List Int) (hx:x.2.length=80):(w64A r x).2.length=80:=by
 unfold w64A;exact itr_len (fun y hy=>s64A_len y hy) 8 _ (qA8 _ _)
theorem q_word64 (a:Nat) (i:Int) (h0:0≤i) (h1:i<16) (all:List Int) (ha:a+128≤all.length) (hl:all.length≤140737488355328) (ws:List Int):zaw_p4 (a:Int) i 0 all (nrm 80 ws)=some (w64A (nrm 128 ((all.drop a).take 128)) (i,ws)).2:=by
 unfold zaw_p4 w64A;refine qBc (fun y=>y.1) (fun y=>s64A i (8*i).toNat 8 8 y.1 (nrm 128 ((all.drop a).take 128)) y.2) (fun y=>y.2) (fun y=>0≤y.1) 8 (fun y hi hn=>?_) (fun y hi hn=>?_) 8 (0,nrm 80 ws) (Int.le_refl _) rfl
 ·refine ⟨?_,rfl,by show 0≤y.1+1; omega⟩;have hi:0≤y.1:=hi;have hn:y.1<8:=hn;have e:(nrm 128 (nrm 128 ((all.drop a).take 128))).getD ((8*i).toNat+Int.toNat y.1) 0=all.getD (Int.toNat ((a:Int)+8*i+y.1)) 0:=by
   rw [qBi,getD_nrm _ (by omega),getD_blk (by omega),show a+((8*i).toNat+Int.toNat y.1)=Int.toNat ((a:Int)+8*i+y.1) by omega]
  unfold qEq;rw [deT hn,cnT]
  iterate 11 refine (qAb (by first | decide | (unfold qAe; omega) | omega) _).trans ?_
  unfold s64A;rw [e];rfl
 ·unfold qEq;rw [deF (by omega),cnF]
theorem q_words64 (a:Nat) (all h:List Int) (hh:h.length=8) (ha:a+128≤all.length) (hl:all.length≤140737488355328):zaw_p3 (a:Int) 0 h all (nrm 80 [])=some (h,wrd64 ((all.drop a).take 128)):=by
 unfold zaw_p3;have key:∀(k:Nat) (i:Int) (ws:List Int),0≤i→i+k=16→ws.length=80→qAp (fun x:(Int × (List Int) × (List Int))=>qBb (a:Int) x.1 x.2.1 all x.2.2) (i,h,ws)=qAp (fun x:(Int × (List Int) × (List Int))=>qBb (a:Int) x.1 x.2.1 all x.2.2) (16,h,(itr (w64A (nrm 128 ((all.drop a).take 128))) k (i,ws)).2):=by
  intro k;induction k with
  | zero =>
   intro i ws h0 hk _;rw [show i=16 by omega];rfl
  | succ k ih =>
   intro i ws h0 hk hw;have hst:qBb (a:Int) i h all ws=some (.inl (i+1,h,(w64A (nrm 128 ((all.drop a).take 128)) (i,ws)).2)):=by
    unfold qBb;rw [deT (by omega),cnT,deT (by omega),cnT,q_word64 a i h0 (by omega) all ha hl ws,obS,qCs hh];exact qAb (by unfold qAe; omega) _
   rw [qAl hst,ih (i+1) _ (by omega) (by omega) (w64A_len (i,ws) hw)];rfl
 rw [key 16 0 (nrm 80 []) (Int.le_refl _) rfl (qA8 _ _)];have hl80:(itr (w64A (nrm 128 ((all.drop a).take 128))) 16 (0,nrm 80 [])).2.length=80:=itr_len (fun x hx=>w64A_len x hx) 16 _ (qA8 _ _);unfold wrd64;rw [show ((16:Int),h,(itr (w64A (nrm 128 ((all.drop a).take 128))) 16 (0,nrm 80 [])).2)=(fun t:Int × List Int=>(t.1,h,t.2)) (16,nrm 80 (itr (w64A (nrm 128 ((all.drop a).take 128))) 16 (0,nrm 80 [])).2) by rw [qCs hl80]];have hloop:=while_map (step:=fun x:(Int × (List Int) × (List Int))=>qBb (a:Int) x.1 x.2.1 all x.2.2) (fun t:Int × List Int=>(t.1,h,t.2)) (fun t=>t.1 - 16) (fun x=>s64B x.1 x.2) (fun x=>(h,x.2)) 64 (fun x hi hn=>?_) (fun x hn=>?_) 64 (16,nrm 80 (itr (w64A (nrm 128 ((all.drop a).take 128))) 16 (0,nrm 80 [])).2) (by show (0:Int)≤16 - 16; decide) rfl
 ·exact hloop
 ·have hi:0≤x.1 - 16:=hi;have hn:x.1 - 16<64:=hn;refine ⟨?_,by show x.1+1 - 16=x.1 - 16+1; omega⟩;show qBb (a:Int) x.1 h all x.2=_;unfold qBb;rw [deT (by omega),cnT,deF (by omega),cnF]
  iterate 14 refine (qAb (by first | decide | (unfold qAe; omega) | omega) _).trans ?_
  rw [turn64_1,turn64_8,turn64_19,turn64_61];simp only [obS]
  iterate 3 refine (qAb (by first | decide | (unfold qAe; omega) | omega) _).trans ?_
  unfold s64B;rw [add_swap64 _ _ ((nrm 80 x.2).getD (Int.toNat (x.1 - (7:Int))) 0)]
 ·have hn:64≤x.1 - 16:=hn;show qBb (a:Int) x.1 h all x.2=_;unfold qBb;rw [deF (by omega),cnF]
theorem q_rounds64 (h ws:List Int):zaw_p5 0 (nrm 80 ws) (nrm 8 h)=some (l8 (rnd64 h ws)):=by
 unfold zaw_p5 rnd64;have e0:((0:Int),nrm 8 h)=il8 ((nrm 8 h).getD 0 0,(nrm 8 h).getD 1 0,(nrm 8 h).getD 2 0,(nrm 8 h).getD 3 0,(nrm 8 h).getD 4 0,(nrm 8 h).getD 5 0,(nrm 8 h).getD 6 0,(nrm 8 h).getD 7 0,0):=rfl;rw [e0];refine while_map il8 (fun x:T9=>x.2.2.2.2.2.2.2.2) (fun x=>s64C x.1 x.2.1 x.2.2.1 x.2.2.2.1 x.2.2.2.2.1 x.2.2.2.2.2.1 x.2.2.2.2.2.2.1 x.2.2.2.2.2.2.2.1 x.2.2.2.2.2.2.2.2 (nrm 80 ws)) l8 80 (fun t h0 h1=>⟨?_,rfl⟩) (fun t h1=>?_) 80 _ (Int.le_refl _) rfl
 ·obtain ⟨a,b,c,d,e,f,g,hh,i⟩:=t;show qCn i (nrm 80 ws) [a,b,c,d,e,f,g,hh]=_;have h0:0≤i:=h0;have h1:i<80:=h1;unfold qCn;rw [deT h1,cnT];refine (qAb ⟨h0,h1⟩ _).trans ((qAb (by rw [shaK512_len]; omega) _).trans ((qAb ⟨h0,h1⟩ _).trans ((qAb (by omega) _).trans ?_)));rw [turn64_14,turn64_18,turn64_41,turn64_28,turn64_34,turn64_39];simp only [obS];refine (qAb (by unfold qAe; omega) _).trans ?_;simp only [List.getD_cons_zero,List.getD_cons_succ];rw [←ch64,←maj64];rfl
 ·obtain ⟨a,b,c,d,e,f,g,hh,i⟩:=t;show qCn i (nrm 80 ws) [a,b,c,d,e,f,g,hh]=_;have h1:80≤i:=h1;unfold qCn;rw [deF (by omega),cnF];rfl
theorem q_add64 (h:List Int) (x:T9):zaw_p6 0 (nrm 8 h) (l8 x)=some (add64 x h):=by
 unfold zaw_p6 add64;refine qBc (fun y=>y.1) (fun y=>s64D x.1 x.2.1 x.2.2.1 x.2.2.2.1 x.2.2.2.2.1 x.2.2.2.2.2.1 x.2.2.2.2.2.2.1 x.2.2.2.2.2.2.2.1 y.1 y.2) (fun y=>y.2) (fun y=>0≤y.1) 8 (fun y hi hn=>?_) (fun y hi hn=>?_) 8 (0,nrm 8 h) (Int.le_refl _) rfl
 ·refine ⟨?_,rfl,by show 0≤y.1+1; omega⟩;unfold qEr;rw [deT hn,cnT]
  iterate 7 refine (qAb (by first | (unfold qAe; omega) | omega) _).trans ?_
  rfl
 ·unfold qEr;rw [deF (by omega),cnF]
theorem q_blocks64 (all:List Int) (hl:all.length≤140737488355328):∀(j i:Nat) (h:List Int),h.length=8→128*(i+j)=all.length→zaw_p2 ((128*i:Nat):Int) h all=some (fb 128 bk64 j h (all.drop (128*i)))
 | 0,i,h,hh,hij=>by
  unfold zaw_p2;refine qAt ?_;unfold qDe;rw [deF (by omega),cnF];rfl
 | j+1,i,h,hh,hij=>by
  have ih:=q_blocks64 all hl j (i+1) (bk64 h ((all.drop (128*i)).take 128)) (bk64_len _ _) (by omega);have hst:qDe ((128*i:Nat):Int) h all=some (.inl (((128*(i+1):Nat):Int),bk64 h ((all.drop (128*i)).take 128))):=by
   unfold qDe;rw [deT (by omega),cnT,q_words64 (128*i) all (nrm 8 h) (qA8 _ _) (by omega) hl,obS];dsimp only;rw [qBi,q_rounds64,obS,qBi,qCs (l8_len _),q_add64,obS];refine (qAb (by unfold qAe; omega) _).trans ?_;rw [show ((128*i:Nat):Int)+128=((128*(i+1):Nat):Int) by omega];rfl
  unfold zaw_p2 at ih ⊢;rw [qAl hst,ih,fb,List.drop_drop,show 128*i+128=128*(i+1) by omega]
theorem q_out8 (h:List Int) (i:Int) (h0:0≤i) (h1:i<8) (out:List Int) (ho:out.length≤500):zaw_p8 i 7 (nrm 8 h) out=some (itr (byt8 ((nrm 8 h).getD (Int.toNat i) 0)) 8 (56,out)).2:=by
 have key:∀(k:Nat) (j:Int) (out:List Int),j=(k:Int) - 1→k≤8→out.length+k≤600→zaw_p8 i j (nrm 8 h) out=some (itr (byt8 ((nrm 8 h).getD (Int.toNat i) 0)) k (8*j,out)).2:=by
  intro k;induction k with
  | zero =>
   intro j out hj _ _;unfold zaw_p8;refine qAt ?_;unfold qDf;rw [deF (by omega),cnF];rfl
  | succ k ih =>
   intro j out hj hk hl;have hst:qDf i j (nrm 8 h) out=some (.inl (j - 1,(byt8 ((nrm 8 h).getD (Int.toNat i) 0) (8*j,out)).2)):=by
    unfold qDf;rw [deT (by omega),cnT]
    iterate 6 refine (qAb (by first | decide | (unfold qAe; omega) | omega | (simp only [List.length_cons,List.length_nil]; omega)) _).trans ?_
    simp only [low255_64,qBi];rw [show (8*j) % 18446744073709551616=8*j by omega];rfl
   have:=ih (j - 1) ((byt8 ((nrm 8 h).getD (Int.toNat i) 0) (8*j,out)).2) (by omega) (by omega) (by
    show (out++[_]).length+k≤600;rw [List.length_append,List.length_singleton]; omega)
   unfold zaw_p8 at this ⊢;rw [qAl hst,this,show 8*(j - 1)=8*j - 8 by omega];rfl
 exact key 8 7 out rfl (Nat.le_refl _) (by omega)
theorem q_out64 (h:List Int):zaw_p7 0 (nrm 8 h) []=some (itr (by64 h) 8 (0,[])).2:=by
 have key:∀(k:Nat) (i:Int) (out:List Int),0≤i→i+k=8→out.length≤8*i.toNat→zaw_p7 i (nrm 8 h) out=some (itr (by64 h) k (i,out)).2:=by
  intro k;induction k with
  | zero =>
   intro i out h0 hi _;unfold zaw_p7;refine qAt ?_;show qCo i (nrm 8 h) out=_;unfold qCo;rw [deF (by omega),cnF];rfl
  | succ k ih =>
   intro i out h0 hi hl;have hst:qCo i (nrm 8 h) out=some (.inl (i+1,nrm 8 h,(by64 h (i,out)).2)):=by
    unfold qCo;rw [deT (by omega),cnT,qBi,q_out8 h i h0 (by omega) out (by omega),obS];exact qAb (by unfold qAe; omega) _
   have:=ih (i+1) (by64 h (i,out)).2 (by omega) (by omega) (by
    show (itr _ 8 (56,out)).2.length≤_;rw [byt8_len];show out.length+8≤_;omega)
   unfold zaw_p7 at this ⊢;rw [qAl hst,this];rfl
 exact key 8 0 [] (Int.le_refl _) rfl (by simp)
def lens (n:Int):Nat→Int→List Int
 | 0,_=>[]
 | k+1,i=>lenB n i::lens n k (i - 1)
theorem lens_itr (n:Int):∀(k:Nat) (i:Int) (L:List Int),(itr (lenS n) k (i,L)).2=L++lens n k i
 | 0,i,L=>by rw [lens,List.append_nil]; rfl
 | k+1,i,L=>by
  show (itr (lenS n) k (i - 1,L++[lenB n i])).2=_;rw [lens_itr n k,List.append_assoc];rfl
theorem lens_len (n:Int):∀(k:Nat) (i:Int),(lens n k i).length=k
 | 0,_=>rfl
 | k+1,i=>by rw [lens,List.length_cons,lens_len n k]
theorem lens_high {n:Int} (h0:0≤n) (hn:n<2305843009213693952):lens n 16 15=List.replicate 8 0++lens n 8 7:=by
 have e:∀i:Int,8≤i→lenB n i=0:=fun i hi=>by
  unfold lenB;rw [deF (by omega),cnF];cases decide (i=8) with
  | true =>
   rw [cnT];omega
  | false=>rfl
 have h:lens n 16 15=lenB n 15::lenB n 14::lenB n 13::lenB n 12::lenB n 11::lenB n 10::lenB n 9::lenB n 8::lens n 8 7:=rfl;rw [h,e 15 (by decide),e 14 (by decide),e 13 (by decide),e 12 (by decide),e 11 (by decide),e 10 (by decide),e 9 (by decide),e 8 (by decide)];rfl
def zeq (size n:Nat):Nat:=(size - 8+size - (n+1) % size) % size
theorem q_pad (size:Nat) (hs:size=64∨size=128):∀(k:Nat) (out:List Int),(size - 8+size - out.length % size) % size=k→out.length+k≤140737488355328→zav_p0 (size:Int) out=some (out++List.replicate k 0)
 | 0,out,hk,hl=>by
  unfold zav_p0;refine qAt ?_;unfold qDb
  iterate 2 refine (qAb (by first | (unfold qAe; omega) | omega) _).trans ?_
  rw [deT (by rcases hs with rfl | rfl <;> omega),Bool.not_true,cnF]
  simp
 | k+1,out,hk,hl=>by
  have hst:qDb (size:Int) out=some (.inl (out++[0])):=by
   unfold qDb
   iterate 2 refine (qAb (by first | (unfold qAe; omega) | omega) _).trans ?_
   rw [deF (by rcases hs with rfl | rfl <;> omega),Bool.not_false,cnT]
   exact qAb (by simp only [List.length_cons,List.length_nil]; omega) _
  have ih:=q_pad size hs k (out++[0]) (by rw [List.length_append,List.length_singleton]; rcases hs with rfl | rfl <;> omega) (by rw [List.length_append,List.length_singleton]; omega)
  unfold zav_p0 at ih ⊢;rw [qAl hst,ih,List.append_assoc];rfl
theorem q_len (n:Nat) (hn:n<140737488351233):∀(k:Nat) (i:Int) (out:List Int),i=(k:Int) - 1→k≤8→out.length+k≤140737488355328→zav_p1 ((((n:Int) % 18446744073709551616)*(8:Int)) % 18446744073709551616) i out=some (out++lens (n:Int) k i)
 | 0,i,out,hi,hk,hl=>by
  unfold zav_p1;refine qAt ?_;unfold qDc;rw [deF (by omega),cnF,lens,List.append_nil]
 | k+1,i,out,hi,hk,hl=>by
  have hst:qDc ((((n:Int) % 18446744073709551616)*(8:Int)) % 18446744073709551616) i out=some (.inl (i - 1,out++[lenB (n:Int) i])):=by
   unfold qDc;rw [deT (by omega),cnT]
   iterate 4 refine (qAb (by first | (unfold qAe; omega) | omega | (simp only [List.length_cons,List.length_nil]; omega)) _).trans ?_
   simp only [low255_64];unfold lenB;rw [deT (by omega),cnT,show (8*i) % 18446744073709551616=8*i by omega,show (n:Int) % 18446744073709551616=n by omega];rfl
  have ih:=q_len n hn k (i - 1) (out++[lenB (n:Int) i]) (by omega) (by omega) (by rw [List.length_append,List.length_singleton]; omega);unfold zav_p1 at ih ⊢;rw [qAl hst,ih,List.append_assoc];rfl
def fil (size:Nat) (b:List Int):List Int:=b++([128]++List.replicate (zeq size b.length) 0++lens (b.length:Int) 8 7)
theorem q_filled (size:Nat) (hs:size=64∨size=128) (b:List Int) (hb:b.length≤140737488351232):zav_s b (size:Int)=some (fil size b):=by
 have hz:zeq size b.length<128:=by
  unfold zeq;rcases hs with rfl | rfl <;> omega
 have hl1:(b++[(128:Int)]).length=b.length+1:=by rw [List.length_append,List.length_singleton]
 unfold zav_s;rw [qAb (by omega),qAb (by simp only [List.length_cons,List.length_nil]; omega),q_pad size hs (zeq size b.length) (b++[128]) (by rw [hl1]; rfl) (by rw [hl1]; omega),obS,
  q_len b.length (by omega) 8 7 _ rfl (Nat.le_refl _) (by rw [List.length_append,List.length_replicate,hl1]; omega),obS]
 unfold fil;simp only [List.append_assoc]
theorem of64 {n:Nat} (hn:n<18446744073709551616):(BitVec.ofInt 64 (n:Int)).toNat=n:=by
 rw [BitVec.ofInt_natCast,BitVec.toNat_ofNat,Nat.mod_eq_of_lt (by omega)]
theorem of8 {n:Nat} (hn:n<256):(BitVec.ofInt 8 (n:Int)).toNat=n:=by
 rw [BitVec.ofInt_natCast,BitVec.toNat_ofNat,Nat.mod_eq_of_lt (by omega)]
theorem andM {n m:Nat} (hn:n<18446744073709551616) (hm:m<18446744073709551616):qAd .u64 (n:Int) (m:Int)=((n &&& m:Nat):Int):=by
 unfold qAd;show IntKind.u64.wrap ((BitVec.ofInt 64 (n:Int) &&& BitVec.ofInt 64 (m:Int)).toNat:Int)=_;rw [BitVec.toNat_and,of64 hn,of64 hm,u64_eq];have:n &&& m≤n:=Nat.and_le_left;omega
theorem orM {n m:Nat} (hn:n<18446744073709551616) (hm:m<18446744073709551616):qA6 .u64 (n:Int) (m:Int)=((n ||| m:Nat):Int):=by
 unfold qA6;show IntKind.u64.wrap ((BitVec.ofInt 64 (n:Int) ||| BitVec.ofInt 64 (m:Int)).toNat:Int)=_
 rw [BitVec.toNat_or,of64 hn,of64 hm,u64_eq];have:n ||| m<2 ^ 64:=Nat.or_lt_two_pow hn hm
 omega
theorem and8 {n m:Nat} (hn:n<256) (hm:m<256):qAd .u8 (n:Int) (m:Int)=((n &&& m:Nat):Int):=by
 unfold qAd;show IntKind.u8.wrap ((BitVec.ofInt 8 (n:Int) &&& BitVec.ofInt 8 (m:Int)).toNat:Int)=_;rw [BitVec.toNat_and,of8 hn,of8 hm,u8_eq];have:n &&& m≤n:=Nat.and_le_left;omega
theorem or8 {n m:Nat} (hn:n<256) (hm:m<256):qA6 .u8 (n:Int) (m:Int)=((n ||| m:Nat):Int):=by
 unfold qA6;show IntKind.u8.wrap ((BitVec.ofInt 8 (n:Int) ||| BitVec.ofInt 8 (m:Int)).toNat:Int)=_
 rw [BitVec.toNat_or,of8 hn,of8 hm,u8_eq];have:n ||| m<2 ^ 8:=Nat.or_lt_two_pow hn hm
 omega
theorem or_add (k a b:Nat) (hb:b<2 ^ k):2 ^ k*a ||| b=2 ^ k*a+b:=(Nat.two_pow_add_eq_or_of_lt hb a).symm
theorem and_low (k a:Nat):a &&& (2 ^ k - 1)=a % 2 ^ k:=Nat.and_two_pow_sub_one_eq_mod a k
def URL:BA:=⟨#[65,66,67,68,69,70,71,72,73,74,75,76,77,78,79,80,81,82,83,84,85,86,87,88,89,90,97,98,99,100,101,102,103,104,105,106,107,108,109,110,111,112,113,114,115,116,117,118,119,120,121,122,48,49,50,51,52,53,54,55,56,57,45,95]⟩
theorem URL_size:URL.size=64:=by decide
def sg (v:Nat):Int:=bAt URL (v:Int)
def nI (l:List Nat):List Int:=l.map (fun n:Nat=>(n:Int))
def tlT:List Nat→List Nat
 | _::_::_::r=>tlT r
 | l=>l
def h3:List Nat→List Nat
 | x::y::z::r=>x::y::z::h3 r
 | _=>[]
def e3:List Nat→List Nat
 | x::y::z::r=>(x*65536+y*256+z) / 262144::(x*65536+y*256+z) / 4096 % 64::(x*65536+y*256+z) / 64 % 64::(x*65536+y*256+z) % 64::e3 r
 | _=>[]
def eT:List Nat→List Nat
 | [x,y]=>[x / 4,x % 4*16+y / 16,y % 16*4]
 | [x]=>[x / 4,x % 4*16]
 | _=>[]
def encN (l:List Nat):List Nat:=e3 l++eT (tlT l)
theorem h3_tlT:∀l:List Nat,h3 l++tlT l=l
 | []=>rfl
 | [_]=>rfl
 | [_,_]=>rfl
 | x::y::z::r=>by
  show x::y::z::(h3 r++tlT r)=_;rw [h3_tlT r]
theorem tlT_len:∀l:List Nat,(tlT l).length<3
 | []=>by simp [tlT]
 | [_]=>by simp [tlT]
 | [_,_]=>by simp [tlT]
 | _::_::_::r=>tlT_len r
theorem tlT_in:∀l:List Nat,∀x∈tlT l,x∈l
 | [],x,h=>h
 | [_],x,h=>h
 | [_,_],x,h=>h
 | _::_::_::r,x,h=>List.mem_cons_of_mem _ (List.mem_cons_of_mem _ (List.mem_cons_of_mem _ (tlT_in r x h)))
theorem e3_len:∀l:List Nat,3*(e3 l).length=4*(h3 l).length
 | []=>rfl
 | [_]=>rfl
 | [_,_]=>rfl
 | _::_::_::r=>by
  have:=e3_len r;simp only [e3,h3,List.length_cons];omega
theorem nI_at (l:List Nat) (i:Nat) (h:i<l.length):(nI l).getD i (ET.dft .u8)=(l[i]:Int):=by simp [nI,h]
theorem e0_is {x y z:Nat} (hx:x<256) (hy:y<256) (hz:z<256) (r:List Nat):qAh (nI (x::y::z::r))=((x*65536+y*256+z:Nat):Int):=by
 show qA6 .u64 (qA6 .u64 ((((x:Int) % 18446744073709551616)*65536) % 18446744073709551616) ((((y:Int) % 18446744073709551616)*256) % 18446744073709551616)) ((z:Int) % 18446744073709551616)=_;rw [show (((x:Int) % 18446744073709551616)*65536) % 18446744073709551616=((2 ^ 16*x:Nat):Int) by omega,show (((y:Int) % 18446744073709551616)*256) % 18446744073709551616=((2 ^ 8*y:Nat):Int) by omega,show (z:Int) % 18446744073709551616=((z:Nat):Int) by omega];rw [orM (by omega) (by omega),or_add 16 x _ (by omega),show 2 ^ 16*x+2 ^ 8*y=2 ^ 8*(256*x+y) by omega,orM (by omega) (by omega),or_add 8 _ _ (by omega)];omega
theorem and63 {n:Nat} (hn:n<18446744073709551616):qAd .u64 (n:Int) (63:Int)=((n % 64:Nat):Int):=by
 rw [show (63:Int)=((2 ^ 6 - 1:Nat):Int) from rfl,andM hn (by decide),and_low]
theorem spell_loop:∀(l:List Nat) (out:List Int),(∀x∈l,x<256)→out.length+4*l.length≤1000000→zab_p0 URL (nI l) out=some (nI (tlT l),out++(e3 l).map sg)
 | [],out,_,_=>by
  unfold zab_p0;show qAp _ _=some (nI [],out++[]);rw [List.append_nil];exact qAt rfl
 | [x],out,_,_=>by
  unfold zab_p0;show qAp _ _=some (nI [x],out++[]);rw [List.append_nil];exact qAt rfl
 | [x,y],out,_,_=>by
  unfold zab_p0;show qAp _ _=some (nI [x,y],out++[]);rw [List.append_nil];exact qAt rfl
 | x::y::z::r,out,hl,ho=>by
  have hx:=hl x List.mem_cons_self;have hy:=hl y (List.mem_cons_of_mem _ List.mem_cons_self);have hz:=hl z (List.mem_cons_of_mem _ (List.mem_cons_of_mem _ List.mem_cons_self));have hlen:(nI (x::y::z::r)).length=r.length+3:=by simp [nI]
  simp only [List.length_cons] at ho;have hst:qEf URL (nI (x::y::z::r)) out=some (.inl (nI r,out++[sg ((x*65536+y*256+z) / 262144),sg ((x*65536+y*256+z) / 4096 % 64),sg ((x*65536+y*256+z) / 64 % 64),sg ((x*65536+y*256+z) % 64)])):=by
   unfold qEf;rw [e0_is hx hy hz,URL_size,hlen];generalize hV:x*65536+y*256+z=V
   rw [show ((V:Nat):Int) / 262144=((V / 262144:Nat):Int) by omega,show ((V:Nat):Int) / 4096=((V / 4096:Nat):Int) by omega,show ((V:Nat):Int) / 64=((V / 64:Nat):Int) by omega];rw [and63 (by omega),and63 (by omega),and63 (by omega)];rw [deT (by omega),cnT]
   repeat refine (qAb (by first | decide | omega | (simp only [List.length_cons,List.length_nil]; omega)) _).trans ?_
   show some (Sum.inl (((nI (x::y::z::r)).take (r.length+3)).drop 3,_))=_;rw [List.take_of_length_le (by rw [hlen]; omega)];rfl
  have ih:=spell_loop r (out++[sg ((x*65536+y*256+z) / 262144),sg ((x*65536+y*256+z) / 4096 % 64),sg ((x*65536+y*256+z) / 64 % 64),sg ((x*65536+y*256+z) % 64)]) (fun q hq=>hl q (List.mem_cons_of_mem _ (List.mem_cons_of_mem _ (List.mem_cons_of_mem _ hq)))) (by rw [List.length_append]; simp only [List.length_cons,List.length_nil]; omega);unfold zab_p0 at ih ⊢;rw [qAl hst,ih];simp [tlT,e3]
theorem tail2 {x y:Nat} (hx:x<256) (hy:y<256):qA6 .u8 (((qAd .u8 (x:Int) (3:Int))*16) % 256) ((y:Int) / 16)=((x % 4*16+y / 16:Nat):Int):=by
 rw [show (3:Int)=((2 ^ 2 - 1:Nat):Int) from rfl,and8 hx (by decide),and_low,show (((x % 2 ^ 2:Nat):Int)*16) % 256=((2 ^ 4*(x % 4):Nat):Int) by omega,show (y:Int) / 16=((y / 16:Nat):Int) by omega,or8 (by omega) (by omega),or_add 4 _ _ (by omega)];omega
theorem tail1 {x:Nat} (hx:x<256):((qAd .u8 (x:Int) (3:Int))*16) % 256=((x % 4*16:Nat):Int):=by
 rw [show (3:Int)=((2 ^ 2 - 1:Nat):Int) from rfl,and8 hx (by decide),and_low];omega
theorem tail3 {y:Nat} (hy:y<256):((qAd .u8 (y:Int) (15:Int))*4) % 256=((y % 16*4:Nat):Int):=by
 rw [show (15:Int)=((2 ^ 4 - 1:Nat):Int) from rfl,and8 hy (by decide),and_low];omega
theorem p_spell {l:List Nat} (hl:∀x∈l,x<256) (hn:l.length≤200000):zab_s (nI l) URL=some ((encN l).map sg):=by
 have hlen:(nI l).length=l.length:=by simp [nI]
 have hh:(h3 l).length+(tlT l).length=l.length:=by rw [←List.length_append,h3_tlT]
 have h3l:=e3_len l;unfold zab_s;rw [hlen]
 repeat refine (qAb (by first | (unfold qAe; omega) | omega) _).trans ?_
 rw [spell_loop l [] hl (by simp only [List.length_nil]; omega),obS];dsimp only;rw [List.nil_append];have hE:((e3 l).map sg).length≤500000:=by rw [List.length_map]; omega
 unfold encN;rw [List.map_append];generalize (e3 l).map sg=E at hE ⊢
 have ht:=tlT_len l;have hT:∀x∈tlT l,x<256:=fun x hx=>hl x (tlT_in l x hx)
 generalize tlT l=L at ht hT
 match L,ht,hT with
 | [],_,_=>simp [nI,eT]
 | [x],_,hT =>
  have hx:=hT x List.mem_cons_self;rw [deF (by simp [nI]),cnF,deT (by simp [nI]),cnT];rw [show (nI [x]).getD (Int.toNat 0) (ET.dft .u8)=(x:Int) from rfl,tail1 hx,show (x:Int) / 4=((x / 4:Nat):Int) by omega,URL_size,show (nI [x]).length=1 from rfl]
  repeat refine (qAb (by first | decide | omega | (simp only [List.length_cons,List.length_nil]; omega)) _).trans ?_
  rfl
 | [x,y],_,hT =>
  have hx:=hT x List.mem_cons_self;have hy:=hT y (List.mem_cons_of_mem _ List.mem_cons_self);rw [deT (by simp [nI]),cnT];rw [show (nI [x,y]).getD (Int.toNat 0) (ET.dft .u8)=(x:Int) from rfl,show (nI [x,y]).getD (Int.toNat 1) (ET.dft .u8)=(y:Int) from rfl,tail2 hx hy,tail3 hy,show (x:Int) / 4=((x / 4:Nat):Int) by omega,URL_size,show (nI [x,y]).length=2 from rfl]
  repeat refine (qAb (by first | decide | omega | (simp only [List.length_cons,List.length_nil]; omega)) _).trans ?_
  rfl
def encB (l:List Nat):BA:=qFf ((encN l).map sg)
theorem p_Encode {l:List Nat} (hl:∀x∈l,x<256) (hn:l.length≤200000):zaa_s (nI l)=some (encB l):=by
 unfold zaa_s;rw [show (⟨#[65,66,67,68,69,70,71,72,73,74,75,76,77,78,79,80,81,82,83,84,85,86,87,88,89,90,97,98,99,100,101,102,103,104,105,106,107,108,109,110,111,112,113,114,115,116,117,118,119,120,121,122,48,49,50,51,52,53,54,55,56,57,45,95]⟩:BA)=URL from rfl,p_spell hl hn];rfl
def hsh (a:Int):Int:=bif decide (a=1) || decide (a=4) || decide (a=7) || decide (a=10) then 1 else bif decide (a=2) || decide (a=5) || decide (a=8) || decide (a=11) then 2 else bif decide (a=3) || decide (a=6) || decide (a=9) || decide (a=12) then 3 else 0
theorem alg_cases (a:Int):a=1∨a=2∨a=3∨a=4∨a=5∨a=6∨a=7∨a=8∨a=9∨a=10∨a=11∨a=12∨(a≠1∧a≠2∧a≠3∧a≠4∧a≠5∧a≠6∧a≠7∧a≠8∧a≠9∧a≠10∧a≠11∧a≠12):=by omega
theorem p_hash (a:Int):zad_s a=some (hsh a):=by
 rcases alg_cases a with rfl | rfl | rfl | rfl | rfl | rfl | rfl | rfl | rfl | rfl | rfl | rfl | ⟨h1,h2,h3,h4,h5,h6,h7,h8,h9,h10,h11,h12⟩ <;> try rfl
 unfold zad_s zad_p0 zad_p1 hsh;simp [h1,h2,h3,h4,h5,h6,h7,h8,h9,h10,h11,h12]
theorem hsh_cases (a:Int):hsh a=0∨hsh a=1∨hsh a=2∨hsh a=3:=by
 unfold hsh;cases decide (a=1) || decide (a=4) || decide (a=7) || decide (a=10) <;> cases decide (a=2) || decide (a=5) || decide (a=8) || decide (a=11) <;> cases decide (a=3) || decide (a=6) || decide (a=9) || decide (a=12) <;> simp
def Byt (l:List Int):Prop:=∀x∈l,0≤x∧x<256
theorem Byt.app {l m:List Int} (h:Byt l) (g:Byt m):Byt (l++m):=fun x hx=>by
 rcases List.mem_append.1 hx with hx | hx
 ·exact h x hx
 ·exact g x hx
theorem byt_mod (x:Int):0≤x % 256∧x % 256<256:=⟨Int.emod_nonneg _ (by decide),Int.emod_lt_of_pos _ (by decide)⟩
theorem by32_byt (s:List Int):∀(k:Nat) (x:Int × List Int),Byt x.2→Byt (itr (by32 s) k x).2
 | 0,x,h=>h
 | k+1,x,h=>by32_byt s k (by32 s x) (h.app fun y hy=>by
  simp only [List.mem_cons,List.not_mem_nil,or_false] at hy;rcases hy with rfl | rfl | rfl | rfl <;> exact byt_mod _)
theorem by8_byt (v:Int):∀(k:Nat) (x:Int × List Int),Byt x.2→Byt (itr (byt8 v) k x).2
 | 0,x,h=>h
 | k+1,x,h=>by8_byt v k (byt8 v x) (h.app fun y hy=>by
  simp only [List.mem_cons,List.not_mem_nil,or_false] at hy;rw [hy];exact byt_mod _)
theorem by64_byt (s:List Int):∀(k:Nat) (x:Int × List Int),Byt x.2→Byt (itr (by64 s) k x).2
 | 0,x,h=>h
 | k+1,x,h=>by64_byt s k (by64 s x) (by8_byt _ 8 (56,x.2) h)
theorem byt_nil:Byt []:=fun _ h=>by cases h
theorem outB_byt (s:qFp):Byt (outB s):=by
 unfold outB;cases decide (s.hash=1) with
 | true=>exact by32_byt _ 8 (0,[]) byt_nil
 | false=>exact fun x hx=>by64_byt s.long 8 (0,[]) byt_nil x (List.mem_of_mem_take hx)
theorem shaS_byt (s:qFp):Byt (shaS s):=outB_byt _
theorem shaS_nrm (s:qFp):shaS (nrmS s)=shaS s:=by
 unfold shaS;rw [shaW_nrm];rfl
def toN (l:List Int):List Nat:=l.map Int.toNat
theorem toN_byte {l:List Int} (h:Byt l):∀x∈toN l,x<256:=fun x hx=>by
 obtain ⟨y,hy,rfl⟩:=List.mem_map.1 hx;have:=h y hy;omega
theorem nI_toN:∀ {l:List Int},Byt l→nI (toN l)=l
 | [],_=>rfl
 | x::l,h=>by
  have h1:=h x List.mem_cons_self;have ih:=nI_toN (l:=l) fun y hy=>h y (List.mem_cons_of_mem _ hy)
  show ((x.toNat:Nat):Int)::nI (toN l)=_;rw [ih];congr 1
  omega
theorem toN_take (l:List Int) (k:Nat):toN (l.take k)=(toN l).take k:=by simp [toN,List.map_take]
def stS (h:Int):qFp:=⟨h,bif decide (h=1) then nrm 8 shaS256 else nrm 8 [],bif decide (h=1) then nrm 8 [] else bif decide (h=2) then nrm 8 shaS384 else nrm 8 shaS512,nrm 128 [],0⟩
def sumT (h:Int) (text:BA):List Int:=shaS (shaW (stS h) (qBn text))
def halfT (a:Int) (text:BA):BA:=bif decide (hsh a=0) then ⟨#[]⟩ else encB ((toN (sumT (hsh a) text)).take (sumZ (hsh a) / 2))
theorem shaW_st {s:qFp} (h0:0≤s.n) (hn:s.n<18446744073709551616) (b:List Int):0≤(shaW s b).n∧(shaW s b).n<18446744073709551616∧(shaW s b).hash=s.hash:=wrt_n _ _ (nrmS s) b h0 hn
theorem sumT_len {h:Int} (hh:h=1∨h=2∨h=3) (text:BA):(sumT h text).length=sumZ h:=by
 obtain ⟨h1,h2,h3⟩:=shaW_st (s:=stS h) (Int.le_refl _) (by show (0:Int)<_; decide) (qBn text);unfold sumT;rw [shaS_len _ (by rw [h3]; exact hh) h1 h2,h3];rfl
theorem half_core {s:qFp} (hh:s.hash=1∨s.hash=2∨s.hash=3) (h0:s.n=0) (b:List Int) :
  ((zaj_s s b).bind fun r2=>gd (qAe ((0:Int)+(1:Int))) <| (zai_s (⟨r2.hash,(nrm 8 r2.short),(nrm 8 r2.long),(nrm 128 r2.rest),r2.n⟩:qFp)).bind fun r3 =>
   (zah_s s.hash).bind fun r4=>gd (0≤r4∧r4≤9223372036854775807∧1≤(2:Int)) <| gd (0≤(r4 / (2:Int))∧(r4 / (2:Int))≤r3.2.length) <|
   (zaa_s (r3.2.take (Int.toNat (r4 / (2:Int))))).bind fun r5=>some (r5,(0:Int)))=some (encB ((toN (shaS (shaW s b))).take (sumZ s.hash / 2)),0):=by
 obtain ⟨h1,h2,h3⟩:=shaW_st (s:=s) (by omega) (by omega) b;have hl:=shaS_len (shaW s b) (by rw [h3]; exact hh) h1 h2;rw [h3] at hl;have hz:=sumZ_le s.hash;rw [p_Write s b hh (by omega) (by omega),obS,qAb (by unfold qAe; decide)];rw [show (⟨(shaW s b).hash,nrm 8 (shaW s b).short,nrm 8 (shaW s b).long,nrm 128 (shaW s b).rest,(shaW s b).n⟩:qFp)=nrmS (shaW s b) from rfl,p_Sum (nrmS (shaW s b)) (by show (shaW s b).hash=1∨(shaW s b).hash=2∨(shaW s b).hash=3; rw [h3]; exact hh) h1 h2,obS,p_Size,obS,shaS_nrm];have hb:=shaS_byt (shaW s b);dsimp only;generalize shaS (shaW s b)=S at hl hb ⊢
 rw [qAb (by omega),qAb (by rw [hl]; omega),show (((sumZ s.hash:Nat):Int) / 2).toNat=sumZ s.hash / 2 by omega];have ht:Byt (S.take (sumZ s.hash / 2)):=fun x hx=>hb x (List.mem_of_mem_take hx)
 rw [←nI_toN ht,p_Encode (toN_byte ht) (by unfold toN; rw [List.length_map,List.length_take]; omega),toN_take];rfl
theorem p_Half (a:Int) (text:BA):zac_s a text=some (halfT a text,bif decide (hsh a=0) then 111 else 0):=by
 unfold zac_s halfT;rw [p_hash,obS];rcases hsh_cases a with h | h | h | h <;> rw [h]
 ·rfl
 ·have:=half_core (s:=stS 1) (.inl rfl) rfl (qBn text);rw [deF (by decide),cnF,deT rfl,cnT,qAb (by decide)];exact this
 ·have:=half_core (s:=stS 2) (.inr (.inl rfl)) rfl (qBn text);rw [deF (by decide),cnF,deF (by decide),cnF,deT rfl,cnT,qAb (by decide)];exact this
 ·have:=half_core (s:=stS 3) (.inr (.inr rfl)) rfl (qBn text);rw [deF (by decide),cnF,deF (by decide),cnF,deF (by decide),cnF,deT rfl,cnT,qAb (by decide)];exact this
def actS (s:qFp):List Int:=bif decide (s.hash=1) then s.short else s.long
def bkH (h:Int):List Int→List Int→List Int:=bif decide (h=1) then bk32 else bk64
theorem act_blk (s:qFp):actS (blk s)=bkH s.hash (actS s) s.rest:=by
 unfold actS bkH blk;cases hd:decide (s.hash=1) with
 | true =>
  rw [cnT,cnT,cnT];show (bif decide (s.hash=1) then _ else _)=_;rw [hd];rfl
 | false =>
  rw [cnF,cnF,cnF];show (bif decide (s.hash=1) then _ else _)=_;rw [hd];rfl
theorem bkH_take {h:Int} {size:Nat} (hsz:h=1∧size=64∨h≠1∧size=128) (x b:List Int) (hb:b.length=128):bkH h x b=bkH h x (b.take size):=by
 rcases hsz with ⟨rfl,rfl⟩ | ⟨h1,rfl⟩
 ·exact bk32_take x b
 ·rw [List.take_of_length_le (by omega)]
theorem fb_app (z:Nat) (bk:List Int→List Int→List Int) (m:List Int) (k2:Nat):∀(k:Nat) (h l:List Int),k*z≤l.length→fb z bk (k+k2) h (l++m)=fb z bk k2 (fb z bk k h l) (l.drop (k*z)++m)
 | 0,h,l,_=>by
  rw [Nat.zero_add,Nat.zero_mul,List.drop_zero];rfl
 | k+1,h,l,hk=>by
  have e:(k+1)*z=k*z+z:=Nat.succ_mul k z;rw [show k+1+k2=(k+k2)+1 by omega,fb,fb,List.take_append_of_le_length (by omega),List.drop_append_of_le_length (by omega),fb_app z bk m k2 k _ (l.drop z) (by rw [List.length_drop]; omega),List.drop_drop,e,Nat.add_comm z]
theorem fb_len {z:Nat} {bk:List Int→List Int→List Int} (hb:∀x y,(bk x y).length=8):∀(k:Nat) (h l:List Int),h.length=8→(fb z bk k h l).length=8
 | 0,h,l,hh=>hh
 | k+1,h,l,_=>fb_len hb k (bk h (l.take z)) (l.drop z) (hb _ _)
theorem bkH_len (h:Int) (x y:List Int):(bkH h x y).length=8:=by
 unfold bkH;cases decide (h=1)
 ·exact bk64_len x y
 ·exact bk32_len x y
theorem wrt_fb {h:Int} {size:Nat} (hsz:h=1∧size=64∨h≠1∧size=128):∀(f:Nat) (s:qFp) (b p:List Int),s.hash=h→b.length≤f→0≤s.n→s.n<18446744073709551616→(s.n % (size:Int)).toNat=p.length→(nrm 128 s.rest).take p.length=p →
  actS (wrt size f s b)=fb size (bkH h) ((p++b).length / size) (actS s) (p++b)∧(wrt size f s b).n=(s.n+b.length) % 18446744073709551616∧(nrm 128 (wrt size f s b).rest).take ((p++b).length % size)=(p++b).drop ((p++b).length / size*size)∧(wrt size f s b).hash=h
 | f,s,[],p,hh,hb,h0,hn,hp,hr=>by
  have hw:wrt size f s []=s:=by cases f <;> rfl
  have hlt:p.length<size:=by rcases hsz with ⟨rfl,rfl⟩ | ⟨h1,rfl⟩ <;> omega
  rw [hw,List.append_nil,Nat.div_eq_of_lt hlt,Nat.mod_eq_of_lt hlt,hr,Nat.zero_mul,List.drop_zero];refine ⟨rfl,?_,rfl,hh⟩;show s.n=(s.n+(0:Nat)) % _;omega
 | 0,s,x::b,p,_,hb,_,_,_,_=>by simp at hb
 | f+1,s,x::b,p,hh,hb,h0,hn,hp,hr=>by
  generalize hB:x::b=B at hb ⊢
  have hBl:0<B.length:=by rw [←hB]; simp
  have hlt:p.length<size:=by rcases hsz with ⟨rfl,rfl⟩ | ⟨h1,rfl⟩ <;> omega
  have hs128:size≤128:=by rcases hsz with ⟨rfl,rfl⟩ | ⟨h1,rfl⟩ <;> decide
  have hw:wrt size (f+1) s B=wrt size f (put size s B) (B.drop (min B.length (size - (s.n % size).toNat))):=by rw [←hB]; rfl
  rw [hw,hp];obtain ⟨m,hm⟩:∃m,m=min B.length (size - p.length):=⟨_,rfl⟩;obtain ⟨s2,hs2⟩:∃s2:qFp,s2=⟨s.hash,s.short,s.long,p++(B.take m++(nrm 128 s.rest).drop (p.length+m)),(s.n+(m:Nat)) % 18446744073709551616⟩:=⟨_,rfl⟩;have hput:put size s B=bif decide (p.length+m=size) then blk s2 else s2:=by
   unfold put;rw [hp,←hm,hr,hs2];have ht:B.take (size - p.length)=B.take m:=by
    rw [hm];rcases Nat.le_total B.length (size - p.length) with hle | hle
    ·rw [Nat.min_eq_left hle,List.take_of_length_le hle,List.take_of_length_le (Nat.le_refl _)]
    ·rw [Nat.min_eq_right hle]
   rw [ht]
  rw [hput,←hm];have hnl:=qA8 128 s.rest;have hrl:s2.rest.length=128:=by
   rw [hs2];show (p++(B.take m++(nrm 128 s.rest).drop (p.length+m))).length=128;rw [List.length_append,List.length_append,List.length_take,List.length_drop,hnl];omega
  have hact:actS s2=actS s:=by rw [hs2]; rfl
  have hn2:s2.n=(s.n+(m:Nat)) % 18446744073709551616:=by rw [hs2]
  have hh2:s2.hash=h:=by rw [hs2]; exact hh
  have hpm:∀q,q=p.length+m→s2.rest.take q=p++B.take m:=fun q hq=>by
   rw [hs2,hq];show (p++(B.take m++(nrm 128 s.rest).drop (p.length+m))).take (p.length+m)=_;rw [List.take_append,List.take_of_length_le (by omega),show p.length+m - p.length=m by omega,List.take_append,List.take_of_length_le (by rw [List.length_take]; omega),List.length_take,show m - min m B.length=0 by omega,List.take_zero,List.append_nil]
  by_cases hc:p.length+m=size
  ·rw [deT hc,cnT];have hbn:(blk s2).n=(s.n+(m:Nat)) % 18446744073709551616:=by rw [(blk_n s2).1,hn2]
   obtain ⟨i1,i2,i3,i4⟩:=wrt_fb hsz f (blk s2) (B.drop m) [] (by rw [(blk_n s2).2,hh2]) (by rw [List.length_drop]; omega) (by rw [hbn]; omega) (by rw [hbn]; omega)
    (by rw [hbn]; show _=0; rcases hsz with ⟨rfl,rfl⟩ | ⟨h1,rfl⟩ <;> omega) rfl
   rw [List.nil_append] at i1 i3;have hlen:(p++B).length=(B.drop m).length+size:=by rw [List.length_append,List.length_drop]; omega
   have hdiv:(p++B).length / size=(B.drop m).length / size+1:=by rw [hlen]; exact Nat.add_div_right _ (by omega)
   have hmod:(p++B).length % size=(B.drop m).length % size:=by rw [hlen]; exact Nat.add_mod_right _ _
   have htk:(p++B).take size=p++B.take m:=by
    rw [←hc,List.take_append,List.take_of_length_le (by omega),show p.length+m - p.length=m by omega]
   have hdr:(p++B).drop size=B.drop m:=by
    rw [←hc,List.drop_append,List.drop_eq_nil_of_le (by omega),List.nil_append,show p.length+m - p.length=m by omega]
   refine ⟨?_,?_,?_,i4⟩
   ·rw [i1,act_blk,hh2,hact,bkH_take hsz _ _ hrl,hpm size hc.symm,hdiv,fb,htk,hdr]
   ·rw [i2,hbn,List.length_drop];omega
   ·rw [hmod,i3,hdiv,Nat.succ_mul,Nat.add_comm,←List.drop_drop,hdr]
  ·rw [deF hc,cnF];have hmB:m=B.length:=by omega
   have hw2:wrt size f s2 (B.drop m)=s2:=by
    rw [hmB,List.drop_length];cases f <;> rfl
   have hl:(p++B).length=p.length+B.length:=List.length_append;have htB:B.take m=B:=List.take_of_length_le (by omega);rw [hw2,hl,Nat.div_eq_of_lt (by omega),Nat.mod_eq_of_lt (by omega),Nat.zero_mul,List.drop_zero];refine ⟨?_,?_,?_,hh2⟩
   ·rw [hact]; rfl
   ·rw [hn2,hmB]
   ·rw [qCs hrl,hpm _ (by omega),htB]
def padL (h:Int) (n:Nat):List Int:=padB (qAv h) (qAv h / 8) n
def startL (h:Int):List Int:=bif decide (h=1) then nrm 8 shaS256 else bif decide (h=2) then nrm 8 shaS384 else nrm 8 shaS512
def outL (h:Int) (x:List Int):List Int:=bif decide (h=1) then (itr (by32 x) 8 (0,[])).2 else (itr (by64 x) 8 (0,[])).2.take (sumZ h)
theorem act_st {h:Int} (hh:h=1∨h=2∨h=3):actS (nrmS (stS h))=startL h:=by
 rcases hh with rfl | rfl | rfl <;> (show nrm 8 (nrm 8 _)=nrm 8 _; exact qBi _ _)
theorem startL_len (h:Int):(startL h).length=8:=by
 unfold startL;cases decide (h=1) <;> cases decide (h=2) <;> exact qA8 _ _
theorem sizeB_case {h:Int} (hh:h=1∨h=2∨h=3):h=1∧qAv h=64∨h≠1∧qAv h=128:=by
 rcases hh with rfl | rfl | rfl <;> decide
theorem sum_fb {h:Int} (hh:h=1∨h=2∨h=3) (T:List Int) (hT:T.length≤140737488351232) (hfull:(T++padL h T.length).length % qAv h=0) :
  shaS (shaW (stS h) T)=outL h (fb (qAv h) (bkH h) ((T++padL h T.length).length / qAv h) (startL h) (T++padL h T.length)):=by
 have hsz:=sizeB_case hh;obtain ⟨a1,a2,a3,a4⟩:=wrt_fb hsz T.length (nrmS (stS h)) T [] rfl (Nat.le_refl _) (Int.le_refl _) (by show (0:Int)<_; decide) (by show ((0:Int) % _).toNat=0; rw [Int.zero_emod]; rfl) rfl;rw [List.nil_append] at a1 a3;have hs1:shaW (stS h) T=wrt (qAv h) T.length (nrmS (stS h)) T:=rfl;rw [←hs1] at a1 a2 a3 a4;generalize shaW (stS h) T=s1 at a1 a2 a3 a4
 have hn:s1.n=(T.length:Int):=by
  rw [a2];show ((0:Int)+_) % _=_;omega
 have hpad:padB (qAv s1.hash) (qAv s1.hash / 8) s1.n=padL h T.length:=by rw [a4,hn]; rfl
 unfold shaS;rw [hpad];have hdl:(T.drop (T.length / qAv h*qAv h)).length=T.length % qAv h:=by
  rw [List.length_drop];have:=Nat.div_add_mod T.length (qAv h);rw [Nat.mul_comm] at this;omega
 obtain ⟨b1,b2,b3,b4⟩:=wrt_fb hsz (padL h T.length).length (nrmS s1) (padL h T.length) (T.drop (T.length / qAv h*qAv h)) a4 (Nat.le_refl _) (by show 0≤s1.n; omega) (by show s1.n<_; omega)
  (by
   show (s1.n % (qAv h:Int)).toNat=_;rw [hdl,hn];omega) (by
   rw [hdl];show (nrm 128 (nrm 128 s1.rest)).take _=_;rw [qBi,a3])
 have hs2:shaW s1 (padL h T.length)=wrt (qAv h) (padL h T.length).length (nrmS s1) (padL h T.length):=by
  unfold shaW;rw [a4]
 rw [←hs2] at b1 b4;have hk1:T.length / qAv h*qAv h≤T.length:=Nat.div_mul_le_self _ _;have hz:0<qAv h:=by rcases hsz with ⟨_,h⟩ | ⟨_,h⟩ <;> rw [h] <;> decide
 have hK:(T++padL h T.length).length / qAv h=T.length / qAv h+((T.drop (T.length / qAv h*qAv h))++padL h T.length).length / qAv h:=by
  rw [List.length_append,List.length_append,hdl];have:=Nat.div_add_mod T.length (qAv h);rw [show T.length+(padL h T.length).length=qAv h*(T.length / qAv h)+(T.length % qAv h+(padL h T.length).length) by omega,Nat.mul_add_div hz]
 have hn8:actS (nrmS s1)=actS s1:=by
  have:actS (nrmS s1)=nrm 8 (actS s1):=by
   unfold actS;show (bif decide (s1.hash=1) then nrm 8 s1.short else nrm 8 s1.long)=_;cases decide (s1.hash=1) <;> rfl
  rw [this,a1];exact qCs (fb_len (bkH_len h) _ _ _ (by rw [act_st hh]; exact startL_len h))
 rw [hn8,a1,act_st hh] at b1;rw [hK,fb_app _ _ _ _ _ _ _ hk1,←b1];unfold outB outL;rw [b4];generalize hgx:shaW s1 (padL h T.length)=sx at b4
 unfold actS;rw [b4];cases decide (h=1) <;> simp only [cnT,cnF]
theorem pad_is64 (n:Nat):padL 1 n=[128]++List.replicate (zeq 64 n) 0++lens (n:Int) 8 7:=by
 show (itr (lenS n) 8 (7,[128]++List.replicate (zer 64 8 ((n:Int) % 64) 1) 0)).2=_;rw [lens_itr,show zer 64 8 ((n:Int) % 64) 1=zeq 64 n by unfold zer zeq; omega]
theorem pad_is128 {h:Int} (hh:h=2∨h=3) (n:Nat) (hn:n≤140737488351232):padL h n=[128]++List.replicate (zer 128 16 ((n:Int) % 128) 1+8) 0++lens (n:Int) 8 7:=by
 have:padL h n=(itr (lenS n) 16 (15,[128]++List.replicate (zer 128 16 ((n:Int) % 128) 1) 0)).2:=by rcases hh with rfl | rfl <;> rfl
 rw [this,lens_itr,lens_high (by omega) (by omega),←List.replicate_append_replicate];simp only [List.append_assoc]
theorem rep_len (k:Nat):(List.replicate k (0:Int)).length=k:=List.length_replicate
theorem q_short (T:List Int) (hT:T.length≤140737488351232):zax_s T=some (shaS (shaW (stS 1) T)):=by
 have hf:T++padL 1 T.length=fil 64 T:=by rw [pad_is64]; rfl
 have hlen:(fil 64 T).length=T.length+1+zeq 64 T.length+8:=by
  unfold fil;simp only [List.length_append,rep_len,lens_len,List.length_singleton];omega
 have hmod:(fil 64 T).length % 64=0:=by rw [hlen]; unfold zeq; omega
 have hz:zeq 64 T.length<64:=by unfold zeq; omega
 have hs:=sum_fb (h:=1) (.inl rfl) T hT (by rw [hf]; exact hmod);rw [hs,hf];have hb:=q_blocks32 (fil 64 T) (by omega) ((fil 64 T).length / 64) 0 (nrm 8 shaS256) (qA8 _ _) (by omega);rw [Nat.mul_zero,List.drop_zero] at hb;unfold zax_s;rw [show (64:Int)=((64:Nat):Int) from rfl,q_filled 64 (.inl rfl) T (by omega),obS,show (0:Int)=((0:Nat):Int) from rfl,hb,obS];rw [show ((0:Nat):Int)=0 from rfl,q_out32];rfl
theorem q_zeros:∀(k:Nat) (i:Int) (l:List Int),i+k=128→0≤i→l.length+k≤140737488355328→zaw_p0 i l=some (l++List.replicate k 0)
 | 0,i,l,hi,h0,hl=>by
  unfold zaw_p0;refine qAt ?_;unfold qDd;rw [deF (by omega),cnF];simp
 | k+1,i,l,hi,h0,hl=>by
  have hst:qDd i l=some (.inl (i+1,l++[0])):=by
   unfold qDd;rw [deT (by omega),cnT]
   iterate 2 refine (qAb (by first | (unfold qAe; omega) | (simp only [List.length_cons,List.length_nil]; omega)) _).trans ?_
   rfl
  have ih:=q_zeros k (i+1) (l++[0]) (by omega) (by omega) (by rw [List.length_append,List.length_singleton]; omega);unfold zaw_p0 at ih ⊢;rw [qAl hst,ih,List.append_assoc];rfl
theorem q_long1 (all h:List Int) (hl:all.length≤140737488355328) (hm:all.length % 128=0):zaw_p1 (nrm 8 h) all=some (itr (by64 (fb 128 bk64 (all.length / 128) (nrm 8 h) all)) 8 (0,[])).2:=by
 have hb:=q_blocks64 all hl (all.length / 128) 0 (nrm 8 h) (qA8 _ _) (by omega);rw [Nat.mul_zero,List.drop_zero] at hb;unfold zaw_p1;rw [qBi,show (0:Int)=((0:Nat):Int) from rfl,hb,obS,show ((0:Nat):Int)=0 from rfl,q_out64];rfl
theorem q_long {h:Int} (hh:h=2∨h=3) (T:List Int) (hT:T.length≤140737488351232):zaw_s T (startL h)=some (itr (by64 (fb 128 bk64 ((T++padL h T.length).length / 128) (startL h) (T++padL h T.length))) 8 (0,[])).2∧(T++padL h T.length).length % 128=0:=by
 have hst:nrm 8 (startL h)=startL h:=qCs (startL_len h);have hpl:(T++padL h T.length).length=T.length+1+(zer 128 16 ((T.length:Int) % 128) 1+8)+8:=by
  rw [pad_is128 hh _ hT];simp only [List.length_append,rep_len,lens_len,List.length_singleton];omega
 have hzr:zer 128 16 ((T.length:Int) % 128) 1<128:=by unfold zer; omega
 have hmod:(T++padL h T.length).length % 128=0:=by rw [hpl]; unfold zer; omega
 refine ⟨?_,hmod⟩;have hlen:(fil 128 T).length=T.length+1+zeq 128 T.length+8:=by
  unfold fil;simp only [List.length_append,rep_len,lens_len,List.length_singleton];omega
 have hzq:zeq 128 T.length<128:=by unfold zeq; omega
 unfold zaw_s;rw [show (128:Int)=((128:Nat):Int) from rfl,q_filled 128 (.inr rfl) T (by omega),obS];rw [show ((128:Nat):Int)=128 from rfl,qAb (by omega),qAb (fun _=>by omega)];by_cases hc:112≤T.length % 128∧T.length % 128<120
 ·rw [deT (by omega),deT (by omega),Bool.and_self,cnT];obtain ⟨A,hA⟩:∃A,A=T++([128]++List.replicate (zeq 128 T.length) 0):=⟨_,rfl⟩;have hfA:fil 128 T=A++lens (T.length:Int) 8 7:=by
   rw [hA];unfold fil;simp only [List.append_assoc]
  have hAl:A.length=(fil 128 T).length - 8:=by
   rw [hfA,List.length_append,lens_len];omega
  have e1:Int.toNat (((fil 128 T).length:Int) - 8)=A.length:=by omega
  have e2:((fil 128 T).drop 0).take A.length=A:=by
   rw [List.drop_zero,hfA,List.take_append_of_le_length (Nat.le_refl _),List.take_length]
  have e3:((fil 128 T).drop A.length).take ((fil 128 T).length - A.length)=lens (T.length:Int) 8 7:=by
   rw [hfA,List.drop_append_of_le_length (Nat.le_refl _),List.drop_length,List.nil_append,List.take_of_length_le (by rw [List.length_append]; omega)]
  rw [e1,e2,e3]
  iterate 4 refine (qAb (by first | (unfold qAe; omega) | omega) _).trans ?_
  rw [q_zeros 128 0 A rfl (Int.le_refl _) (by omega),obS]
  iterate 4 refine (qAb (by first | (unfold qAe; omega) | omega | (simp only [List.length_append,rep_len,lens_len]; omega)) _).trans ?_
  have hall:A++List.replicate 128 0++lens (T.length:Int) 8 7=T++padL h T.length:=by
   rw [pad_is128 hh _ hT,hA,show zer 128 16 ((T.length:Int) % 128) 1+8=zeq 128 T.length+128 by unfold zer zeq; omega,←List.replicate_append_replicate];simp only [List.append_assoc]
  rw [hall,qBi,q_long1 _ _ (by omega) hmod,obS,hst]
 ·have hcc:((decide ((112:Int)≤(T.length:Int) % 128)) && (decide ((T.length:Int) % 128<(120:Int))))=false:=by
   rw [Bool.and_eq_false_iff,decide_eq_false_iff_not,decide_eq_false_iff_not];omega
  rw [hcc,cnF];have hall:fil 128 T=T++padL h T.length:=by
   rw [pad_is128 hh _ hT,show zer 128 16 ((T.length:Int) % 128) 1+8=zeq 128 T.length by unfold zer zeq; omega];rfl
  rw [hall,q_long1 _ _ (by omega) hmod,obS,hst]
theorem outL_64 {h:Int} (h1:h≠1) (x:List Int):outL h x=(itr (by64 x) 8 (0,[])).2.take (sumZ h):=by
 unfold outL;rw [deF h1,cnF]
theorem q_Sum {h:Int} (hh:h=1∨h=2∨h=3) (T:List Int) (hT:T.length≤140737488351232):zau_s h T=some (shaS (shaW (stS h) T)):=by
 unfold zau_s;rcases hh with rfl | rfl | rfl
 ·rw [deT rfl,cnT,q_short T hT];rfl
 ·obtain ⟨h1,h2⟩:=q_long (h:=2) (.inl rfl) T hT;have hs:=sum_fb (h:=2) (.inr (.inl rfl)) T hT h2;rw [show qAv 2=128 from rfl,show bkH 2=bk64 from rfl,outL_64 (h:=2) (by decide),show sumZ 2=48 from rfl] at hs;rw [deF (by decide),cnF,deT rfl,cnT,show nrm 8 shaS384=startL 2 from rfl,h1,obS,qAb (by rw [by64_len]; decide),hs]
 ·obtain ⟨h1,h2⟩:=q_long (h:=3) (.inr rfl) T hT;have hs:=sum_fb (h:=3) (.inr (.inr rfl)) T hT h2;rw [show qAv 3=128 from rfl,show bkH 3=bk64 from rfl,outL_64 (h:=3) (by decide),show sumZ 3=64 from rfl,List.take_of_length_le (by rw [by64_len]; decide)] at hs;rw [deF (by decide),cnF,deF (by decide),cnF,deT rfl,cnT,show nrm 8 shaS512=startL 3 from rfl,h1,obS,hs]
def bitN (l:List Nat) (i:Nat):Nat:=l.getD (i / 8) 0 / 2 ^ (7 - i % 8) % 2
def sxN (l:List Nat) (i:Nat):Nat:=32*bitN l i+16*bitN l (i+1)+8*bitN l (i+2)+4*bitN l (i+3)+2*bitN l (i+4)+bitN l (i+5)
theorem qC1 (l:List Nat) (i:Nat):bitN l i<2:=Nat.mod_lt _ (by decide)
theorem and1 (n:Nat) (hn:n<256):qAd .i64 (n:Int) (1:Int)=((n % 2:Nat):Int):=by
 have h1:(BitVec.ofInt 64 (1:Int)).toNat=2 ^ 1 - 1:=by decide
 show IntKind.i64.wrap ((BitVec.ofInt 64 (n:Int) &&& BitVec.ofInt 64 (1:Int)).toNat:Int)=_;rw [BitVec.toNat_and,h1,Nat.and_two_pow_sub_one_eq_mod,of64 (by omega)];have:n % 2 ^ 1=0∨n % 2 ^ 1=1:=by omega
 rcases this with h | h
 ·rw [h];decide
 ·rw [h];decide
theorem q_bit {l:List Nat} (hl:∀x∈l,x<256) (i:Nat) (hi:i≤9000000000):zap_s (nI l) (i:Int)=some ((bitN l i:Nat):Int):=by
 have hlen:(nI l).length=l.length:=by unfold nI; rw [List.length_map]
 unfold zap_s;rw [qAb (by omega),hlen];by_cases hc:l.length≤i / 8
 ·rw [deT (by omega),cnT];unfold bitN;rw [List.getD_eq_getElem?_getD,List.getElem?_eq_none (by omega)];simp
 ·have hlt:i / 8<l.length:=by omega
  have hx:=hl _ (List.getElem_mem hlt);rw [deF (by omega),cnF];have e1:Int.toNat ((i:Int) / 8)=i / 8:=by omega
  have e2:Int.toNat (((7:Int) - (i:Int) % 8) % 18446744073709551616)=7 - i % 8:=by omega
  have e3:min (7 - i % 8) (IntKind.bits .u8)=7 - i % 8:=by
   show min (7 - i % 8) 8=_;omega
  rw [e1,e2,e3,nI_at l (i / 8) hlt];have e4:(l[i / 8]:Int) / 2 ^ (7 - i % 8)=((l[i / 8] / 2 ^ (7 - i % 8):Nat):Int):=by
   rw [Int.natCast_ediv,Int.natCast_pow];rfl
  have hle:l[i / 8] / 2 ^ (7 - i % 8)≤l[i / 8]:=Nat.div_le_self _ _;rw [e4];generalize hq:l[i / 8] / 2 ^ (7 - i % 8)=q at hle ⊢
  iterate 7 refine (qAb (by first | (unfold qAe; omega) | omega) _).trans ?_
  rw [and1 q (by omega)];unfold bitN;rw [List.getD_eq_getElem?_getD,List.getElem?_eq_getElem hlt,Option.getD_some,hq]
theorem q_six {l:List Nat} (hl:∀x∈l,x<256) (i:Nat) (hi:i≤8000000000):zar_p1 (i:Int) 0 0 (nI l)=some ((sxN l i:Nat):Int):=by
 have key:∀(k:Nat) (n:Nat),n<64→k<6→qDa (i:Int) (n:Int) (k:Int) (nI l)=some (.inl (((2*n+bitN l (i+k):Nat):Int),((k+1:Nat):Int))):=fun k n hn hk=>by
  have hb:=qC1 l (i+k);unfold qDa;rw [deT (by omega),cnT,qAb (by unfold qAe; omega),qAb (by unfold qAe; omega),show (i:Int)+(k:Int)=((i+k:Nat):Int) by omega,q_bit hl (i+k) (by omega),obS,qAb (by unfold qAe; omega),qAb (by unfold qAe; omega)];rw [show (2:Int)*(n:Int)+((bitN l (i+k):Nat):Int)=((2*n+bitN l (i+k):Nat):Int) by omega,show (k:Int)+1=((k+1:Nat):Int) by omega]
 have h0:=qC1 l i;have h1:=qC1 l (i+1);have h2:=qC1 l (i+2);have h3:=qC1 l (i+3);have h4:=qC1 l (i+4);have h5:=qC1 l (i+5);have k0:=key 0 0 (by omega) (by omega);rw [Nat.add_zero] at k0;have k1:=key 1 _ (show 2*0+bitN l i<64 by omega) (by omega);have k2:=key 2 _ (show 2*(2*0+bitN l i)+bitN l (i+1)<64 by omega) (by omega);have k3:=key 3 _ (show 2*(2*(2*0+bitN l i)+bitN l (i+1))+bitN l (i+2)<64 by omega) (by omega);have k4:=key 4 _ (show 2*(2*(2*(2*0+bitN l i)+bitN l (i+1))+bitN l (i+2))+bitN l (i+3)<64 by omega) (by omega);have k5:=key 5 _ (show 2*(2*(2*(2*(2*0+bitN l i)+bitN l (i+1))+bitN l (i+2))+bitN l (i+3))+bitN l (i+4)<64 by omega) (by omega);unfold zar_p1;rw [show ((0:Int),(0:Int))=(((0:Nat):Int),((0:Nat):Int)) from rfl,qAl k0,qAl k1,qAl k2,qAl k3,qAl k4,qAl k5];refine qAt ?_;unfold qDa;dsimp only;rw [deF (by omega),cnF];unfold sxN;congr 2
 omega
theorem sxN_lt (l:List Nat) (i:Nat):sxN l i<64:=by
 have h0:=qC1 l i;have h1:=qC1 l (i+1);have h2:=qC1 l (i+2);have h3:=qC1 l (i+3);have h4:=qC1 l (i+4);have h5:=qC1 l (i+5);unfold sxN;omega
def sxs (l:List Nat):Nat→Nat→List Nat
 | 0,_=>[]
 | j+1,i=>bif decide (i<8*l.length) then sxN l i::sxs l j (i+6) else []
theorem q_spell {l:List Nat} (hl:∀x∈l,x<256) (hn:l.length≤200000):∀(j i:Nat) (out:List Int),8*l.length≤i+6*j→i≤7000000→out.length+j≤9000000→zar_p0 URL (i:Int) (nI l) out=some (out++(sxs l j i).map sg)
 | 0,i,out,hj,hi,ho=>by
  have hlen:(nI l).length=l.length:=by unfold nI; rw [List.length_map]
  unfold zar_p0;refine qAt ?_;unfold qCm;rw [qAb (by rw [hlen]; unfold qAe; omega),hlen,deF (by omega),cnF,sxs,List.map_nil,List.append_nil]
 | j+1,i,out,hj,hi,ho=>by
  have hlen:(nI l).length=l.length:=by unfold nI; rw [List.length_map]
  by_cases hc:i<8*l.length
  ·have hx:=sxN_lt l i;have hst:qCm URL (i:Int) (nI l) out=some (.inl (((i+6:Nat):Int),out++[sg (sxN l i)])):=by
    unfold qCm;rw [qAb (by rw [hlen]; unfold qAe; omega),hlen,deT (by omega),cnT,q_six hl i (by omega),obS,qAb (by rw [URL_size]; omega),qAb (by simp only [List.length_cons,List.length_nil]; omega),qAb (by unfold qAe; omega)];rfl
   have ih:=q_spell hl hn j (i+6) (out++[sg (sxN l i)]) (by omega) (by omega) (by rw [List.length_append,List.length_singleton]; omega);unfold zar_p0 at ih ⊢;rw [qAl hst,ih,sxs,deT hc,cnT,List.map_cons,List.append_assoc];rfl
  ·unfold zar_p0;refine qAt ?_;unfold qCm;rw [qAb (by rw [hlen]; unfold qAe; omega),hlen,deF (by omega),cnF,sxs,deF hc,cnF,List.map_nil,List.append_nil]
theorem bitN_shift (x y z:Nat) (r:List Nat) (i:Nat):bitN (x::y::z::r) (i+24)=bitN r i:=by
 unfold bitN;rw [show (i+24) / 8=i / 8+3 by omega,show (i+24) % 8=i % 8 by omega];rfl
theorem sxN_shift (x y z:Nat) (r:List Nat) (i:Nat):sxN (x::y::z::r) (i+24)=sxN r i:=by
 unfold sxN;rw [show i+24+1=(i+1)+24 by omega,show i+24+2=(i+2)+24 by omega,show i+24+3=(i+3)+24 by omega,show i+24+4=(i+4)+24 by omega,show i+24+5=(i+5)+24 by omega];simp only [bitN_shift]
theorem sxs_shift (x y z:Nat) (r:List Nat):∀(j i:Nat),sxs (x::y::z::r) j (i+24)=sxs r j i
 | 0,_=>rfl
 | j+1,i=>by
  have hd:decide (i+24<8*(x::y::z::r).length)=decide (i<8*r.length):=by
   rw [decide_eq_decide];simp only [List.length_cons];omega
  rw [sxs,sxs,hd,sxN_shift,show i+24+6=(i+6)+24 by omega,sxs_shift x y z r j (i+6)]
theorem sx_first {x y z:Nat} (hx:x<256) (hy:y<256) (hz:z<256) (r:List Nat):sxN (x::y::z::r) 0=(x*65536+y*256+z) / 262144∧sxN (x::y::z::r) 6=(x*65536+y*256+z) / 4096 % 64∧sxN (x::y::z::r) 12=(x*65536+y*256+z) / 64 % 64∧sxN (x::y::z::r) 18=(x*65536+y*256+z) % 64:=by
 refine ⟨?_,?_,?_,?_⟩
 ·show 32*(x / 128 % 2)+16*(x / 64 % 2)+8*(x / 32 % 2)+4*(x / 16 % 2)+2*(x / 8 % 2)+x / 4 % 2=_;omega
 ·show 32*(x / 2 % 2)+16*(x / 1 % 2)+8*(y / 128 % 2)+4*(y / 64 % 2)+2*(y / 32 % 2)+y / 16 % 2=_;omega
 ·show 32*(y / 8 % 2)+16*(y / 4 % 2)+8*(y / 2 % 2)+4*(y / 1 % 2)+2*(z / 128 % 2)+z / 64 % 2=_;omega
 ·show 32*(z / 32 % 2)+16*(z / 16 % 2)+8*(z / 8 % 2)+4*(z / 4 % 2)+2*(z / 2 % 2)+z / 1 % 2=_;omega
theorem sxs_is:∀(l:List Nat),(∀x∈l,x<256)→∀j,8*l.length≤6*j→sxs l j 0=encN l
 | [],_,j,_=>by
  cases j with
  | zero=>rfl
  | succ j=>rfl
 | [x],hl,j,hj=>by
  have hx:=hl x List.mem_cons_self;obtain ⟨j,rfl⟩:∃q,j=q+2:=⟨j - 2,by simp only [List.length_cons,List.length_nil] at hj; omega⟩;have h0:sxN [x] 0=x / 4:=by
   show 32*(x / 128 % 2)+16*(x / 64 % 2)+8*(x / 32 % 2)+4*(x / 16 % 2)+2*(x / 8 % 2)+x / 4 % 2=_;omega
  have h6:sxN [x] 6=x % 4*16:=by
   show 32*(x / 2 % 2)+16*(x / 1 % 2)+8*(0 / 128 % 2)+4*(0 / 64 % 2)+2*(0 / 32 % 2)+0 / 16 % 2=_;omega
  have he:sxs [x] j 12=[]:=by
   cases j with
   | zero=>rfl
   | succ j=>rfl
  show sxN [x] 0::sxN [x] 6::sxs [x] j 12=[x / 4,x % 4*16];rw [h0,h6,he]
 | [x,y],hl,j,hj=>by
  have hx:=hl x List.mem_cons_self;have hy:=hl y (List.mem_cons_of_mem _ List.mem_cons_self);obtain ⟨j,rfl⟩:∃q,j=q+3:=⟨j - 3,by simp only [List.length_cons,List.length_nil] at hj; omega⟩;have h0:sxN [x,y] 0=x / 4:=by
   show 32*(x / 128 % 2)+16*(x / 64 % 2)+8*(x / 32 % 2)+4*(x / 16 % 2)+2*(x / 8 % 2)+x / 4 % 2=_;omega
  have h6:sxN [x,y] 6=x % 4*16+y / 16:=by
   show 32*(x / 2 % 2)+16*(x / 1 % 2)+8*(y / 128 % 2)+4*(y / 64 % 2)+2*(y / 32 % 2)+y / 16 % 2=_;omega
  have h12:sxN [x,y] 12=y % 16*4:=by
   show 32*(y / 8 % 2)+16*(y / 4 % 2)+8*(y / 2 % 2)+4*(y / 1 % 2)+2*(0 / 128 % 2)+0 / 64 % 2=_;omega
  have he:sxs [x,y] j 18=[]:=by
   cases j with
   | zero=>rfl
   | succ j=>rfl
  show sxN [x,y] 0::sxN [x,y] 6::sxN [x,y] 12::sxs [x,y] j 18=[x / 4,x % 4*16+y / 16,y % 16*4];rw [h0,h6,h12,he]
 | x::y::z::r,hl,j,hj=>by
  have hx:=hl x List.mem_cons_self;have hy:=hl y (List.mem_cons_of_mem _ List.mem_cons_self);have hz:=hl z (List.mem_cons_of_mem _ (List.mem_cons_of_mem _ List.mem_cons_self));obtain ⟨j,rfl⟩:∃q,j=q+4:=⟨j - 4,by simp only [List.length_cons] at hj; omega⟩;have ih:=sxs_is r (fun q hq=>hl q (List.mem_cons_of_mem _ (List.mem_cons_of_mem _ (List.mem_cons_of_mem _ hq)))) j (by simp only [List.length_cons] at hj; omega);obtain ⟨h0,h6,h12,h18⟩:=sx_first hx hy hz r;have d:∀q,q≤18→decide (q<8*(x::y::z::r).length)=true:=fun q hq=>deT (by simp only [List.length_cons]; omega)
  rw [show j+4=(((j+1)+1)+1)+1 from rfl,sxs,d 0 (by decide),cnT,sxs,d (0+6) (by decide),cnT,sxs,d (0+6+6) (by decide),cnT,sxs,d (0+6+6+6) (by decide),cnT,
   show 0+6+6+6+6=0+24 from rfl,sxs_shift,ih,h0,show 0+6=6 from rfl,h6,show 6+6=12 from rfl,h12,show 12+6=18 from rfl,h18]
  rfl
theorem q_Encode {l:List Nat} (hl:∀x∈l,x<256) (hn:l.length≤200000):zao_s (nI l)=some (encB l):=by
 have hs:zaq_s false=some URL:=by
  unfold zaq_s;rw [cnF];refine (qAb (by decide) _).trans ?_;kernel_rfl
 have h:=q_spell hl hn (2*l.length) 0 [] (by omega) (by omega) (by simp only [List.length_nil]; omega);rw [sxs_is l hl (2*l.length) (by omega),List.nil_append] at h;unfold zao_s zar_s;rw [hs,obS,show (0:Int)=((0:Nat):Int) from rfl,h];rfl
theorem q_hash (a:Int):zat_s a=some (hsh a):=by
 rcases alg_cases a with rfl | rfl | rfl | rfl | rfl | rfl | rfl | rfl | rfl | rfl | rfl | rfl | ⟨h1,h2,h3,h4,h5,h6,h7,h8,h9,h10,h11,h12⟩ <;> try rfl
 unfold zat_s zat_p0 zat_p1 hsh;simp [h1,h2,h3,h4,h5,h6,h7,h8,h9,h10,h11,h12]
theorem q_Half (a:Int) (text:BA) (ht:text.size≤140737488351232):zas_s a text=some (halfT a text,bif decide (hsh a=0) then 111 else 0):=by
 unfold zas_s halfT;rw [q_hash,obS];by_cases h0:hsh a=0
 ·rw [h0];rfl
 ·rw [deF h0,cnF,cnF,cnF];have hh:hsh a=1∨hsh a=2∨hsh a=3:=by rcases hsh_cases a with h | h | h | h <;> omega
  have hl:=sumT_len hh text;have hb:Byt (sumT (hsh a) text):=shaS_byt _;have hz:=sumZ_le (hsh a);rw [q_Sum hh (qBn text) (by rw [bytesL_len]; exact ht),obS];show gd _ (gd _ ((zao_s ((sumT (hsh a) text).take _)).bind _))=_;rw [show shaS (shaW (stS (hsh a)) (qBn text))=sumT (hsh a) text from rfl,hl,qAb (by omega),qAb (by omega),show Int.toNat (((sumZ (hsh a):Nat):Int) / 2)=sumZ (hsh a) / 2 by omega];have ht:Byt ((sumT (hsh a) text).take (sumZ (hsh a) / 2)):=fun x hx=>hb x (List.mem_of_mem_take hx)
  rw [←nI_toN ht,q_Encode (toN_byte ht) (by unfold toN; rw [List.length_map,List.length_take]; omega),toN_take];rfl
set_option maxRecDepth 100000
noncomputable section
def zan_q:IQ:=(.seq (rg 4 [oP 4 (.mv vF)]) (.seq (rg 6 [oM 10 t0,oM 11 t1,oP 12 (.call 5 [t10,t11]),oM 9 t12,oP 13 (.extract t9 0),oP 14 (.extract t9 1),oM 5 t13,oM 6 t14]) (.seq (rg 8 [oM 16 t0,oM 17 t1,oP 18 (.call 6 [t16,t17]),oM 15 t18,oP 19 (.extract t15 0),oP 20 (.extract t15 1),oM 7 t19,oM 8 t20]) (.seq (rg 4 [oM 21 t5,oM 22 t7,oP 23 (.bi .eql t21 t22),oM 24 t23,oF 25 (.mv t6) 24,oF 26 (.mv t8) 24,oF 27 (.bi .eql t25 t26) 24,oP 28 (.pick t24 t27 vF),oM 4 t28]) (.cn [4] .ret)))))
def zan_s (a:Int) (text:BA):Option Bool :=
 (zac_s a text).bind fun r1 =>
 (zas_s a text).bind fun r2 =>
 some ((decide (r1.1=r2.1)) && (decide (r1.2=r2.2)))
def zan_c:CS:=mkC (qAa (dVC (dCO dZ)) (qAa (dVC (dCO dS)) dNil)) dNil (fun x y=>zan_s x.1 x.2.1) (fun x y r=>.c (.o (.vB r))) fun x y r=>[]
theorem zan_val:qA0 Tryd.prog 3 zan_c:=vl0 zan_q [.tmp 4] 29 9 0 [(5,zac_w),(6,zas_w)] ⟨zac_ok,zas_ok,tV⟩ fun x y=>by
 simp only [zan_s,-eq_self,sZ];kernel_rfl
end
theorem idHalves_plain (a:Int) (text:BA) (ht:text.size≤140737488351232):zan_s a text=some true:=by
 unfold zan_s;rw [p_Half,obS,q_Half a text ht,obS];simp
end Go.Proofs.YtobmafbliahplaaDoor
namespace Go.Eng
open Go.RowKit
theorem reach_of {x:Nat} (h:decide (x≤reachBytes)=true):x≤140737488351232:=by
 have h2:=of_decide_eq_true h;exact h2
theorem size_of_weights {H:Type} {P:Program} {T:TypeId} {s:BA} (h:∀x∈(DataW.lit (.string s.data.toList):DataW H).weights P T,x≤140737488351232):s.size≤140737488351232:=by
 have h2:=h s.data.toList.length (by simp only [DataW.weights]; exact List.mem_singleton.2 rfl);rw [Array.length_toList] at h2;exact h2
theorem i64_of_wf {a:Int} (h:(Lit.int .i64 a).wf=true) : -9223372036854775808≤a∧a≤9223372036854775807:=by
 simp [Lit.wf,IntKind.min,IntKind.max,IntKind.signed,IntKind.bits] at h;exact h
structure LowB (w w':World):Prop where
 os:w'.os=w.os
 output:w'.output=w.output
 size:w.heap.size≤w'.heap.size
 block:∀k,k<w.heap.size→w'.heap[k]?=w.heap[k]?
theorem lowB_of_stays {w w':World} (h:Stays (fun _=>False) w w'):LowB w w':=⟨h.os,h.output,h.size,fun k hk=>h.block k hk id⟩
theorem LowB.frame {W w':World} (h:LowB W w') (may:MemPlace→Prop):W.keptBut w' may:=by
 refine ⟨h.os,h.output,fun i hi=>?_⟩;rw [h.block i hi];split <;> simp_all
theorem LowB.same {W w':World} (h:LowB W w') {p:MemPlace} (hp:p.block<W.heap.size):W.sameAt w' p:=by
 cases p with
 | cell b o=>exact World.cell?_of_block (w:=W) (h.block b hp)
 | map b=>exact h.block b hp
theorem LowB.trod {H:Type} {enc:TypeId × Value→H} {P:Program} {t:TypeId} (hl:laidOutB P=true) (hr:P.readableRec t=true) (hrow:t<P.types.size) {W W':World} {v:Value} {d:DataW H} {ps:List MemPlace}
  (h:DataW.Trod enc P W 0 (fun _=>true) true t v d ps) (hb:LowB W W') (hlt:∀x∈ps,x.block<W.heap.size) :
  DataW.Trod enc P W' 0 (fun b=>decide (b<W.heap.size)) true t v d ps :=
 WideElems.Trod_stays hl hr hrow h (fun x hx=>hb.same (hlt x hx)) (fun x hx=>by simpa using hlt x hx)
theorem callS {P:Program} {f:Nat} {C:CS} (h:qA0 P f C) {args:List SV} {v:SV} (hc:C args [] (SV × List SB) (fun v hp'=>some (v,hp'))=some (v,[])) (hs:args.all SV.shut=true) (hv:v.shut=true) (w:World) (ht:tabOK noX w) (vs:List Value) (hvs:args.map (SV.den fun _=>undef)=vs) :
  Calls P f vs.toArray w fun e w'=>e=.returned (v.den fun _=>undef)∧LowB w w':=by
 have:=h.2 args [] v [] hc (fun v hv=>SV.shut_lt (List.all_eq_true.1 hs v hv) _) noX w (fun _=>undef) (HpSat.nil _ _ ht _);rw [hvs] at this;exact this.mono fun e w' ⟨ρ',_,_,a,_,_,b⟩=>⟨by rw [a,SV.shut_den hv ρ' fun _=>undef],lowB_of_stays b⟩
end Go.Eng
namespace Go.Proofs.YtobmafbliahplaaDoor
open Go.Eng
theorem qB6 {W:World} {name:String} {g:Nat} {t e:TypeId} {n:Nat} {k:IntKind} {l:List Int} (hg:Tryd.prog.globalNamed name=some g) (hty:(Tryd.prog.globals[g]?).map (·.type)=some t)
  (ht:Tryd.prog.underlying t=some (.array n e)) (he:Tryd.prog.underlying e=some (.int k)) (hce:Tryd.prog.cellsOf e=1) (hct:Tryd.prog.cellsOf t=n) (h:Lib.VarReads Tryd.prog W name (Lib.tabData k l)):ArrAt noX W g k l:=by
 obtain ⟨g',t',cs,fuel,p,hg',ht',hvar,hd⟩:=h;obtain rfl:=Option.some.inj (hg.symm.trans hg');obtain rfl:=Option.some.inj (hty.symm.trans ht');have hT:Lib.TabIs Tryd.prog W name k l:=by
  unfold Lib.TabIs;rw [hvar,←Lib.cells_of_tab ht he hce hct hd]
 refine ⟨fun h=>h,fun j hj=>?_⟩;rw [hT.cell hg j hj]
theorem ref_tabs {W:World} (h0:Lib.VarReads Tryd.prog W "signet/sha.k256" Rows.laid_signet_sha_k256) (h1:Lib.VarReads Tryd.prog W "signet/sha.k512" Rows.laid_signet_sha_k512) (h2:Lib.VarReads Tryd.prog W "signet/sha.start256" Rows.laid_signet_sha_start256) (h3:Lib.VarReads Tryd.prog W "signet/sha.start384" Rows.laid_signet_sha_start384) (h4:Lib.VarReads Tryd.prog W "signet/sha.start512" Rows.laid_signet_sha_start512) (h5:Lib.VarReads Tryd.prog W "signet/signetref4.k256" Rows.laid_signet_signetref4_k256) (h6:Lib.VarReads Tryd.prog W "signet/signetref4.k512" Rows.laid_signet_signetref4_k512) (h7:Lib.VarReads Tryd.prog W "signet/signetref4.start256" Rows.laid_signet_signetref4_start256) (h8:Lib.VarReads Tryd.prog W "signet/signetref4.start384" Rows.laid_signet_signetref4_start384) (h9:Lib.VarReads Tryd.prog W "signet/signetref4.start512" Rows.laid_signet_signetref4_start512):tabOK noX W:=by
 rw [show (Rows.laid_signet_sha_k256:DataW Unit)=Lib.tabData .u32 shaK256 by kernel_rfl] at h0;rw [show (Rows.laid_signet_sha_k512:DataW Unit)=Lib.tabData .u64 shaK512 by kernel_rfl] at h1;rw [show (Rows.laid_signet_sha_start256:DataW Unit)=Lib.tabData .u32 shaS256 by kernel_rfl] at h2;rw [show (Rows.laid_signet_sha_start384:DataW Unit)=Lib.tabData .u64 shaS384 by kernel_rfl] at h3;rw [show (Rows.laid_signet_sha_start512:DataW Unit)=Lib.tabData .u64 shaS512 by kernel_rfl] at h4;rw [show (Rows.laid_signet_signetref4_k256:DataW Unit)=Lib.tabData .u32 shaK256 by kernel_rfl] at h5;rw [show (Rows.laid_signet_signetref4_k512:DataW Unit)=Lib.tabData .u64 shaK512 by kernel_rfl] at h6;rw [show (Rows.laid_signet_signetref4_start256:DataW Unit)=Lib.tabData .u32 shaS256 by kernel_rfl] at h7;rw [show (Rows.laid_signet_signetref4_start384:DataW Unit)=Lib.tabData .u64 shaS384 by kernel_rfl] at h8;rw [show (Rows.laid_signet_signetref4_start512:DataW Unit)=Lib.tabData .u64 shaS512 by kernel_rfl] at h9;exact ⟨qB6 (t:=88) (e:=82) (n:=64) (by kernel_rfl) (by kernel_rfl) (by kernel_rfl) (by kernel_rfl) (by kernel_rfl) (by kernel_rfl) h0,
  qB6 (t:=90) (e:=71) (n:=80) (by kernel_rfl) (by kernel_rfl) (by kernel_rfl) (by kernel_rfl) (by kernel_rfl) (by kernel_rfl) h1,
  qB6 (t:=83) (e:=82) (n:=8) (by kernel_rfl) (by kernel_rfl) (by kernel_rfl) (by kernel_rfl) (by kernel_rfl) (by kernel_rfl) h2,
  qB6 (t:=72) (e:=71) (n:=8) (by kernel_rfl) (by kernel_rfl) (by kernel_rfl) (by kernel_rfl) (by kernel_rfl) (by kernel_rfl) h3,
  qB6 (t:=72) (e:=71) (n:=8) (by kernel_rfl) (by kernel_rfl) (by kernel_rfl) (by kernel_rfl) (by kernel_rfl) (by kernel_rfl) h4,
  qB6 (t:=88) (e:=82) (n:=64) (by kernel_rfl) (by kernel_rfl) (by kernel_rfl) (by kernel_rfl) (by kernel_rfl) (by kernel_rfl) h5,
  qB6 (t:=90) (e:=71) (n:=80) (by kernel_rfl) (by kernel_rfl) (by kernel_rfl) (by kernel_rfl) (by kernel_rfl) (by kernel_rfl) h6,
  qB6 (t:=83) (e:=82) (n:=8) (by kernel_rfl) (by kernel_rfl) (by kernel_rfl) (by kernel_rfl) (by kernel_rfl) (by kernel_rfl) h7,
  qB6 (t:=72) (e:=71) (n:=8) (by kernel_rfl) (by kernel_rfl) (by kernel_rfl) (by kernel_rfl) (by kernel_rfl) (by kernel_rfl) h8,
  qB6 (t:=72) (e:=71) (n:=8) (by kernel_rfl) (by kernel_rfl) (by kernel_rfl) (by kernel_rfl) (by kernel_rfl) (by kernel_rfl) h9⟩
theorem idHalves_tabs {W:World} (h:laidMetH Tryd.prog Rows.idHalvesRow.laid W):tabOK noX W:=by
 have h':laidMet Tryd.prog Rows.idHalvesRow.laid W:=h;have r:=fun {n d} hm=>Lib.laidMet.reads h' (n:=n) (d:=d) hm
 refine ref_tabs (r ?_) (r ?_) (r ?_) (r ?_) (r ?_) (r ?_) (r ?_) (r ?_) (r ?_) (r ?_) <;> (show _∈[_,_,_,_,_,_,_,_,_,_]; simp only [List.mem_cons,true_or,or_true])
theorem idHalves_walk (i0:Int) (s1:BA) (W:World) (h0 : -9223372036854775808≤i0∧i0≤9223372036854775807) (h1:s1.size≤140737488351232) (hT:tabOK noX W) :
  Calls Tryd.prog 3 #[.int .i64 i0,.string s1] W fun e w'=>e=.returned (.bool true)∧LowB W w':=by
 refine callS zan_val (args:=[.c (.o (.val (.int .i64 i0))),.c (.o (.val (.string s1)))]) (v:=.c (.o (.val (.bool true)))) ?_ rfl rfl W hT [.int .i64 i0,.string s1] rfl;show ((zan_s i0 s1).bind fun r=>some ((.c (.o (.val (.bool r))),[]):SV × List SB))=_;rw [idHalves_plain i0 s1 h1];rfl
end Go.Proofs.YtobmafbliahplaaDoor
