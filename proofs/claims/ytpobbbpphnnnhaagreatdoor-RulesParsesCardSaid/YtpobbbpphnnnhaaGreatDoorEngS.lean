/-
  Texts of a claim.
-/
import Derived.Lib.Bytealg
import Derived.Test.YtpobbbpphnnnhaaGreatDoorTabs
namespace Go.Eng
inductive S0 where
 | val (v:Value)
 | hd (h off:Nat)
 | own (h:Nat)
 | el (h i sz off:Nat)
 | opt (c:Bool) (h off:Nat)
 | bsl (k:Nat)
 | prj (k i j:Nat)
 | pel (k i sz off:Nat)
inductive SC where
 | o (x:S0)
 | agg (l:List S0)
inductive SV where
 | c (x:SC)
 | tup (l:List SC)
inductive SB where
 | cells (e:Nat) (l:List S0)
 | row (t:ET) (e:Nat) (l:List t.T)
 | view (t:ET) (l:List t.T)
 | part (h lo n sz:Nat)
 | map (m:MapC)
 | bag (ks:List NK) (e:Nat) (l:List (NT ks))
 | slc (h n sz:Nat)
 | clo (f k:Nat) (l:List S0)
 | dead
structure St where
 sl:List (Nat × Prop × SV)
 hp:List SB
def ptrAdd:Value→Nat→Value
 | .pointer (some a),n=>.pointer (some (a.add n))
 | v,_=>v
def qC9:Value→Nat→Value
 | .slice (some a) _ _,n=>.pointer (some (a.add n))
 | v,_=>v
def oneV (v:Value):Value:=bif v.oneCell' then v else .nilIface
def baseV:Value→Value
 | .iface _ (.tuple a)=>oneV ((a[0]?).getD .nilIface)
 | _=>.nilIface
def projV:Value→Nat→Nat→Value
 | .iface _ (.tuple a),i,j=>match a[i+1]? with
  | some (.tuple b)=>oneV ((b[j]?).getD .nilIface)
  | _=>.nilIface
 | _,_,_=>.nilIface
theorem oneV_one (v:Value):(oneV v).oneCell'=true:=by
 unfold oneV;cases h:v.oneCell' with
 | true=>exact h
 | false=>exact rfl
theorem oneV_eq {v:Value} (h:v.oneCell'=true):oneV v=v:=by unfold oneV; rw [h]; rfl
theorem baseV_one (v:Value):(baseV v).oneCell'=true:=by
 unfold baseV;split
 ·exact oneV_one _
 ·exact rfl
theorem projV_one (v:Value) (i j:Nat):(projV v i j).oneCell'=true:=by
 unfold projV;split
 ·split
  ·exact oneV_one _
  ·exact rfl
 ·exact rfl
def bagV (u:Value) (rs:List (List Value)):Value:=.iface 0 (.tuple (u::rs.map fun r=>Value.tuple r.toArray).toArray)
theorem qBd {u:Value} (rs:List (List Value)) (h:u.oneCell'=true):baseV (bagV u rs)=u:=by
 simp only [baseV,bagV,List.getElem?_toArray,List.getElem?_cons_zero,Option.getD_some,oneV_eq h]
theorem qHc (u:Value) {rs:List (List Value)} {i j:Nat} {r:List Value} {v:Value} (h:rs[i]?=some r) (hj:r[j]?=some v) (h1:v.oneCell'=true):projV (bagV u rs) i j=v:=by
 simp only [projV,bagV,List.getElem?_toArray,List.getElem?_cons_succ,List.getElem?_map,h,Option.map_some,hj,Option.getD_some,oneV_eq h1]
def qAv:(ks:List NK)→NT ks→List Value→List Value
 | [],_,_=>[]
 | .int k::r,x,vs=>.int k x.1::qAv r x.2 vs
 | .bool::r,x,vs=>.bool x.1::qAv r x.2 vs
 | .str::r,x,vs=>.string x.1::qAv r x.2 vs
 | .map::r,x,vs=>vs.headD .nilIface::qAv r x.2 vs.tail
 | .rw _::r,x,vs=>vs.headD .nilIface::qAv r x.2 vs.tail
def qBw (k i:Nat):(ks:List NK)→NT ks→Nat→List S0
 | [],_,_=>[]
 | .int q::r,x,j=>.val (.int q x.1)::qBw k i r x.2 j
 | .bool::r,x,j=>.val (.bool x.1)::qBw k i r x.2 j
 | .str::r,x,j=>.val (.string x.1)::qBw k i r x.2 j
 | .map::r,x,j=>.prj k i j::qBw k i r x.2 (j+1)
 | .rw _::r,x,j=>.prj k i j::qBw k i r x.2 (j+1)
def qA4 (ks:List NK):List (NT ks)→List (List Value)→List Value
 | x::l,r::rs=>qAv ks x r++qA4 ks l rs
 | _,_=>[]
def S0.den (ρ:Nat→Value):S0→Value
 | .val v=>v
 | .hd h n=>ptrAdd (ρ h) n
 | .own h=>ρ h
 | .el h i sz off=>qC9 (ρ h) (i*sz+off)
 | .opt c h n=>bif c then ptrAdd (ρ h) n else .pointer none
 | .bsl k=>baseV (ρ k)
 | .prj k i j=>projV (ρ k) i j
 | .pel k i sz off=>qC9 (baseV (ρ k)) (i*sz+off)
def SC.den (ρ:Nat→Value):SC→Value
 | .o x=>x.den ρ
 | .agg l=>.agg (l.map (S0.den ρ)).toArray
def SV.den (ρ:Nat→Value):SV→Value
 | .c x=>x.den ρ
 | .tup l=>.tuple (l.map (SC.den ρ)).toArray
def S0.lt (n:Nat):S0→Prop
 | .val _=>True
 | .hd h _=>h<n
 | .own h=>h<n
 | .el h _ _ _=>h<n
 | .opt _ h _=>h<n
 | .bsl k=>k<n
 | .prj k _ _=>k<n
 | .pel k _ _ _=>k<n
def SC.lt (n:Nat):SC→Prop
 | .o x=>x.lt n
 | .agg l=>∀x∈l,x.lt n
def SV.lt (n:Nat):SV→Prop
 | .c x=>x.lt n
 | .tup l=>∀x∈l,x.lt n
def SB.lt (n:Nat):SB→Prop
 | .cells _ l=>∀x∈l,x.lt n
 | .part h _ _ _=>h<n
 | .slc h _ _=>h<n
 | .clo _ _ l=>∀x∈l,x.lt n
 | _=>True
theorem S0.lt_mono {n m:Nat} (h:n≤m) {x:S0} (hx:x.lt n):x.lt m:=by
 cases x <;> simp only [S0.lt] at * <;> omega
theorem SC.lt_mono {n m:Nat} (h:n≤m) {x:SC} (hx:x.lt n):x.lt m:=by
 cases x with
 | o x=>exact S0.lt_mono h hx
 | agg l=>exact fun y hy=>S0.lt_mono h (hx y hy)
theorem SV.lt_mono {n m:Nat} (h:n≤m) {x:SV} (hx:x.lt n):x.lt m:=by
 cases x with
 | c x=>exact SC.lt_mono h hx
 | tup l=>exact fun y hy=>SC.lt_mono h (hx y hy)
theorem SB.lt_mono {n m:Nat} (h:n≤m) {x:SB} (hx:x.lt n):x.lt m:=by
 cases x with
 | cells e l=>exact fun y hy=>S0.lt_mono h (hx y hy)
 | part k lo n sz=>exact Nat.lt_of_lt_of_le hx h
 | slc k n sz=>exact Nat.lt_of_lt_of_le hx h
 | clo f k l=>exact fun y hy=>S0.lt_mono h (hx y hy)
 | _=>trivial
theorem S0.den_congr {ρ ρ':Nat→Value} {n:Nat} (h:∀i<n,ρ' i=ρ i) {x:S0} (hx:x.lt n):x.den ρ'=x.den ρ:=by
 cases x <;> simp only [S0.lt,S0.den] at * <;> first | rfl | rw [h _ hx]
theorem SC.den_congr {ρ ρ':Nat→Value} {n:Nat} (h:∀i<n,ρ' i=ρ i) {x:SC} (hx:x.lt n):x.den ρ'=x.den ρ:=by
 cases x with
 | o x=>exact S0.den_congr h hx
 | agg l =>
  simp only [SC.den,SC.lt] at *
  congr 2
  exact List.map_congr_left fun y hy=>S0.den_congr h (hx y hy)
theorem SV.den_congr {ρ ρ':Nat→Value} {n:Nat} (h:∀i<n,ρ' i=ρ i) {x:SV} (hx:x.lt n):x.den ρ'=x.den ρ:=by
 cases x with
 | c x=>exact SC.den_congr h hx
 | tup l =>
  simp only [SV.den,SV.lt] at *
  congr 2
  exact List.map_congr_left fun y hy=>SC.den_congr h (hx y hy)
def fp1:Value→Option Nat
 | .pointer (some a)=>some a.block
 | .slice (some a) _ _=>some a.block
 | .map (some b)=>some b
 | _=>none
def fpI:Value→List Nat
 | .tuple b=>b.toList.filterMap fp1
 | v=>(fp1 v).toList
def fp:Value→List Nat
 | .iface _ (.tuple a)=>a.toList.flatMap fpI
 | v=>(fp1 v).toList
theorem fp_bag (u:Value) (rs:List (List Value)):fp (bagV u rs)=fpI u++rs.flatMap fun r=>r.filterMap fp1:=by
 simp only [fp,bagV,List.flatMap_cons,List.flatMap_map,fpI]
structure Stays (X:Nat→Prop) (w w':World):Prop where
 os:w'.os=w.os
 output:w'.output=w.output
 size:w.heap.size≤w'.heap.size
 block:∀k,k<w.heap.size→¬X k→w'.heap[k]?=w.heap[k]?
def Excl (X:Nat→Prop) (w0:World) (b:Nat):Prop:=w0.heap.size≤b∨X b
def Froz (w:World) (b:Nat):Prop:=∃C e k,w.heap[b]?=some (.cells C e (k,k+1))
def Fixed (X:Nat→Prop) (w0 w:World) (b:Nat):Prop:=(b<w0.heap.size∧¬X b)∨Froz w b
def ViewAt (X:Nat→Prop) (w0 w:World) (t:ET) (v:Value) (l:List t.T):Prop :=
 ∃a cap,v=.slice a l.length cap∧l.length≤cap∧∀j u,(l.flatMap t.enc)[j]?=some u→∃ad,a=some ad∧w.cell? (ad.add j)=some u∧Fixed X w0 w ad.block
def PartSl (u v:Value) (lo n sz:Nat):Prop:=∃ad len cap ad',u=.slice ad len cap∧v=.slice ad' n (cap - lo)∧lo+n≤cap∧(lo<cap→∃x,ad=some x∧ad'=some (x.add (lo*sz)))∧(lo=0→ad'=ad)
def qDa (u v:Value) (lo n sz:Nat):Prop:=(0<sz→PartSl u v lo n sz)∧(sz=0→v=projV u lo n)
theorem qDa.of {u v:Value} {lo n sz:Nat} (hz:0<sz) (h:PartSl u v lo n sz):qDa u v lo n sz:=⟨fun _=>h,fun h0=>by omega⟩
def RowAt (X:Nat→Prop) (w0 w:World) (q:QK) (v:Value) (l:List q.T):Prop:=(∃e,w.ownsRow 0 e q.et.sz v (q.l l).length ((q.l l).flatMap q.et.enc))∧∀b,v.ownBlock=some b→Excl X w0 b
def entsOK (es:Array MapEntry) (m:List (BA × Int)):Prop:=(es.toList.map fun e=>(e.key,e.val))=m.map fun x=>(Value.string x.1,Value.int .i64 x.2)
def qGs (X:Nat→Prop) (w0 w:World) (v:Value):MapC→Prop
 | none=>v=.map none
 | some m=>∃b es c,v=.map (some b)∧w.heap[b]?=some (.map es c)∧entsOK es m∧Excl X w0 b
def qA7 (X:Nat→Prop) (w0 w:World):(ks:List NK)→NT ks→List Value→Prop
 | [],_,vs=>vs=[]
 | .int _::r,x,vs=>qA7 X w0 w r x.2 vs
 | .bool::r,x,vs=>qA7 X w0 w r x.2 vs
 | .str::r,x,vs=>qA7 X w0 w r x.2 vs
 | .map::r,x,vs=>∃v vs',vs=v::vs'∧qGs X w0 w v x.1∧qA7 X w0 w r x.2 vs'
 | .rw q::r,x,vs=>∃v vs',vs=v::vs'∧RowAt X w0 w q v x.1∧qA7 X w0 w r x.2 vs'
def qA3 (X:Nat→Prop) (w0 w:World) (ks:List NK):List (NT ks)→List (List Value)→Prop
 | [],[]=>True
 | x::l,r::rs=>qA7 X w0 w ks x r∧qA3 X w0 w ks l rs
 | _,_=>False
def qCj (rs:List (List Value)) (i j:Nat):Option Value:=(rs[i]?).bind fun r=>r[j]?
structure BagOK (X:Nat→Prop) (w0 w:World) (ks:List NK) (e:Nat) (l:List (NT ks)) (u:Value) (rs:List (List Value)):Prop where
 row:w.ownsRow 0 e ks.length u l.length (qA4 ks l rs)
 excl:∀b,u.ownBlock=some b→Excl X w0 b
 refs:qA3 X w0 w ks l rs
 uniq:∀i j i' j' v v' b,qCj rs i j=some v→qCj rs i' j'=some v'→fp1 v=some b→fp1 v'=some b→i=i'∧j=j'
 alone:∀i j v b,qCj rs i j=some v→fp1 v=some b→u.ownBlock≠some b
 pos:0<ks.length
def SB.sat (X:Nat→Prop) (w0 w:World) (ρ:Nat→Value) (v:Value):SB→Prop
 | .cells e l=>∃b,v=.pointer (some ⟨b,0,none⟩)∧w.heap[b]?=some (.cells (l.map (S0.den ρ)).toArray e (0,0))∧Excl X w0 b
 | .row t e l=>w.ownsRow 0 e t.sz v l.length (l.flatMap t.enc)∧∀b,v.ownBlock=some b→Excl X w0 b
 | .view t l=>ViewAt X w0 w t v l
 | .part h lo n sz=>qDa (ρ h) v lo n sz
 | .map m=>qGs X w0 w v m
 | .bag ks e l=>∃u rs,v=bagV u rs∧BagOK X w0 w ks e l u rs
 | .slc h n _=>∃b,ρ h=.pointer (some ⟨b,0,none⟩)∧v=.slice (some ⟨b,0,none⟩) n n
 | .clo f k l=>v=.func (.func f) ((l.take k).map (S0.den ρ)).toArray ((l.drop k).map (S0.den ρ)).toArray
 | .dead=>True
def SB.ex:SB→Bool
 | .cells ..=>true
 | .row ..=>true
 | .map _=>true
 | .bag ..=>true
 | _=>false
def qD1:Value→Prop
 | .pointer (some _)=>True
 | .slice _ _ _=>True
 | .map _=>True
 | .iface _ _=>True
 | .func _ _ _=>True
 | _=>False
structure HpSat (X:Nat→Prop) (w0 w:World) (ρ:Nat→Value) (hp:List SB):Prop where
 ref:∀(h:Nat),h<hp.length→qD1 (ρ h)
 sat:∀(h:Nat) (sb:SB),hp[h]?=some sb→sb.sat X w0 w ρ (ρ h)
 lt:∀(h:Nat) (sb:SB),hp[h]?=some sb→sb.lt hp.length
 apart:∀(h h':Nat) (sb sb':SB) (b:Nat),h≠h'→hp[h]?=some sb→hp[h']?=some sb'→sb.ex=true→sb'.ex=true→b∈fp (ρ h)→b∈fp (ρ h')→False
 tab:qFv X w0
structure Env where
 P:Program
 nt:Nat
 X:Nat→Prop
 w0:World
 n0:Nat
 ρ0:Nat→Value
 df:List Deferred
def getE:List (Nat × Prop × SV)→Nat→Option (Prop × SV)
 | [],_=>none
 | (j,e)::r,i=>bif j == i then some e else getE r i
def putR:List (Nat × Prop × SV)→Nat→Prop × SV→List (Nat × Prop × SV)
 | [],i,e=>[(i,e)]
 | (j,x)::r,i,e=>bif j == i then (i,e)::r else (j,x)::putR r i e
def putE (nv:Nat) (l:List (Nat × Prop × SV)) (i:Nat) (e:Prop × SV):List (Nat × Prop × SV) :=
 bif Nat.blt i nv then putR l i e else (i,e)::l
theorem beqF {i j:Nat} (h:¬i=j):(i == j)=false:=by simpa using h
theorem getE_putR (l:List (Nat × Prop × SV)) (i j:Nat) (e:Prop × SV):getE (putR l i e) j=if i=j then some e else getE l j:=by
 induction l with
 | nil =>
  simp only [putR,getE];by_cases h:i=j
  ·simp [h]
  ·simp [h,beqF h]
 | cons x r ih =>
  obtain ⟨k,y⟩:=x;by_cases hk:k=i
  ·subst hk;simp only [putR,beq_self_eq_true,cnT,getE];by_cases h:k=j
   ·simp [h]
   ·simp [h,beqF h]
  ·have:(k == i)=false:=by simpa using hk
   simp only [putR,this,cnF,getE,ih];by_cases h:k=j
   ·subst h;have:¬i=k:=fun h=>hk h.symm
    simp [this]
   ·have:(k == j)=false:=by simpa using h
    simp [this]
theorem getE_putE (nv:Nat) (l:List (Nat × Prop × SV)) (i j:Nat) (e:Prop × SV):getE (putE nv l i e) j=if i=j then some e else getE l j:=by
 unfold putE;cases Nat.blt i nv
 ·simp only [cnF,getE];by_cases h:i=j
  ·simp [h]
  ·simp [h,beqF h]
 ·simp only [cnT,getE_putR]
structure Sat (E:Env) (ρ:Nat→Value) (S:St) (a:Act) (w:World):Prop where
 nd:a.defers=E.df
 sz:a.tmps.size=E.nt
 sl:∀i c v,getE S.sl i=some (c,v)→(c→a.tmps[i]?=some (v.den ρ))∧(¬c→a.tmps[i]?=some undef)∧(c→v.lt S.hp.length)
 hp:HpSat E.X E.w0 w ρ S.hp
 fr:Stays E.X E.w0 w
 n0:E.n0≤S.hp.length
 ag:∀i<E.n0,ρ i=E.ρ0 i
def argE (S:St) (act:Prop):Arg→Option (Prop × SV)
 | .v x=>some (True,.c (.o (.val x)))
 | .t i=>match getE S.sl i with
  | some (c,v)=>some (act→c,v)
  | none=>none
inductive RR where
 | no
 | ok (p:Prop) (v:SV) (hp:List SB)
 | quiet (p:Prop) (v:SV)
 | still (p:Prop) (v:SV)
 | any (p:Prop) (k:FloatKind)
inductive RQ where
 | no
 | still (ps:List Prop) (v:SV)
 | quiet (ps:List Prop) (v:SV)
 | ok (ps:List Prop) (v:SV) (hp:List SB)
def AllP:List Prop→Prop
 | []=>True
 | p::r=>p∧AllP r
def RQ.toR:RQ→RR
 | .no=>.no
 | .still ps v=>.still (AllP ps) v
 | .quiet ps v=>.quiet (AllP ps) v
 | .ok ps v hp=>.ok (AllP ps) v hp
def ret1 (p:Prop) (v:Value):RR:=.still p (.c (.o (.val v)))
def qAf (x:Int):Prop := -9223372036854775808≤x∧x≤9223372036854775807
def qCu (x:Int):Prop := -2147483648≤x∧x≤2147483647
def w64 (x:Int):Int:=IntKind.i64.wrap x
def w32 (x:Int):Int:=IntKind.i32.wrap x
def fit (raw:Bool) (k:IntKind) (x:Int):RR :=
 match k with
 | .i64=>bif raw then ret1 True (.int .i64 (w64 x)) else ret1 (qAf x) (.int .i64 x)
 | .i32=>bif raw then ret1 True (.int .i32 (w32 x)) else ret1 (qCu x) (.int .i32 x)
 | .u8=>ret1 True (.int .u8 (x % 256))
 | .u32=>ret1 True (.int .u32 (x % 4294967296))
 | .u64=>ret1 True (.int .u64 (x % 18446744073709551616))
 | _=>.no
def quot (raw:Bool) (k:IntKind) (x y:Int):RR :=
 match k with
 | .i64=>bif raw then ret1 (y≠0∧qAf (x.tdiv y)) (.int .i64 (x.tdiv y)) else ret1 (0≤x∧x≤9223372036854775807∧1≤y) (.int .i64 (x / y))
 | .u8=>ret1 (0≤x∧x≤255∧1≤y) (.int .u8 (x / y))
 | .u32=>ret1 (0≤x∧x≤4294967295∧1≤y) (.int .u32 (x / y))
 | .u64=>ret1 (0≤x∧x≤18446744073709551615∧1≤y) (.int .u64 (x / y))
 | _=>.no
def remd (raw:Bool) (k:IntKind) (x y:Int):RR :=
 bif raw then ret1 (y≠0) (.int k (x.tmod y)) else ret1 (0≤x∧1≤y) (.int k (x % y))
def qCw (k:IntKind) (x y:Int):Int:=k.wrap (BitVec.ofInt k.bits x &&& BitVec.ofInt k.bits y).toNat
def qBy (k:IntKind) (x y:Int):Int:=k.wrap (BitVec.ofInt k.bits x ||| BitVec.ofInt k.bits y).toNat
def bitXor (k:IntKind) (x y:Int):Int:=k.wrap (BitVec.ofInt k.bits x ^^^ BitVec.ofInt k.bits y).toNat
def bitNot (k:IntKind) (x y:Int):Int:=k.wrap (BitVec.ofInt k.bits x &&& ~~~ BitVec.ofInt k.bits y).toNat
def sLt (x y:BA):Bool:=Op.bytesLess x.toList y.toList
def binR (raw:Bool) (op:BinOp):Value→Value→RR
 | .int k x,.int k' y =>
  match op with
  | .shl=>match fit raw k (x*2 ^ (min y.toNat k.bits)) with
   | .still p v=>.still (0≤y∧p) v
   | _=>.no
  | .shr=>ret1 (0≤y) (.int k (x / 2 ^ (min y.toNat k.bits)))
  | _ =>
   bif decide (k=k') then
    match op with
    | .add=>fit raw k (x+y)
    | .sub=>fit raw k (x - y)
    | .mul=>fit raw k (x*y)
    | .quo=>quot raw k x y
    | .rem=>remd raw k x y
    | .and=>ret1 True (.int k (qCw k x y))
    | .or=>ret1 True (.int k (qBy k x y))
    | .xor=>ret1 True (.int k (bitXor k x y))
    | .andNot=>ret1 True (.int k (bitNot k x y))
    | .eql=>ret1 True (.bool (decide (x=y)))
    | .neq=>ret1 True (.bool (!decide (x=y)))
    | .lss=>ret1 True (.bool (decide (x<y)))
    | .leq=>ret1 True (.bool (decide (x≤y)))
    | .gtr=>ret1 True (.bool (decide (y<x)))
    | .geq=>ret1 True (.bool (decide (y≤x)))
    | _=>.no
   else .no
 | .string x,.string y =>
  match op with
  | .add=>ret1 (x.size+y.size≤9223372036854775807) (.string (x++y))
  | .eql=>ret1 True (.bool (decide (x=y)))
  | .neq=>ret1 True (.bool (!decide (x=y)))
  | .lss=>ret1 True (.bool (sLt x y))
  | .leq=>ret1 True (.bool (sLt x y || decide (x=y)))
  | .gtr=>ret1 True (.bool (!(sLt x y || decide (x=y))))
  | .geq=>ret1 True (.bool (!sLt x y))
  | _=>.no
 | _,_=>.no
def mmR (mx:Bool):Value→Value→RR
 | .int k x,.int _ y=>ret1 True (.int k (bif mx then (if y > x then y else x) else (if y<x then y else x)))
 | _,_=>.no
def beqR (neg:Bool):Value→Value→RR
 | .bool a,.bool b=>ret1 True (.bool (bif neg then !(a == b) else (a == b)))
 | _,_=>.no
def unR (op:UnOp):Value→RR
 | .int k x=>match op with
  | .neg=>fit false k (0 - x)
  | _=>.no
 | .bool b=>match op with
  | .not=>ret1 True (.bool (!b))
  | _=>.no
 | _=>.no
def pickB (c:Bool) (a b:Value):RR :=
 match a,b with
 | .bool x,.bool y=>ret1 True (.bool (bif c then x else y))
 | _,_=>.no
def setL:List S0→Nat→List S0→List S0
 | l,_,[]=>l
 | l,i,x::r=>setL (l.set i x) (i+1) r
def SV.cells:SV→Option (List S0)
 | .c (.o (.val (.agg _)))=>none
 | .c (.o (.val (.tuple _)))=>none
 | .c (.o x)=>some [x]
 | .c (.agg l)=>some l
 | _=>none
def S0.one:S0→Prop
 | .val v=>v.oneCell'=true
 | _=>True
def allOne:List S0→Prop
 | []=>True
 | x::r=>x.one∧allOne r
def vals:List S0→Option (List Value)
 | []=>some []
 | .val v::r=>match vals r with
  | some s=>some (v::s)
  | none=>none
 | _=>none
def qCq (l:List S0) (i n:Nat):List S0:=(l.drop i).take n
def bAt (s:BA) (i:Int):Int:=if 0≤i then (match s[i.toNat]? with | some b=>(b.toNat:Int) | none => -1) else -1
abbrev Con:=List SV→List SB→Option (Prop × SV × Option (List SB))
def owe (p act:Prop):RR→RR
 | .no=>.no
 | .ok q v hp=>.ok (p∧(act→q)) v hp
 | .quiet q v=>.quiet (p∧(act→q)) v
 | .still q v=>.still (p∧(act→q)) v
 | .any q k=>.any (p∧(act→q)) k
def etOf:List Value→Option ET
 | [.int .u8 _]=>some .u8
 | [.int .i64 _]=>some .i64
 | [.int .u32 _]=>some .u32
 | [.int .u64 _]=>some .u64
 | [.int .i32 _]=>some .i32
 | [.bool _]=>some .bl
 | [.string _]=>some .str
 | [.int .i64 _,.string _,.string _,.bool _,.int .i64 _,.int .i64 _]=>some .node
 | [.bool _,.int .i64 _]=>some .tm
 | _=>none
def decs (t:ET):Nat→List Value→Option (List t.T)
 | 0,_=>some []
 | n+1,l=>match t.dec (l.take t.sz),decs t n (l.drop t.sz) with
  | some x,some r=>some (x::r)
  | _,_=>none
def argsE (S:St) (act:Prop):List Arg→Option (Prop × List SV)
 | []=>some (True,[])
 | x::r=>match argE S act x,argsE S act r with
  | some (p,v),some (q,l)=>some (p∧q,v::l)
  | _,_=>none
def fillL (S:St) (act:Prop):List (Nat × Nat × Arg)→List S0→Option (Prop × List S0)
 | [],l=>some (True,l)
 | (off,sz,x)::r,l=>match argE S act x with
  | some (p,v)=>match v.cells with
   | some cs=>bif (cs.length == sz && Nat.ble (off+sz) l.length) then
     (match fillL S act r (setL l off cs) with
     | some (q,m)=>some (p∧q,m)
     | none=>none)
    else none
   | none=>none
  | none=>none
def qHe (hp:List SB):S0→Option Nat
 | .val (.slice none 0 0)=>some 0
 | .own h=>match hp[h]? with
  | some (.row _ _ l)=>some l.length
  | some (.view _ l)=>some l.length
  | some (.part _ _ n z)=>bif Nat.beq z 0 then none else some n
  | some (.slc _ n _)=>some n
  | _=>none
 | .bsl k=>match hp[k]? with
  | some (.bag _ _ l)=>some l.length
  | _=>none
 | _=>none
def bound (S:St) (act:Prop) (d:Int):Option Arg→Option (Prop × Int)
 | none=>some (True,d)
 | some x=>match argE S act x with
  | some (p,.c (.o (.val (.int _ n))))=>some (p,n)
  | _=>none
def nkSet:(ks:List NK)→NT ks→Nat→S0→Option (NT ks)
 | [],_,_,_=>none
 | .int q::_,x,0,v=>match v with
  | .val (.int q' n)=>bif decide (q'=q) then some (n,x.2) else none
  | _=>none
 | .bool::_,x,0,v=>match v with
  | .val (.bool b)=>some (b,x.2)
  | _=>none
 | .str::_,x,0,v=>match v with
  | .val (.string s)=>some (s,x.2)
  | _=>none
 | .map::_,_,0,_=>none
 | .rw _::_,_,0,_=>none
 | .int _::r,x,off+1,v=>match nkSet r x.2 off v with
  | some y=>some (x.1,y)
  | none=>none
 | .bool::r,x,off+1,v=>match nkSet r x.2 off v with
  | some y=>some (x.1,y)
  | none=>none
 | .str::r,x,off+1,v=>match nkSet r x.2 off v with
  | some y=>some (x.1,y)
  | none=>none
 | .map::r,x,off+1,v=>match nkSet r x.2 off v with
  | some y=>some (x.1,y)
  | none=>none
 | .rw _::r,x,off+1,v=>match nkSet r x.2 off v with
  | some y=>some (x.1,y)
  | none=>none
def qFa:(ks:List NK)→NT ks→Nat→Option MapC
 | .map::_,x,0=>some x.1
 | .map::r,x,j+1=>qFa r x.2 j
 | .rw _::_,_,0=>none
 | .rw _::r,x,j+1=>qFa r x.2 j
 | .int _::r,x,j=>qFa r x.2 j
 | .bool::r,x,j=>qFa r x.2 j
 | .str::r,x,j=>qFa r x.2 j
 | [],_,_=>none
def nkPut:(ks:List NK)→NT ks→Nat→MapC→NT ks
 | .map::_,x,0,m=>(m,x.2)
 | .map::r,x,j+1,m=>(x.1,nkPut r x.2 j m)
 | .rw _::_,x,0,_=>x
 | .rw _::r,x,j+1,m=>(x.1,nkPut r x.2 j m)
 | .int _::r,x,j,m=>(x.1,nkPut r x.2 j m)
 | .bool::r,x,j,m=>(x.1,nkPut r x.2 j m)
 | .str::r,x,j,m=>(x.1,nkPut r x.2 j m)
 | [],x,_,_=>x
def qCi:(ks:List NK)→NT ks→Nat→Option SB
 | .rw q::_,x,0=>some (.view q.et (q.l x.1))
 | .rw _::r,x,j+1=>qCi r x.2 j
 | .map::_,_,0=>none
 | .map::r,x,j+1=>qCi r x.2 j
 | .int _::r,x,j=>qCi r x.2 j
 | .bool::r,x,j=>qCi r x.2 j
 | .str::r,x,j=>qCi r x.2 j
 | [],_,_=>none
def ksOf:List Value→Option (List NK)
 | []=>some []
 | .int k _::r=>(ksOf r).map (NK.int k :: ·)
 | .bool _::r=>(ksOf r).map (NK.bool :: ·)
 | .string _::r=>(ksOf r).map (NK.str :: ·)
 | .map none::r=>(ksOf r).map (NK.map :: ·)
 | .slice none 0 0::.int k _::.string _::[]=>some [.rw .str,.int k,.str]
 | .slice none 0 0::.int k n::r=>(ksOf (.int k n::r)).map (NK.rw .node :: ·)
 | .slice none 0 0::r=>(ksOf r).map (NK.rw .str :: ·)
 | _=>none
def QK.take:(q:QK)→SB→Option (List q.T)
 | .str,.row .str _ l=>some l
 | .node,.row .node _ l=>some l
 | _,_=>none
theorem QK.take_eq {q:QK} {sb:SB} {l:List q.T} (h:q.take sb=some l):∃e,sb=.row q.et e (q.l l):=by
 unfold QK.take at h;split at h
 ·cases h; exact ⟨_,rfl⟩
 ·cases h; exact ⟨_,rfl⟩
 ·cases h
def qCt (hp:List SB):(ks:List NK)→List S0→Option (NT ks × List Nat)
 | [],[]=>some ((),[])
 | [],_::_=>none
 | _::_,[]=>none
 | .int q::r,v::l=>match v,qCt hp r l with
  | .val (.int q' n),some (x,hs)=>bif decide (q'=q) then some ((n,x),hs) else none
  | _,_=>none
 | .bool::r,v::l=>match v,qCt hp r l with
  | .val (.bool b),some (x,hs)=>some ((b,x),hs)
  | _,_=>none
 | .str::r,v::l=>match v,qCt hp r l with
  | .val (.string s),some (x,hs)=>some ((s,x),hs)
  | _,_=>none
 | .map::r,v::l=>match v,qCt hp r l with
  | .val (.map none),some (x,hs)=>some (((none:MapC),x),hs)
  | .own h,some (x,hs)=>match hp[h]? with
   | some (.map m)=>some ((m,x),h::hs)
   | _=>none
  | _,_=>none
 | .rw q::r,v::l=>match v,qCt hp r l with
  | .val (.slice none 0 0),some (x,hs)=>some ((([]:List q.T),x),hs)
  | .own h,some (x,hs)=>match (hp[h]?).bind q.take with
   | some m=>some ((m,x),h::hs)
   | none=>none
  | _,_=>none
def nodupN:List Nat→Bool
 | []=>true
 | x::r=>bif r.all (fun y=>bif Nat.beq x y then false else true) then nodupN r else false
def killL:List Nat→List SB→List SB
 | [],hp=>hp
 | h::r,hp=>killL r (hp.set h .dead)
def bagNew (hp:List SB) (e sz n:Nat) (zero:List Value) (l:List S0):Option (SV × List SB) :=
 match n,ksOf zero with
 | 1,some ks=>bif (bif Nat.beq sz ks.length then Nat.blt 0 sz else false) then (match qCt hp ks l with
  | some (x,hs)=>bif nodupN hs then some (.c (.o (.bsl hp.length)),killL hs hp++[.bag ks e [x]]) else none
  | none=>none) else none
 | _,_=>none
def litNew (hp:List SB) (e sz n:Nat) (l:List S0):Option (SV × List SB) :=
 bif Nat.beq l.length (n*sz) then some (.c (.o (.own (hp.length+1))),hp++[.cells e l,.slc hp.length n sz]) else none
def litBag (hp:List SB) (e sz n:Nat) (zero:List Value) (l:List S0):Option (SV × List SB) :=
 match bagNew hp e sz n zero l with
 | some x=>some x
 | none=>litNew hp e sz n l
def bagLoad (k:Nat) (ks:List NK) (l:List (NT ks)) (i off:Nat):Option Nat→RQ
 | none=>match (qBw k i ks (l.getD i (NT.dft ks)) 0)[off]? with
  | some x=>.quiet [i<l.length] (.c (.o x))
  | none=>.no
 | some m=>bif Nat.ble (off+m) ks.length then .quiet [i<l.length] (.c (.agg (qCq (qBw k i ks (l.getD i (NT.dft ks)) 0) off m))) else .no
def bagLoadQ (hp:List SB) (n:Option Nat):S0→RQ
 | .pel k i sz off=>match hp[k]? with
  | some (.bag ks _ l)=>bif Nat.beq sz ks.length then bagLoad k ks l i off n else .no
  | _=>.no
 | _=>.no
def bagStoreQ (hp:List SB) (n:Nat) (x:List S0):S0→RQ
 | .pel k i sz off=>match hp[k]?,n,x with
  | some (.bag ks e l),1,[v]=>bif Nat.beq sz ks.length then (match nkSet ks (l.getD i (NT.dft ks)) off v with
   | some y=>.ok [i<l.length] (.c (.o (.val undef))) (hp.set k (.bag ks e (l.set i y)))
   | none=>.no) else .no
  | _,_,_=>.no
 | _=>.no
def bagFaddrQ (hp:List SB) (off:Nat):S0→RQ
 | .pel k i sz o=>match hp[k]? with
  | some (.bag _ _ l)=>.still [i<l.length] (.c (.o (.pel k i sz (o+off))))
  | _=>.no
 | _=>.no
def bagIaddrQ (hp:List SB) (sz:Nat) (x:S0) (i:Int):RQ :=
 match x with
 | .bsl k=>match hp[k]? with
  | some (.bag ks _ l)=>bif Nat.beq sz ks.length then .still [0≤i∧i<l.length] (.c (.o (.pel k i.toNat sz 0))) else .no
  | _=>.no
 | _=>.no
def bagSubQ (hp:List SB) (sz:Nat) (x:S0) (lo:Option Int) (hi:Int):RQ :=
 match x,lo with
 | .bsl k,none=>match hp[k]? with
  | some (.bag ks e l)=>bif Nat.beq sz ks.length then .ok [0≤hi∧hi≤l.length] (.c (.o (.bsl hp.length))) (hp.set k .dead++[.bag ks e (l.take hi.toNat)]) else .no
  | _=>.no
 | _,_=>.no
def qGt (hp:List SB) (e sz bytes:Nat) (s x:S0):RQ :=
 match s,x with
 | .val (.slice none 0 0),.bsl h'=>match hp[h']? with
  | some (.bag ks e' m)=>bif (bif Nat.beq sz ks.length then Nat.beq e e' else false) then .ok [m.length≤9223372036854775807∧m.length*bytes≤140737488355328] (.c (.o (.bsl hp.length))) (hp.set h' .dead++[.bag ks e m]) else .no
  | _=>.no
 | .bsl h,.bsl h'=>match hp[h]?,hp[h']? with
  | some (.bag ks e1 l),some (.bag ks' _ m)=>if hk:ks'=ks then bif (bif Nat.beq sz ks.length then (bif Nat.beq e e1 then (bif Nat.beq h h' then false else true) else false) else false) then
    .ok [l.length+m.length≤9223372036854775807∧(l.length+m.length)*bytes≤140737488355328] (.c (.o (.bsl hp.length))) ((hp.set h .dead).set h' .dead++[.bag ks e (l++hk ▸ m)]) else .no else .no
  | _,_=>.no
 | _,_=>.no
def mapOfQ (hp:List SB):S0→Option (List Prop × MapC)
 | .val (.map none)=>some ([],none)
 | .own h=>match hp[h]? with
  | some (.map m)=>some ([],m)
  | _=>none
 | .prj k i j=>match hp[k]? with
  | some (.bag ks _ l)=>match qFa ks (l.getD i (NT.dft ks)) j with
   | some m=>some ([i<l.length],m)
   | none=>none
  | _=>none
 | _=>none
def mapPutQ (hp:List SB) (x:S0) (s:BA) (v:Int):RQ :=
 match x with
 | .own h=>match hp[h]? with
  | some (.map m)=>.ok [m.isSome=true] (.c (.o (.val undef))) (hp.set h (.map (mput m s v)))
  | _=>.no
 | .prj k i j=>match hp[k]? with
  | some (.bag ks e l)=>match qFa ks (l.getD i (NT.dft ks)) j with
   | some m=>.ok [i<l.length,m.isSome=true] (.c (.o (.val undef))) (hp.set k (.bag ks e (l.set i (nkPut ks (l.getD i (NT.dft ks)) j (mput m s v)))))
   | none=>.no
  | _=>.no
 | _=>.no
def rowLoad (t:ET) (l:List t.T) (i off:Nat):Option Nat→RR
 | none=>match (t.enc (l.getD i t.dft))[off]? with
  | some x=>.quiet (i<l.length) (.c (.o (.val x)))
  | none=>.no
 | some m=>bif Nat.ble (off+m) t.sz then .quiet (i<l.length) (.c (.agg (qCq ((t.enc (l.getD i t.dft)).map S0.val) off m))) else .no
def qFl (l:List S0) (off:Nat):Option Nat→RR
 | none=>match l[off]? with
  | some x=>.quiet True (.c (.o x))
  | none=>.no
 | some m=>bif Nat.ble (off+m) l.length then .quiet True (.c (.agg (qCq l off m))) else .no
def loadR (hp:List SB) (n:Option Nat):S0→RR
 | .hd h off=>match hp[h]? with
  | some (.cells _ l)=>qFl l off n
  | _=>.no
 | .el h i sz off=>match hp[h]? with
  | some (.row t _ l)=>bif sz == t.sz then rowLoad t l i off n else .no
  | some (.view t l)=>bif sz == t.sz then rowLoad t l i off n else .no
  | _=>.no
 | x=>(bagLoadQ hp n x).toR
def storeR (hp:List SB) (n:Nat) (x:List S0):S0→RR
 | .hd h off=>match hp[h]? with
  | some (.cells e l)=>bif (x.length == n && Nat.ble (off+n) l.length) then .ok (allOne x) (.c (.o (.val undef))) (hp.set h (.cells e (setL l off x))) else .no
  | _=>.no
 | .el h i sz off=>match hp[h]? with
  | some (.row t e l)=>bif (sz == t.sz && (x.length == n && Nat.ble (off+n) t.sz)) then
    (match vals (setL ((t.enc (l.getD i t.dft)).map S0.val) off x) with
    | some vs=>match t.dec vs with
     | some y=>.ok (i<l.length) (.c (.o (.val undef))) (hp.set h (.row t e (l.set i y)))
     | none=>.no
    | none=>.no) else .no
  | _=>.no
 | d=>(bagStoreQ hp n x d).toR
def faddrR (hp:List SB) (off:Nat):S0→RR
 | .hd h o=>match hp[h]? with
  | some (.cells _ _)=>.still True (.c (.o (.hd h (o+off))))
  | _=>.no
 | .el h i sz o=>match hp[h]? with
  | some (.row _ _ l)=>.still (i<l.length) (.c (.o (.el h i sz (o+off))))
  | some (.view _ l)=>.still (i<l.length) (.c (.o (.el h i sz (o+off))))
  | _=>.no
 | x=>(bagFaddrQ hp off x).toR
def iaddrR (hp:List SB) (sz:Nat) (x:S0) (i:Int):RR :=
 match x with
 | .own h=>match hp[h]? with
  | some (.row t _ l)=>bif sz == t.sz then .still (0≤i∧i<l.length) (.c (.o (.el h i.toNat sz 0))) else .no
  | some (.view t l)=>bif sz == t.sz then .still (0≤i∧i<l.length) (.c (.o (.el h i.toNat sz 0))) else .no
  | some (.part k lo n s)=>bif sz == s && Nat.blt (bif Nat.beq s 0 then hp.length else k) hp.length then .still (0≤i∧i<n) (.c (.o (.el k (lo+i.toNat) sz 0))) else .no
  | some (.slc k n s)=>bif sz == s && Nat.blt k hp.length then .still (0≤i∧i<n) (.c (.o (.hd k (i.toNat*sz)))) else .no
  | _=>.no
 | x=>(bagIaddrQ hp sz x i).toR
def baseLen (hp:List SB) (k:Nat):Option (Nat × Nat) :=
 match hp[k]? with
 | some (.row t _ l)=>some (l.length,t.sz)
 | some (.view t l)=>some (l.length,t.sz)
 | _=>none
def subR (hp:List SB) (sz:Nat) (x:S0) (lo:Option Int) (hi:Int):RR :=
 match x with
 | .own h=>match hp[h]? with
  | some (.row t e l)=>bif sz == t.sz then (match lo with
   | none=>.ok (0≤hi∧hi≤l.length) (.c (.o (.own hp.length))) (hp.set h .dead++[.row t e (l.take hi.toNat)])
   | some lo=>.ok (0≤lo∧lo≤hi∧hi≤l.length) (.c (.o (.own hp.length))) (hp++[.part h lo.toNat (hi.toNat - lo.toNat) sz])) else .no
  | some (.part k lo0 _ s)=>match baseLen hp k with
   | some (m,z)=>bif sz == s && sz == z then .ok (0≤lo.getD 0∧lo.getD 0≤hi∧lo0+hi≤m) (.c (.o (.own hp.length))) (hp++[.part k (lo0+(lo.getD 0).toNat) (hi.toNat - (lo.getD 0).toNat) sz]) else .no
   | none=>.no
  | some (.view t l)=>bif sz == t.sz then (match lo with
   | none=>.ok (0≤hi∧hi≤l.length) (.c (.o (.own hp.length))) (hp++[.view t (l.take hi.toNat)])
   | some lo=>.ok (0≤lo∧lo≤hi∧hi≤l.length) (.c (.o (.own hp.length))) (hp++[.view t ((l.take hi.toNat).drop lo.toNat)])) else .no
  | _=>.no
 | x=>(bagSubQ hp sz x lo hi).toR
def srcL (hp:List SB) (t:ET):S0→Option (List t.T)
 | .own h=>match hp[h]? with
  | some (.row t' _ l)=>if h:t'=t then some (h ▸ l) else none
  | some (.view t' l)=>if h:t'=t then some (h ▸ l) else none
  | some (.part k lo n sz)=>match hp[k]? with
   | some (.row t' _ l)=>if h:t'=t then (bif Nat.beq sz t.sz then some (((h ▸ l:List t.T).drop lo).take n) else none) else none
   | _=>none
  | _=>none
 | .val (.slice none 0 0)=>some []
 | _=>none
def srcO (hp:List SB):S0→List Prop
 | .own h=>match hp[h]? with
  | some (.part k lo n _)=>match hp[k]? with
   | some (.row _ _ l)=>[lo+n≤l.length]
   | _=>[]
  | _=>[]
 | _=>[]
def apart0:S0→S0→Bool
 | .own h,.own h'=>h != h'
 | _,_=>true
def appendR (hp:List SB) (e sz bytes:Nat) (zero:List Value) (s x:S0):RR :=
 bif apart0 s x then
  (match s with
  | .val (.slice none 0 0)=>match etOf zero with
   | some t=>bif sz == t.sz then (match srcL hp t x with
    | some m=>.ok (AllP (srcO hp x)∧m.length≤9223372036854775807∧m.length*bytes≤140737488355328) (.c (.o (.own hp.length))) (hp++[.row t e m])
    | none=>.no) else .no
   | none=>(qGt hp e sz bytes (.val (.slice none 0 0)) x).toR
  | .own h=>match hp[h]? with
   | some (.row t e' l)=>bif (sz == t.sz && e == e') then (match srcL hp t x with
    | some m=>.ok (AllP (srcO hp x)∧l.length+m.length≤9223372036854775807∧(l.length+m.length)*bytes≤140737488355328) (.c (.o (.own hp.length))) (hp.set h .dead++[.row t e (l++m)])
    | none=>.no) else .no
   | _=>.no
  | s=>(qGt hp e sz bytes s x).toR)
 else .no
def fieldR (p:Prop) (l:List S0) (off:Nat):Option Nat→RR
 | none=>match l[off]? with
  | some y=>.still p (.c (.o y))
  | none=>.no
 | some m=>bif Nat.ble (off+m) l.length then .still p (.c (.agg (qCq l off m))) else .no
def loOf (lo:Option Arg) (l:Int):Option Int :=
 match lo with
 | none=>none
 | some _=>some l
def qBe (l:List Int):BA:=l.foldl (fun r n=>r.push (UInt8.ofNat n.toNat)) ByteArray.empty
def qB9 (s:BA):List Int:=s.data.toList.map fun b=>(b.toNat:Int)
def ptrSame:S0→S0→Option Bool
 | .hd h o,.hd h' o'=>bif Nat.beq h h' then (bif Nat.beq o o' then some true else none) else none
 | .hd _ _,.val (.pointer none)=>some false
 | .val (.pointer none),.hd _ _=>some false
 | .val (.pointer none),.val (.pointer none)=>some true
 | .opt c h o,.hd h' o'=>bif Nat.beq h h' then (bif Nat.beq o o' then some c else none) else none
 | .opt c _ _,.val (.pointer none)=>some (!c)
 | _,_=>none
def cellsB (hp:List SB):S0→Bool
 | .hd h _=>match hp[h]? with
  | some (.cells _ _)=>true
  | _=>false
 | .opt _ h _=>match hp[h]? with
  | some (.cells _ _)=>true
  | _=>false
 | _=>true
theorem cellsB_spec {hp:List SB} {h off:Nat} (hc:cellsB hp (.hd h off)=true):∃e l,hp[h]?=some (.cells e l):=by
 simp only [cellsB] at hc;split at hc
 ·exact ⟨_,_,by assumption⟩
 ·cases hc
theorem cellsB_opt {hp:List SB} {c:Bool} {h off:Nat} (hc:cellsB hp (.opt c h off)=true):∃e l,hp[h]?=some (.cells e l):=by
 simp only [cellsB] at hc;split at hc
 ·exact ⟨_,_,by assumption⟩
 ·cases hc
def qA9:List EK→List S0→List S0→Option Bool
 | [],[],[]=>some true
 | .int k::ks,.val (.int k1 x)::l,.val (.int k2 y)::m=>bif (bif decide (k1=k) then decide (k2=k) else false) then (match qA9 ks l m with
  | some b=>some (decide (x=y) && b)
  | none=>none) else none
 | .bool::ks,.val (.bool x)::l,.val (.bool y)::m=>match qA9 ks l m with
  | some b=>some ((x == y) && b)
  | none=>none
 | .str::ks,.val (.string x)::l,.val (.string y)::m=>match qA9 ks l m with
  | some b=>some (decide (x=y) && b)
  | none=>none
 | _,_,_=>none
def intsOf (k:IntKind):List S0→Option (List Int)
 | []=>some []
 | .val (.int k' n)::r=>bif decide (k'=k) then (match intsOf k r with
  | some l=>some (n::l)
  | none=>none) else none
 | _::_=>none
def kindOf:List S0→Option IntKind
 | .val (.int k _)::_=>some k
 | _=>none
def oneL:List SV→Option (List S0)
 | []=>some []
 | .c (.o x)::r=>(oneL r).map (x :: ·)
 | _=>none
def plainL:List S0→Option (List Value)
 | []=>some []
 | .val v::r=>match plainL r with
  | some l=>some (v::l)
  | none=>none
 | _=>none
theorem plainL_den {ρ:Nat→Value}:∀ {l:List S0} {vs:List Value},plainL l=some vs→l.map (S0.den ρ)=vs
 | [],vs,h=>by cases h; rfl
 | x::r,vs,h=>by
  cases x with
  | val v =>
   simp only [plainL] at h;cases hr:plainL r with
   | none=>rw [hr] at h; cases h
   | some l =>
    rw [hr] at h;cases h;rw [List.map_cons,plainL_den hr];rfl
  | _=>cases h
def extQ (hp:List SB):Ext→List SV→RQ
 | .aggEq neg ks,[.c (.agg l),.c (.agg m)]=>match qA9 ks l m with
  | some b=>.still [] (.c (.o (.val (.bool (bif neg then !b else b)))))
  | none=>.no
 | .nilck,[.c (.o (.hd h off))]=>match hp[h]? with
  | some (.cells _ _)=>.still [] (.c (.o (.hd h off)))
  | _=>.no
 | .nilck,[.c (.o (.el h i sz off))]=>match hp[h]? with
  | some (.row _ _ l)=>.still [i<l.length] (.c (.o (.el h i sz off)))
  | some (.view _ l)=>.still [i<l.length] (.c (.o (.el h i sz off)))
  | _=>.no
 | .nilck,[.c (.o (.pel k i sz off))]=>match hp[k]? with
  | some (.bag _ _ l)=>.still [i<l.length] (.c (.o (.pel k i sz off)))
  | _=>.no
 | .mkslice e sz bytes zero,[.c (.o (.val (.int _ n))),.c (.o (.val (.int _ m)))]=>match etOf zero with
  | some t=>bif Nat.beq sz t.sz then (match t.dec zero with
   | some z=>.ok [0≤n∧n≤m∧m≤9223372036854775807∧m*bytes≤140737488355328] (.c (.o (.own hp.length))) (hp++[.row t e (List.replicate n.toNat z)])
   | none=>.no) else .no
  | none=>.no
 | .toStr,[.c (.o (.own h))]=>match hp[h]? with
  | some (.row .u8 _ l)=>.quiet [] (.c (.o (.val (.string (qBe l)))))
  | some (.view .u8 l)=>.quiet [] (.c (.o (.val (.string (qBe l)))))
  | some (.part k lo n 1)=>match hp[k]? with
   | some (.row .u8 _ l)=>.quiet [lo+n≤l.length] (.c (.o (.val (.string (qBe ((l.drop lo).take n))))))
   | some (.view .u8 l)=>.quiet [lo+n≤l.length] (.c (.o (.val (.string (qBe ((l.drop lo).take n))))))
   | _=>.no
  | _=>.no
 | .fro,[.c (.o (.own h))]=>match hp[h]? with
  | some (.row .u8 _ l)=>.ok [0<l.length] (.c (.o (.own h))) (hp.set h (.view .u8 l))
  | _=>.no
 | .toStr,[.c (.o (.val (.slice none 0 0)))]=>.still [] (.c (.o (.val (.string .empty))))
 | .ptrEq neg,[.c (.o x),.c (.o y)]=>match ptrSame x y with
  | some b=>if cellsB hp x && cellsB hp y then .still [] (.c (.o (.val (.bool (bif neg then !b else b))))) else .no
  | none=>.no
 | .toUns,[.c (.o (.hd h off))]=>match hp[h]? with
  | some (.cells _ l)=>bif Nat.blt off l.length then .quiet [] (.c (.o (.hd h off))) else .no
  | _=>.no
 | .fromUns u n,[.c (.o (.hd h 0))]=>match hp[h]? with
  | some (.cells e l)=>bif (bif Nat.beq e u then Nat.beq l.length n else false) then .quiet [] (.c (.o (.hd h 0))) else .no
  | _=>.no
 | .noEsc,[.c (.o x)]=>.still [] (.c (.o x))
 | .aidx sz n,[.c (.agg l),.c (.o (.val (.int _ i)))]=>match kindOf l with
  | some k=>match intsOf k l with
   | some cs=>bif Nat.beq cs.length (n*sz) then .still [0≤i∧i<n] (.c (.agg ((List.range sz).map fun j=>.val (.int k (cs.getD (i.toNat*sz+j) 0))))) else .no
   | none=>.no
  | none=>.no
 | .sdata,[.c (.o (.own h))]=>match hp[h]? with
  | some (.row .u8 _ l)=>.still [0<l.length] (.c (.o (.el h 0 1 0)))
  | _=>.no
 | .ustr e,[.c (.o (.el h 0 1 0)),.c (.o (.val (.int .i64 n)))]=>match hp[h]? with
  | some (.row .u8 e' l)=>bif Nat.beq e e' then .ok [n=l.length∧0<l.length∧∀x∈l,0≤x∧x<256] (.c (.o (.val (.string (qBe l))))) (hp.set h .dead) else .no
  | _=>.no
 | .f32bits,[.c (.o (.val (.float .f32 b)))]=>.still [] (.c (.o (.val (.int .u32 b))))
 | .appStr e,[.c (.o (.val (.slice none 0 0))),.c (.o (.val (.string s)))]=>.ok [s.size≤140737488355328] (.c (.o (.own hp.length))) (hp++[.row .u8 e (qB9 s)])
 | .appStr e,[.c (.o (.own h)),.c (.o (.val (.string s)))]=>match hp[h]? with
  | some (.row .u8 e' l)=>bif Nat.beq e e' then .ok [l.length+s.size≤140737488355328] (.c (.o (.own hp.length))) (hp.set h .dead++[.row .u8 e (l++qB9 s)]) else .no
  | _=>.no
 | .mkmap,[]=>.ok [] (.c (.o (.own hp.length))) (hp++[.map (some [])])
 | .mget,[.c (.o x),.c (.o (.val (.string s)))]=>match mapOfQ hp x with
  | some (ps,m)=>.quiet ps (.c (.o (.val (.int .i64 (mget m s)))))
  | none=>.no
 | .mput,[.c (.o x),.c (.o (.val (.string s))),.c (.o (.val (.int .i64 v)))]=>mapPutQ hp x s v
 | .mnil neg,[.c (.o x)]=>match mapOfQ hp x with
  | some (ps,m)=>.still ps (.c (.o (.val (.bool (bif neg then m.isSome else m.isNone)))))
  | none=>.no
 | .mkif t,[.c (.agg l)]=>match plainL l with
  | some vs=>.still [] (.c (.o (.val (.iface t (.agg vs.toArray)))))
  | none=>.no
 | .snil neg,[.c (.o (.own h))]=>match hp[h]? with
  | some (.row _ _ l)=>.still [0<l.length] (.c (.o (.val (.bool neg))))
  | some (.view _ l)=>.still [0<l.length] (.c (.o (.val (.bool neg))))
  | _=>.no
 | .snil neg,[.c (.o (.val (.slice none 0 0)))]=>.still [] (.c (.o (.val (.bool (!neg)))))
 | .tab g,[]=>match tabV g with
  | some x=>.ok [] (.c (.o (.own hp.length))) (hp++[.view x.1 x.2])
  | none=>.no
 | .mkfn f _,[]=>.still [] (.c (.o (.val (.func (.func f) #[] #[]))))
 | .mkfn f k,x::r=>match oneL (x::r) with
  | some cs=>.ok [] (.c (.o (.own hp.length))) (hp++[.clo f k cs])
  | none=>.no
 | .asl n sz,[.c (.o (.hd h 0))]=>match hp[h]? with
  | some (.cells _ l)=>bif Nat.beq l.length (n*sz) then .ok [] (.c (.o (.own hp.length))) (hp++[.slc h n sz]) else .no
  | _=>.no
 | .pidx n sz,[.c (.o (.hd h off)),.c (.o (.val (.int _ i)))]=>match hp[h]? with
  | some (.cells _ _)=>.still [0≤i∧i<n] (.c (.o (.hd h (off+i.toNat*sz))))
  | _=>.no
 | .cmpStr,[.c (.o (.val (.string a))),.c (.o (.val (.string b)))]=>.still [] (.c (.o (.val (.int .i64 (Lib.compareBytes a.data.toList b.data.toList)))))
 | .idxByte,[.c (.o (.val (.string a))),.c (.o (.val (.int .u8 c)))]=>.still [] (.c (.o (.val (.int .i64 (Lib.indexByte a.data.toList c.toNat.toUInt8)))))
 | _,_=>.no
def runP (Γ:Nat→Option Con) (S:St) (act:Prop):Pr→RR
 | .bad=>.no
 | .floA op k x y=>match argE S act x,argE S act y with
  | some (p,.c (.o (.val (.float k1 _)))),some (q,.c (.o (.val (.float k2 _))))=>bif decide (k1=k) && decide (k2=k) && arithB op then .any (p∧q) k else .no
  | _,_=>.no
 | .floI k x=>match argE S act x with
  | some (p,.c (.o (.val (.int _ _))))=>.any p k
  | _=>.no
 | .floC s k x=>match argE S act x with
  | some (p,.c (.o (.val (.float k1 _))))=>bif decide (k1=s) then .any p k else .no
  | _=>.no
 | .ext x xs=>match argsE S act xs with
  | some (p,l)=>owe p act (extQ S.hp x l).toR
  | none=>.no
 | .mv x=>match argE S act x with
  | some (p,v)=>.still p v
  | none=>.no
 | .strc x=>match argE S act x with
  | some (p,.c (.o (.val (.string s))))=>.still p (.c (.o (.val (.string s))))
  | _=>.no
 | .pick c a b=>match argE S act c with
  | some (pc,.c (.o (.val (.bool cb)))) =>
   match argE S (act∧cb=true) a,argE S (act∧cb=false) b with
   | some (pa,.c (.o (.val va))),some (pb,.c (.o (.val vb)))=>match pickB cb va vb with
    | .still _ v=>.still (pc∧pa∧pb) v
    | _=>.no
   | some (pa,v),none=>.still (pc∧(act→cb=true)∧((act→cb=true)→pa)) v
   | none,some (pb,v)=>.still (pc∧(act→cb=false)∧((act→cb=false)→pb)) v
   | _,_=>.no
  | _=>.no
 | .bin raw op x y=>match argE S act x,argE S act y with
  | some (p,.c (.o (.val a))),some (q,.c (.o (.val b)))=>owe (p∧q) act (binR raw op a b)
  | _,_=>.no
 | .un op x=>match argE S act x with
  | some (p,.c (.o (.val a)))=>owe p act (unR op a)
  | _=>.no
 | .mm mx x y=>match argE S act x,argE S act y with
  | some (p,.c (.o (.val a))),some (q,.c (.o (.val b)))=>owe (p∧q) act (mmR mx a b)
  | _,_=>.no
 | .beq neg x y=>match argE S act x,argE S act y with
  | some (p,.c (.o (.val a))),some (q,.c (.o (.val b)))=>owe (p∧q) act (beqR neg a b)
  | _,_=>.no
 | .conv raw k x=>match argE S act x with
  | some (p,.c (.o (.val (.int _ n))))=>owe p act (fit raw k n)
  | _=>.no
 | .alloc e zero=>.ok True (.c (.o (.hd S.hp.length 0))) (S.hp++[.cells e (zero.map S0.val)])
 | .box e _ x=>match argE S act x with
  | some (p,v)=>match v.cells with
   | some l=>.ok p (.c (.o (.hd S.hp.length 0))) (S.hp++[.cells e l])
   | none=>.no
  | none=>.no
 | .build zero parts=>match fillL S act parts (zero.map S0.val) with
  | some (p,l)=>.still p (.c (.agg l))
  | none=>.no
 | .bslice e sz n zero parts=>match etOf zero with
  | some t=>bif sz == t.sz then
    (match fillL S act (parts.map fun (i,x)=>(i*sz,sz,x)) ((List.replicate n zero).flatten.map S0.val) with
    | some (p,l)=>match vals l with
     | some vs=>match decs t n vs with
      | some m=>.ok p (.c (.o (.own S.hp.length))) (S.hp++[.row t e m])
      | none=>.no
     | none=>.no
    | none=>.no) else .no
  | none=>match fillL S act (parts.map fun (i,x)=>(i*sz,sz,x)) ((List.replicate n zero).flatten.map S0.val) with
   | some (p,l)=>match litBag S.hp e sz n zero l with
    | some (v,hp)=>.ok p v hp
    | none=>.no
   | none=>.no
 | .load n a=>match argE S act a with
  | some (p,.c (.o x))=>owe p act (loadR S.hp n x)
  | _=>.no
 | .store n a x=>match argE S act a,argE S act x with
  | some (p,.c (.o d)),some (q,v)=>match v.cells with
   | some l=>owe (p∧q) act (storeR S.hp n l d)
   | none=>.no
  | _,_=>.no
 | .faddr off x=>match argE S act x with
  | some (p,.c (.o x))=>owe p act (faddrR S.hp off x)
  | _=>.no
 | .field off n x=>match argE S act x with
  | some (p,.c (.agg l))=>fieldR p l off n
  | _=>.no
 | .iaddr sz x i=>match argE S act x,argE S act i with
  | some (p,.c (.o x)),some (q,.c (.o (.val (.int _ i))))=>owe (p∧q) act (iaddrR S.hp sz x i)
  | _,_=>.no
 | .index x i=>match argE S act x,argE S act i with
  | some (p,.c (.o (.val (.string s)))),some (q,.c (.o (.val (.int _ i))))=>.still ((p∧q)∧(act→0≤i∧i<s.size)) (.c (.o (.val (.int .u8 (bAt s i)))))
  | _,_=>.no
 | .sub none x lo hi=>match argE S act x with
  | some (p,.c (.o (.val (.string s))))=>match bound S act 0 lo,bound S act s.size hi with
   | some (q,l),some (r,h)=>.still ((p∧q∧r)∧(act→0≤l∧l≤h∧h≤s.size)) (.c (.o (.val (.string (s.extract l.toNat h.toNat)))))
   | _,_=>.no
  | _=>.no
 | .sub (some sz) x lo hi=>match argE S act x with
  | some (p,.c (.o x))=>match qHe S.hp x with
   | some n=>match bound S act 0 lo,bound S act n hi with
    | some (q,l),some (r,h)=>owe (p∧q∧r) act (subR S.hp sz x (loOf lo l) h)
    | _,_=>.no
   | none=>.no
  | _=>.no
 | .lenS x=>match argE S act x with
  | some (p,.c (.o (.val (.string s))))=>.still p (.c (.o (.val (.int .i64 s.size))))
  | _=>.no
 | .len x=>match argE S act x with
  | some (p,.c (.o x))=>match qHe S.hp x with
   | some n=>.still p (.c (.o (.val (.int .i64 n))))
   | none=>.no
  | _=>.no
 | .append e sz bytes zero s x=>match argE S act s,argE S act x with
  | some (p,.c (.o s)),some (q,.c (.o x))=>owe (p∧q) act (appendR S.hp e sz bytes zero s x)
  | _,_=>.no
 | .extract x i=>match argE S act x with
  | some (p,.tup l)=>match l[i]? with
   | some y=>.still p (.c y)
   | none=>.no
  | _=>.no
 | .call f xs=>match Γ f,argsE S act xs with
  | some C,some (p,l)=>match C l S.hp with
   | some (q,v,none)=>.quiet (p∧(act→q)) v
   | some (q,v,some hp)=>.ok (p∧(act→q)) v hp
   | none=>.no
  | _,_=>.no
 | .callL f xs=>match Γ f,argsE S act xs with
  | some C,some (p,l)=>match C l S.hp with
   | some (q,v,none)=>.quiet (p∧(act→q)) v
   | some (q,v,some hp)=>.ok (p∧(act→q)) v hp
   | none=>.no
  | _,_=>.no
 | .callV _ _=>.no
 | .panic _=>.no
theorem runP_raw (Γ:Nat→Option Con) (S:St) (act:Prop) (raw:Bool) (p:Pr):runP Γ S act (rawCall raw p)=runP Γ S act p:=by
 cases raw
 ·rfl
 ·cases p <;> rfl
def actOf (S:St):Option (Nat × Bool)→Option Prop
 | none=>some True
 | some (s,b)=>match getE S.sl s with
  | some (c,.c (.o (.val (.bool x))))=>some (c∧x=b)
  | _=>none
def putD (nv:Nat) (S:St) (d:Option Nat) (act:Prop) (v:SV) (hp:List SB):St :=
 match d with
 | some d=>⟨putE nv S.sl d (act,v),hp⟩
 | none=>⟨S.sl,hp⟩
def dstOk (nt:Nat):Option Nat→Prop
 | some d=>d<nt
 | none=>True
end Go.Eng
