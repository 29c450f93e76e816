import Derived.RowKit
import Derived.KernelRfl
import Derived.Laws.AppendOwn
import Derived.Orders
import Derived.Lib.Bytealg
import Derived.Test.YtngikdcgcakaaaaDoorProg
abbrev BA:=ByteArray
theorem tV:True:=True.intro
theorem obS.{u,v} {U:Type u} {β:Type v} (a:U) (f:U->Option β):(some a).bind f=f a:=rfl
theorem snJ.{u} {U:Type u} (a b:U):(some a=some b)=(a=b):=Option.some.injEq a b
theorem deF{p:Prop}[i:Decidable p](h:¬p):decide p=false:=decide_eq_false h
theorem deT{p:Prop}[i:Decidable p](h:p):decide p=true:=decide_eq_true h
theorem cnF.{u} {U:Sort u} {a b:U}:(bif false then a else b)=b:=rfl
theorem cnT.{u} {U:Sort u} {a b:U}:(bif true then a else b)=a:=rfl
theorem obA{U:Type _}{β:Type _}{γ:Type _}(x:Option U)(f:U->Option β)(g:β->Option γ):(x.bind f).bind g=x.bind λy=>(f y).bind g:=by cases x <;> rfl
theorem slL{U:Type _}{β:Type _}{γ:Sort _}(f:U->γ)(g:β->γ)(x:U):Sum.elim f g (.inl x)=f x:=rfl
theorem slR{U:Type _}{β:Type _}{γ:Sort _}(f:U->γ)(g:β->γ)(x:β):Sum.elim f g (.inr x)=g x:=rfl
namespace Go.Eng
inductive Arg where
 | t (i:Nat)
 | v (x:Value)
inductive EK where
 | int (k:IntKind)
 | bool
 | str
inductive Ext where
 | aggEq (neg:Bool) (ks:List EK)
 | nilck
 | mkslice (e sz bytes:Nat) (zero:List Value)
 | toStr
 | fro
 | ptrEq (neg:Bool)
 | toUns
 | fromUns (u n:Nat)
 | noEsc
 | sdata
 | ustr (e:Nat)
 | cmpStr
 | idxByte
 | f32bits
 | aidx (sz n:Nat)
 | mkmap
 | mget
 | mput
 | mnil (neg:Bool)
 | snil (neg:Bool)
 | mkif (t:Nat)
 | tab (g:Nat)
 | appStr (e:Nat)
 | mkfn (f k:Nat)
 | asl (n sz:Nat)
 | pidx (n sz:Nat)
 | aix (n:Nat)
 | asub (n:Nat)
 | copyA
 | toBytes (e:Nat)
 | sub3 (sz:Nat)
inductive Pr where
 | bad
 | ext (x:Ext) (args:List Arg)
 | mv (x:Arg)
 | strc (x:Arg)
 | pick (c a b:Arg)
 | bin (raw:Bool) (op:BinOp) (x y:Arg)
 | un (op:UnOp) (x:Arg)
 | beq (neg:Bool) (x y:Arg)
 | mm (mx:Bool) (x y:Arg)
 | conv (raw:Bool) (k:IntKind) (x:Arg)
 | alloc (e:Nat) (zero:List Value)
 | box (e n:Nat) (x:Arg)
 | build (zero:List Value) (parts:List (Nat × Nat × Arg))
 | bslice (e sz len:Nat) (zero:List Value) (parts:List (Nat × Arg))
 | load (n:Option Nat) (a:Arg)
 | store (n:Nat) (a x:Arg)
 | faddr (off:Nat) (x:Arg)
 | field (off:Nat) (n:Option Nat) (x:Arg)
 | iaddr (sz:Nat) (x i:Arg)
 | index (x i:Arg)
 | sub (sz:Option Nat) (x:Arg) (lo hi:Option Arg)
 | lenS (x:Arg)
 | len (x:Arg)
 | append (e sz bytes:Nat) (zero:List Value) (s x:Arg)
 | extract (x:Arg) (i:Nat)
 | call (f:Nat) (args:List Arg)
 | floA (op:BinOp) (k:FloatKind) (x y:Arg)
 | floI (k:FloatKind) (x:Arg)
 | floC (s k:FloatKind) (x:Arg)
 | callL (f:Nat) (args:List Arg)
 | callV (x:Arg) (args:List Arg)
 | callW (fs:List Nat) (x:Arg) (args:List Arg)
 | panic (x:Arg)
structure IOp where
 d:Option Nat
 p:Pr
 g:Option (Nat × Bool)
inductive DT where
 | fin
 | one (o:IOp) (r:DT)
 | wk (o:IOp) (r:DT)
 | alt (o:IOp) (t r:DT)
 | stop
inductive IC where
 | bad
 | skip
 | reg (last:Nat) (draw:Option (List Nat)) (ops:List IOp)
 | regT (last:Nat) (t:DT)
 | regL (last:Nat) (d:List Nat) (k:Nat) (ops:List IOp) (o:IOp)
 | seq (a b:IC)
 | cond (c:Arg) (a b:IC)
 | block (id:Nat) (b:IC)
 | loop (b:IC)
 | exit (id:Nat)
 | ret
def arg:Operand->Option Arg
 | .tmp i=>some (.t i)
 | .const v=>some (.v v)
 | .func f=>some (.v (.func (.func f) #[] #[]))
 | .global g=>some (.v (.pointer (some ⟨g,0,none⟩)))
def args(l:List Operand):Option (List Arg) :=
 match l with
 | []=>some []
 | x::r=>match arg x,args r with
  | some y,some s=>some (y::s)
  | _,_=>none
def oarg:Option Operand->Option (Option Arg)
 | none=>some none
 | some x=>(arg x).map some
def qB4(P:Program)(t:Nat):Option (Option Nat) :=
 match P.info? t,P.underlying t with
 | some i,some (.struct _)=>some (some i.size)
 | some i,some (.array _ _)=>some (some i.size)
 | some _,some _=>some none
 | _,_=>none
def qBj(P:Program)(t:Nat):Option (List Value) :=
 match P.info? t with
 | some i=>match i.zero with
  | some z=>some z.cells.toList
  | none=>none
 | none=>none
def places(P:Program)(fs:List Field)(l:List (Nat × Operand)):Option (List (Nat × Nat × Arg)) :=
 match l with
 | []=>some []
 | (i,x)::r=>match fs[i]?,arg x,places P fs r with
  | some f,some y,some s=>match P.info? f.type with
   | some ti=>some ((f.offset,ti.size,y)::s)
   | none=>none
  | _,_,_=>none
def placesA(sz:Nat)(l:List (Nat × Operand)):Option (List (Nat × Nat × Arg)) :=
 match l with
 | []=>some []
 | (i,x)::r=>match arg x,placesA sz r with
  | some y,some s=>some ((i*sz,sz,y)::s)
  | _,_=>none
def qB3(l:List (Nat × Operand)):Option (List (Nat × Arg)) :=
 match l with
 | []=>some []
 | (i,x)::r=>match arg x,qB3 r with
  | some y,some s=>some ((i,y)::s)
  | _,_=>none
def qDf(P:Program)(t:Nat):Bool :=
 match P.underlying t with
 | some (.slice e)=>match P.underlying e with
  | some (.int .u8)=>true
  | _=>false
 | _=>false
def oneElem(P:Program)(t:Nat):Bool :=
 match P.underlying t with
 | some (.slice e)=>(P.info? e).map (·.size) == some 1
 | _=>false
def byteElem(P:Program)(e:Nat):Bool :=
 match P.info? e with
 | some i=>match i.zero with
  | some (.int .u8 n)=>decide (n=0) && decide (i.size=1) && decide (i.bytes=1)
  | _=>false
 | none=>false
def externExt(n:String):Option Ext :=
 if n == "internal/abi.NoEscape" then some .noEsc else if n == "internal/bytealg.abigen_runtime_cmpstring" then some .cmpStr else if n == "internal/bytealg.IndexByteString" then some .idxByte else if n == "math.Float32bits" then some .f32bits else none
def callPr(P:Program)(c:Call):Option Pr :=
 match c.callee with
 | .value (.func f) =>
  match P.funcs[f]? with
  | some fn=>if fn.body.isSome then(if fn.name != "runtime.NumGoroutine" then(args c.args.toList).map (.call f) else none)
   else if fn.origin == fn.name || fn.origin == "" then(match externExt fn.name,args c.args.toList with
    | some x,some l=>some (.ext x l)
    | _,_=>none) else none
  | none=>none
 | .value (.tmp t)=>(args c.args.toList).map (.callV (.t t))
 | .builtin .unsafeSliceData =>
  match c.args.toList,c.argTypes.toList with
  | [x],[t]=>if qDf P t then(arg x).map λx=>.ext .sdata [x] else none
  | _,_=>none
 | .builtin .unsafeString =>
  match c.args.toList,c.argTypes.toList with
  | [x,y],[t,_]=>match P.underlying t with
   | some (.pointer e)=>if P.cellsOf e == 1 then(match arg x,arg y with
    | some x,some y=>some (.ext (.ustr e) [x,y])
    | _,_=>none) else none
   | _=>none
  | _,_=>none
 | .builtin .len =>
  match c.args.toList,c.argTypes.toList with
  | [x],[t]=>match P.underlying t with
   | some .string=>(arg x).map .lenS
   | some (.slice _)=>(arg x).map .len
   | _=>none
  | _,_=>none
 | .builtin .copy =>
  match c.args.toList,c.argTypes.toList with
  | [x,y],[t,u]=>if qDf P t && oneElem P t && qDf P u then(match arg x,arg y with
   | some x,some y=>some (.ext .copyA [x,y])
   | _,_=>none) else none
  | _,_=>none
 | .builtin .min =>
  match c.args.toList with
  | [x,y]=>match arg x,arg y with
   | some x,some y=>some (.mm false x y)
   | _,_=>none
  | _=>none
 | .builtin .max =>
  match c.args.toList with
  | [x,y]=>match arg x,arg y with
   | some x,some y=>some (.mm true x y)
   | _,_=>none
  | _=>none
 | .builtin .append =>
  match c.args.toList,c.argTypes.toList with
  | [s,x],[t,t'] =>
   if t == t' then
    match P.underlying t with
    | some (.slice e)=>match P.info? e,qBj P e,arg s,arg x with
     | some i,some z,some s,some x=>if z.length == i.size && 0<i.size then some (.append e i.size i.bytes z s x) else none
     | _,_,_,_=>none
    | _=>none
   else(match P.underlying t,P.underlying t',arg s,arg x with
    | some (.slice e),some .string,some s,some x=>if byteElem P e then some (.ext (.appStr e) [s,x]) else none
    | _,_,_,_=>none)
  | _,_=>none
 | _=>none
def ekOf(P:Program)(t:TypeId):Option EK :=
 match P.underlying t with
 | some (.int k)=>some (.int k)
 | some .bool=>some .bool
 | some .string=>some .str
 | _=>none
def flatEq(P:Program):Nat->List Field->Option (List EK)
 | _,[]=>some []
 | i,f::fs=>if f.name ≠ "_" /\ f.offset=i then(match ekOf P f.type,flatEq P (i+1) fs with
  | some k,some r=>some (k::r)
  | _,_=>none) else none
def structEq(P:Program)(t:TypeId)(fs:Array Field):Option (List EK) :=
 if P.stoodInHeld t=false/\P.eqGuardType P.depth t=false then flatEq P 0 fs.toList else none
def qEt(P:Program)(t:TypeId):Bool :=
 match P.underlying t with
 | some (.map k e)=>match P.underlying k,P.underlying e with
  | some .string,some (.int .i64)=>match P.info? e with
   | some i=>match i.zero with
    | some (.int .i64 n)=>decide (n=0)
    | _=>false
   | none=>false
  | _,_=>false
 | _=>false
def loB(raw:Bool)(lo:Option Arg):Option Arg :=
 match raw,lo with
 | true,none=>some (.v (.int .i64 0))
 | _,lo=>lo
def flatZ:List Value->Bool
 | [.int .u8 _]=>true
 | [.int .i64 _]=>true
 | [.int .u32 _]=>true
 | [.int .u64 _]=>true
 | [.int .i32 _]=>true
 | [.bool _]=>true
 | [.string _]=>true
 | [.int .i64 _,.string _,.string _,.bool _,.int .i64 _,.int .i64 _]=>true
 | _=>false
def hasB(P:Program)(f:Nat):Bool:=match P.funcs[f]? with
 | some fn=>fn.body.isSome && fn.name != "runtime.NumGoroutine"
 | none=>false
def bodyL(P:Program):List Nat:=(List.range P.funcs.size).filter (hasB P)
theorem bodyL_spec{P:Program}{f:Nat}(h:(bodyL P).contains f=true):∃fn,P.funcs[f]?=some fn/\fn.body.isSome=true/\fn.name ≠ "runtime.NumGoroutine" := by
 simp only[bodyL,List.contains_iff_mem,List.mem_filter] at h;have h:=h.2;unfold hasB at h;split at h
 ·rename_i fn hf;simp only[Bool.and_eq_true,bne_iff_ne,ne_eq] at h;exact⟨fn,hf,h.1,h.2⟩
 ·cases h
def rawCall(fs:List Nat):Bool->Pr->Pr
 | true,.call f l=>.callL f l
 | true,.callV x l=>.callW fs x l
 | _,p=>p
theorem qD5{fs:List Nat}{raw:Bool}{p q:Pr}(h:rawCall fs raw p=q)(hq:∀f l,q≠.callL f l)(hw:∀fs x l,q≠.callW fs x l):p=q:=by
 cases raw
 ·exact h
 ·cases p <;> first | exact h | exact(hq _ _ h.symm).elim | exact(hw _ _ _ h.symm).elim
def prim(P:Program)(raw:Bool)(o:Op):Option Pr :=
 match o with
 | .move x=>(arg x).map .mv
 | .assign x=>(arg x).map .mv
 | .pick c a b=>match arg c,arg a,arg b with
  | some c,some a,some b=>some (.pick c a b)
  | _,_,_=>none
 | .binOp op t x y _=>match arg x,arg y with
  | some x,some y=>match P.underlying t,op with
   | some .bool,.eql=>some (.beq false x y)
   | some .bool,.neq=>some (.beq true x y)
   | some (.map _ _),.eql=>match y with
    | .v (.map none)=>some (.ext (.mnil false) [x])
    | _=>none
   | some (.map _ _),.neq=>match y with
    | .v (.map none)=>some (.ext (.mnil true) [x])
    | _=>none
   | some (.slice _),.eql=>match y with
    | .v (.slice none 0 0)=>some (.ext (.snil false) [x])
    | _=>none
   | some (.slice _),.neq=>match y with
    | .v (.slice none 0 0)=>some (.ext (.snil true) [x])
    | _=>none
   | some (.pointer e),.eql=>if(P.info? e).isSome then some (.ext (.ptrEq false) [x,y]) else none
   | some (.pointer e),.neq=>if(P.info? e).isSome then some (.ext (.ptrEq true) [x,y]) else none
   | some (.struct fs),.eql=>(structEq P t fs).map λks=>.ext (.aggEq false ks) [x,y]
   | some (.struct fs),.neq=>(structEq P t fs).map λks=>.ext (.aggEq true ks) [x,y]
   | _,_=>some (.bin raw op x y)
  | _,_=>none
 | .unOp op _ x=>(arg x).map (.un op)
 | .convert s d x=>match P.underlying s,P.underlying d,arg x with
  | some (.int _),some (.int k),some x=>some (.conv raw k x)
  | some .string,some .string,some x=>some (.strc x)
  | some .string,some (.slice e),some x=>if qDf P d then some (.ext (.toBytes e) [x]) else none
  | some (.slice _),some .string,some x=>if qDf P s then some (.ext .toStr [x]) else none
  | some (.slice _),some (.slice _),some x=>if qDf P s && s == d then some (.ext .fro [x]) else none
  | some (.pointer t),some .unsafePointer,some x=>match P.info? t with
   | some i=>if i.size≠0 then some (.ext .toUns [x]) else none
   | none=>none
  | some .unsafePointer,some (.pointer u),some x=>match P.info? u with
   | some i=>if liesAt P P.depth u (i.size / P.cellsOf u) 0 u 1 then some (.ext (.fromUns u i.size) [x]) else none
   | none=>none
  | _,_,_=>none
 | .nilCheck x=>(arg x).map λx=>.ext .nilck [x]
 | .makeSlice t l c=>match P.underlying t,arg l,arg c with
  | some (.slice e),some l,some c=>match P.info? e,qBj P e with
   | some i,some z=>if z.length == i.size && 0<i.size then some (.ext (.mkslice e i.size i.bytes z) [l,c]) else none
   | _,_=>none
  | _,_,_=>none
 | .alloc e=>(qBj P e).map (.alloc e)
 | .box e x=>match P.info? e,arg x with
  | some i,some x=>some (.box e i.size x)
  | _,_=>none
 | .build t ps=>match P.underlying t,qBj P t with
  | some (.struct fs),some z=>if fs.toList.all (λf=>(P.info? f.type).isSome) then(places P fs.toList ps.toList).map (.build z) else none
  | some (.array _ e),some z=>match P.info? e with
   | some i=>(placesA i.size ps.toList).map (.build z)
   | none=>none
  | _,_=>none
 | .buildSlice t n ps=>match P.underlying t with
  | some (.slice e)=>match P.info? e,qBj P e,qB3 ps.toList with
   | some i,some z,some ps=>if z.length == i.size && 0<n*i.size && n*i.size<=16777216 then some (.bslice e i.size n z ps)
    else if z.length == i.size && n == 0 && ps.isEmpty && flatZ z then some (.bslice e i.size 0 z []) else none
   | _,_,_=>none
  | _=>none
 | .load t a=>match a with
  | .global g=>match qB4 P t with
   | some none=>some (.ext (.tab g) [])
   | some (some n)=>some (.load (some n) (.v (.pointer (some ⟨g,0,none⟩))))
   | none=>none
  | a=>match qB4 P t,arg a with
   | some n,some a=>some (.load n a)
   | _,_=>none
 | .store t a x=>match P.info? t,arg a,arg x with
  | some i,some a,some x=>some (.store i.size a x)
  | _,_,_=>none
 | .fieldAddr t x f=>match P.underlying t,arg x with
  | some (.struct fs),some x=>match fs[f]? with
   | some fd=>match P.info? fd.type with
    | some ti=>if ti.size=0 then none else some (.faddr fd.offset x)
    | none=>none
   | none=>none
  | _,_=>none
 | .field t x f=>match P.underlying t,arg x with
  | some (.struct fs),some x=>match fs[f]? with
   | some fd=>(qB4 P fd.type).map λn=>.field fd.offset n x
   | none=>none
  | _,_=>none
 | .indexAddr t x i=>match P.underlying t,arg x,arg i with
  | some (.slice e),some x,some i=>match P.info? e with
   | some ti=>some (.iaddr ti.size x i)
   | none=>none
  | some (.array n e),some x,some (.v (.int .i64 k))=>match P.info? e with
   | some ti=>if ti.size≠0/\0<=k/\k<n then some (.faddr (k.toNat*ti.size) x) else none
   | none=>none
  | some (.array n e),some x,some (.t j)=>match P.info? e with
   | some ti=>some (.ext (.pidx n ti.size) [x,.t j])
   | none=>none
  | _,_,_=>none
 | .index t x i=>match P.underlying t,arg x,arg i with
  | some .string,some x,some i=>some (.index x i)
  | some (.array n e),some x,some i=>match P.info? e,P.underlying e with
   | some ti,some (.array _ _)=>if ti.size≠0 then some (.ext (.aidx ti.size n) [x,i]) else none
   | some ti,some (.int _)=>if ti.size=1 then some (.ext (.aix n) [x,i]) else none
   | _,_=>none
  | _,_,_=>none
 | .slice t x lo hi mx=>match mx with
  | some mx=>(match P.underlying t,arg x,oarg lo,oarg hi,arg mx with
   | some (.slice e),some x,some lo,some (some hi),some mx=>match P.info? e with
    | some ti=>some (.ext (.sub3 ti.size) [x,lo.getD (.v (.int .i64 0)),hi,mx])
    | none=>none
   | _,_,_,_,_=>none)
  | none=>match P.underlying t,arg x,oarg lo,oarg hi with
   | some .string,some x,some lo,some hi=>some (.sub none x lo hi)
   | some (.slice e),some x,some lo,some hi=>match P.info? e with
    | some ti=>some (.sub (some ti.size) x (loB raw lo) hi)
    | none=>none
   | some (.array n e),some x,some none,some none=>match P.info? e with
    | some ti=>some (.ext (.asl n ti.size) [x])
    | none=>none
   | some (.array n e),some x,some lo,some hi=>match P.info? e with
    | some ti=>if ti.size=1 then some (.ext (.asub n) [x,lo.getD (.v (.int .i64 0)),hi.getD (.v (.int .i64 n))]) else none
    | none=>none
   | _,_,_,_=>none
 | .extract x i=>(arg x).map λx=>.extract x i
 | .panic x=>(arg x).map .panic
 | .makeInterface t x=>match P.underlying t with
  | some (.struct _)=>(arg x).map λx=>.ext (.mkif t) [x]
  | _=>none
 | .makeFunc fn first captured=>match fn,args (first.toList++captured.toList) with
  | .func f,some l=>some (.ext (.mkfn f first.size) l)
  | _,_=>none
 | .makeMap t r=>match r with
  | none=>if qEt P t then some (.ext .mkmap []) else none
  | some _=>none
 | .lookup t x i ok=>match ok,arg x,arg i with
  | false,some x,some i=>if qEt P t then some (.ext .mget [x,i]) else none
  | _,_,_=>none
 | .mapUpdate t m k v=>match arg m,arg k,arg v with
  | some m,some k,some v=>if qEt P t then some (.ext .mput [m,k,v]) else none
  | _,_,_=>none
 | .call c=>(callPr P c).map (rawCall (bodyL P) raw)
 | _=>none
def arithB:BinOp->Bool
 | .add=>true
 | .sub=>true
 | .mul=>true
 | .quo=>true
 | _=>false
def floP(P:Program)(o:Op):Option Pr :=
 match o with
 | .binOp op t x y _=>match arg x,arg y,P.underlying t with
  | some x,some y,some (.float k)=>bif arithB op then some (.floA op k x y) else none
  | _,_,_=>none
 | .convert src dst x=>match arg x,P.underlying src,P.underlying dst with
  | some x,some (.int _),some (.float k)=>some (.floI k x)
  | some x,some (.float s),some (.float k)=>some (.floC s k x)
  | _,_,_=>none
 | _=>none
def qE2(P:Program)(raw:Bool)(o:Op):Pr :=
 match floP P o with
 | some p=>p
 | none=>match prim P raw o with
  | some p=>p
  | none=>.bad
def oper(P:Program)(raws:List Nat)(ops:Array Oper)(o:Oper):Option IOp :=
 match qE2 P (match o.dst with | some d=>raws.contains d | none=>false) o.op,o.guard with
 | p,none=>some ⟨o.dst,p,none⟩
 | p,some (j,b)=>match ops[j]? with
  | some q=>match q.dst with
   | some s=>some ⟨o.dst,p,some (s,b)⟩
   | none=>none
  | none=>none
def opers(P:Program)(raws:List Nat)(ops:Array Oper):List Oper->Option (List IOp)
 | []=>some []
 | o::r=>match oper P raws ops o,opers P raws ops r with
  | some x,some s=>some (x::s)
  | _,_=>none
def lastDst:List IOp->Nat
 | []=>0
 | [o]=>o.d.getD 0
 | _::r=>lastDst r
def Ext.static:Ext->Bool
 | .nilck | .aggEq .. | .mnil _ | .snil _ | .mkif _ | .mget | .ptrEq _ | .toUns | .fromUns .. | .noEsc | .sdata | .cmpStr | .idxByte | .f32bits | .aidx .. | .pidx .. | .aix _ | .asub _=>true
 | _=>false
def qAp:Pr->Bool
 | .bad=>false
 | .floA .. | .floI .. | .floC ..=>false
 | .ext x _=>x.static
 | .alloc .. | .box .. | .bslice .. | .store .. | .append .. | .call .. | .callL .. | .callV .. | .callW .. | .panic .. | .sub (some _) ..=>false
 | _=>true
def loadB:Pr->Bool
 | .load ..=>true
 | .ext .mget _=>true
 | _=>false
def brkB:Pr->Bool
 | .bad=>true
 | .bslice _ _ _ z _=>!flatZ z
 | .floA .. | .floI .. | .floC ..=>true
 | .ext x _=>!x.static
 | .store .. | .append .. | .callL .. | .callV .. | .panic ..=>true
 | _=>false
def subB:Pr->Bool
 | .sub (some _) _ _ _=>true
 | _=>false
def cutB:Pr->Bool
 | .append ..=>false
 | .bslice ..=>false
 | p=>brkB p
def anc(ops:Array Oper):Nat->Nat->Nat->Bool
 | 0,_,_=>false
 | f+1,b,i=>match ops[b]? with
  | some o=>o.after.toList.any λe=>Region.binds .any e && (e.on == i || anc ops f e.on i)
  | none=>false
def drawAt(ops:Array Oper)(is:List IOp)(L:Array Bool)(k:Nat):Bool :=
 match is[k]? with
 | some o =>
  if qAp o.p || subB o.p then
   (Region.ready .any ops L).contains k && Region.free .any ops L k &&
    (!loadB o.p || is.zipIdx.all λ(b,j)=>!brkB b.p || anc ops ops.size j k)
  else Region.ready .any ops L == [k] && (brkB o.p || is.zipIdx.all λ(b,j)=>!subB b.p || !L.getD j false)
 | none=>false
def freshB(is:List IOp)(o:IOp):Bool :=
 match o.p with
 | .load _ (.t a)=>is.any λx=>x.d == some a && (match x.p with
  | .iaddr _ (.t b) _=>is.any λy=>y.d == some b && (match y.p with
   | .bslice ..=>true
   | _=>false)
  | _=>false)
 | _=>false
def ordD(ops:Array Oper)(is:List IOp):Nat->Array Bool->Option (List Nat)
 | 0,_=>if is.any (freshB is) then none else some []
 | f+1,L=>match (Region.ready .any ops L).find? (λk=>match is[k]? with
   | some o=>qAp o.p && drawAt ops is L k
   | none=>false) with
  | some k=>(ordD ops is f (L.setIfInBounds k true)).map (k :: ·)
  | none=>match (Region.ready .any ops L).find? (λk=>match is[k]? with
   | some o=>subB o.p && drawAt ops is L k
   | none=>false) with
  | some k=>(ordD ops is f (L.setIfInBounds k true)).map (k :: ·)
  | none=>match Region.ready .any ops L with
   | [k]=>(ordD ops is f (L.setIfInBounds k true)).map (k :: ·)
   | _=>none
def qD6(ops:Array Oper)(is:List IOp):Array Bool->List Nat->Bool
 | L,[]=>(List.range ops.size).all λj=>L.getD j false
 | L,k::d=>decide (k<ops.size) && drawAt ops is L k && qD6 ops is (L.setIfInBounds k true) d
def drawOK(ops:Array Oper)(is:List IOp)(d:List Nat):Bool:=Region.noSelect ops && qD6 ops is (Array.replicate ops.size false) d
def pickO(is:List IOp):List Nat->Option (List IOp)
 | []=>some []
 | k::d=>match is[k]?,pickO is d with
  | some o,some r=>some (o::r)
  | _,_=>none
def drawn(P:Program)(ops:Array Oper)(is:List IOp):Option (List Nat × List IOp) :=
 match ordD ops is ops.size (Array.replicate ops.size false) with
 | some d=>match pickO is d with
  | some l=>if P.follows .mixedOrders && drawOK ops is d then some (d,l) else none
  | none=>none
 | none=>none
inductive KT where
 | fin
 | one (k:Nat) (r:KT)
 | wk (k:Nat) (r:KT)
 | alt (k:Nat) (t r:KT)
 | stop
def KT.ks:KT->List Nat
 | .alt k _ r=>k::r.ks
 | _=>[]
def callB:Pr->Bool
 | .call ..=>true
 | .callL ..=>true
 | .callV ..=>true
 | .callW ..=>true
 | _=>false
def quB:Pr->Bool
 | .call ..=>true
 | .callW ..=>true
 | _=>false
def loadP:Pr->Bool
 | .load ..=>true
 | _=>false
def altOK(ops:Array Oper)(is:List IOp)(L:Array Bool)(k:Nat):Bool :=
 match is[k]? with
 | some o=>!callB o.p && (o.g.isNone || loadP o.p) && (Region.ready .any ops L).contains k && !subB o.p && (brkB o.p || is.zipIdx.all λ(b,j)=>!subB b.p || !L.getD j false)
 | none=>false
def drawWk(ops:Array Oper)(is:List IOp)(L:Array Bool)(k:Nat):Bool :=
 match is[k]? with
 | some o=>loadP o.p && (Region.ready .any ops L).contains k && Region.free .any ops L k && is.zipIdx.all λ(b,j)=>!cutB b.p || anc ops ops.size j k
 | none=>false
def drawT(ops:Array Oper)(is:List IOp):KT->Bool->Array Bool->Bool
 | .fin,m,L=>!m && (List.range ops.size).all λj=>L.getD j false
 | .one k r,m,L=>!m && decide (k<ops.size) && drawAt ops is L k && drawT ops is r false (L.setIfInBounds k true)
 | .wk k r,m,L=>!m && decide (k<ops.size) && drawWk ops is L k && drawT ops is r false (L.setIfInBounds k true)
 | .alt k t r,m,L=>(m || (Region.ready .any ops L).all λj=>(k::r.ks).contains j) && decide (k<ops.size) && altOK ops is L k && drawT ops is t false (L.setIfInBounds k true) && drawT ops is r true L
 | .stop,m,_=>m
def ordT(ops:Array Oper)(is:List IOp):Nat->Array Bool->Option KT
 | 0,_=>some .fin
 | f+1,L=>match (Region.ready .any ops L).find? (λk=>match is[k]? with
   | some o=>qAp o.p && !freshB is o && drawAt ops is L k
   | none=>false) with
  | some k=>(ordT ops is f (L.setIfInBounds k true)).map (.one k)
  | none=>match (Region.ready .any ops L).find? (λk=>!((is[k]?).any (freshB is)) && drawWk ops is L k) with
  | some k=>(ordT ops is f (L.setIfInBounds k true)).map (.wk k)
  | none=>match (Region.ready .any ops L).find? (λk=>match is[k]? with
   | some o=>subB o.p && drawAt ops is L k
   | none=>false) with
  | some k=>(ordT ops is f (L.setIfInBounds k true)).map (.one k)
  | none=>match Region.ready .any ops L with
   | []=>some .fin
   | [k]=>if drawAt ops is L k && !((is[k]?).any (freshB is)) then(ordT ops is f (L.setIfInBounds k true)).map (.one k) else(ordT ops is f (L.setIfInBounds k true)).map λt=>.alt k t .stop
   | l=>if 3<l.length || !(l.all λk=>altOK ops is L k) then none else l.foldr (λk acc=>match ordT ops is f (L.setIfInBounds k true),acc with
    | some t,some r=>some (.alt k t r)
    | _,_=>none) (some .stop)
def pickT(is:List IOp):KT->Option DT
 | .fin=>some .fin
 | .one k r=>match is[k]?,pickT is r with
  | some o,some r=>some (.one o r)
  | _,_=>none
 | .wk k r=>match is[k]?,pickT is r with
  | some o,some r=>some (.wk o r)
  | _,_=>none
 | .alt k t r=>match is[k]?,pickT is t,pickT is r with
  | some o,some t,some r=>some (.alt o t r)
  | _,_,_=>none
 | .stop=>some .stop
def drawnT(P:Program)(ops:Array Oper)(is:List IOp):Option DT :=
 match ordT ops is ops.size (Array.replicate ops.size false) with
 | some t=>match pickT is t with
  | some l=>if P.follows .mixedOrders && (Region.noSelect ops && drawT ops is t false (Array.replicate ops.size false)) then some l else none
  | none=>none
 | none=>none
def lastV:List Nat->List IOp->Option (List Nat × Nat × List IOp × IOp)
 | k::d,o::l=>match d with
  | []=>match l,o.p,o.g with
   | [],.callV _ _,none=>some ([],k,[],o)
   | _,_,_=>none
  | _::_=>match lastV d l with
   | some x=>some (k::x.1,x.2.1,o::x.2.2.1,x.2.2.2)
   | none=>none
 | _,_=>none
theorem lastV_spec:∀ {d:List Nat} {l:List IOp} {x:List Nat × Nat × List IOp × IOp},lastV d l=some x->d=x.1++[x.2.1]/\l=x.2.2.1++[x.2.2.2]/\x.2.2.2.g=none/\∃y ys,x.2.2.2.p=.callV y ys
 | k::d,o::l,x,h=>by
  unfold lastV at h;split at h
  ·split at h
   ·rename_i y ys hp hg;cases h;exact⟨rfl,rfl,hg,_,_,hp⟩
   ·cases h
  ·split at h
   ·rename_i d' y hx;obtain⟨h1,h2,h3,h4⟩:=lastV_spec hx;cases h;exact⟨by rw[h1];rfl,by rw[h2];rfl,h3,h4⟩
   ·cases h
 | [],_,x,h=>by simp[lastV] at h
 | _::_,[],x,h=>by simp[lastV] at h
theorem pickO_app{is:List IOp}:∀ {d d2:List Nat} {l l2:List IOp},d.length=l.length->pickO is (d++d2)=some (l++l2)->pickO is d=some l/\pickO is d2=some l2
 | [],d2,[],l2,_,h=>⟨rfl,h⟩
 | k::d,d2,o::l,l2,hl,h=>by
  simp only[List.cons_append,pickO] at h;split at h
  ·rename_i o' r h1 h2;simp only[snJ,List.cons.injEq] at h;obtain⟨rfl,rfl⟩:=h;obtain⟨h3,h4⟩:=pickO_app (by simpa using hl) h2;exact⟨by simp only[pickO,h1,h3],h4⟩
  ·cases h
 | [],_,_::_,_,hl,_=>by simp at hl
 | _::_,_,[],_,hl,_=>by simp at hl
theorem pickO_len{is:List IOp}:∀ {d:List Nat} {l:List IOp},pickO is d=some l->d.length=l.length
 | [],l,h=>by
  simp only[pickO,snJ] at h;subst h;rfl
 | k::d,l,h=>by
  simp only[pickO] at h;split at h
  ·rename_i o' r h1 h2;simp only[snJ] at h;subst h;simp[pickO_len h2]
  ·cases h
def comp(P:Program)(raws:List Nat):Code->Option IC
 | .skip=>some .skip
 | .label _=>some .skip
 | .region _ ops draw=>match opers P raws ops ops.toList with
  | some is=>if draw then(match drawn P ops is with
   | some dl=>match lastV dl.1 dl.2 with
    | some x=>some (.regL (lastDst is) x.1 x.2.1 x.2.2.1 x.2.2.2)
    | none=>some (.reg (lastDst is) (some dl.1) dl.2)
   | none=>match drawnT P ops is with
    | some t=>some (.regT (lastDst is) t)
    | none=>some .bad) else some (.reg (lastDst is) none is)
  | none=>some .bad
 | .seq a b=>match comp P raws a,comp P raws b with
  | some x,some y=>some (.seq x y)
  | _,_=>none
 | .cond c a b=>match arg c,comp P raws a,comp P raws b with
  | some c,some x,some y=>some (.cond c x y)
  | _,_,_=>some .bad
 | .block id b=>(comp P raws b).map (.block id)
 | .loop b=>(comp P raws b).map .loop
 | .exit id=>some (.exit id)
 | .ret=>some .ret
 | _=>some .bad
inductive RV where
 | tmp (t:Nat)
 | cell (a:Nat) (n:Option Nat)
def rvs(P:Program):List ResultVar->Option (List RV)
 | []=>some []
 | .tmp t::r=>match rvs P r with
  | some s=>some (.tmp t::s)
  | none=>none
 | .cell a t::r=>match qB4 P t,rvs P r with
  | some n,some s=>some (.cell a n::s)
  | _,_=>none
structure Node where
 kind:Int
 key:BA
 text:BA
 whole:Bool
 int:Int
 kids:Int
inductive QK where
 | str | node
 deriving DecidableEq
@[reducible] def QK.T:QK->Type
 | .str=>BA
 | .node=>Node
inductive NK where
 | int (k:IntKind)
 | bool
 | str
 | map
 | rw (q:QK)
 deriving DecidableEq
abbrev MapC:=Option (List (BA × Int))
@[reducible] def NK.T:NK->Type
 | .int _=>Int
 | .bool=>Bool
 | .str=>BA
 | .map=>MapC
 | .rw q=>List q.T
@[reducible] def NT:List NK->Type
 | []=>Unit
 | k::r=>k.T × NT r
def NK.dft:(k:NK)->k.T
 | .int _=>(0:Int)
 | .bool=>false
 | .str=>ByteArray.empty
 | .map=>(none:MapC)
 | .rw q=>([]:List q.T)
def NT.dft:(ks:List NK)->NT ks
 | []=>()
 | k::r=>(k.dft,NT.dft r)
def mfind:List (BA × Int)->BA->Option Int
 | [],_=>none
 | x::r,s=>bif decide (s=x.1) then some x.2 else mfind r s
def mset:List (BA × Int)->BA->Int->List (BA × Int)
 | [],s,v=>[(s,v)]
 | x::r,s,v=>bif decide (s=x.1) then(s,v)::r else x::mset r s v
def mget(m:MapC)(s:BA):Int :=
 match m with
 | some l=>(mfind l s).getD 0
 | none=>0
def mput(m:MapC)(s:BA)(v:Int):MapC:=m.map λl=>mset l s v
inductive ET where
 | u8 | i64 | u32 | u64 | i32 | bl | str | node | tm | tag
 | mp
 | bag (ks:List NK)
 deriving DecidableEq
structure Tm where
 has:Bool
 at_:Int
structure Tag where
 text:BA
 num:Int
@[reducible] def ET.T:ET->Type
 | .u8=>Int | .i64=>Int | .u32=>Int | .u64=>Int | .i32=>Int
 | .bl=>Bool
 | .str=>BA
 | .node=>Node
 | .tm=>Tm
 | .tag=>Tag
 | .mp=>MapC
 | .bag ks=>NT ks
def ET.enc:(t:ET)->t.T->List Value
 | .u8,x=>[.int .u8 x]
 | .i64,x=>[.int .i64 x]
 | .u32,x=>[.int .u32 x]
 | .u64,x=>[.int .u64 x]
 | .i32,x=>[.int .i32 x]
 | .bl,x=>[.bool x]
 | .str,x=>[.string x]
 | .node,(x:Node)=>[.int .i64 x.kind,.string x.key,.string x.text,.bool x.whole,.int .i64 x.int,.int .i64 x.kids]
 | .tm,(x:Tm)=>[.bool x.has,.int .i64 x.at_]
 | .tag,(x:Tag)=>[.string x.text,.int .i64 x.num]
 | .mp,_=>[.nilIface]
 | .bag ks,_=>List.replicate (ks.length+1) .nilIface
def ET.sz:ET->Nat
 | .node=>6
 | .tm=>2
 | .tag=>2
 | .bag ks=>ks.length+1
 | _=>1
def ET.dec:(t:ET)->List Value->Option t.T
 | .u8,[.int .u8 x]=>some x
 | .i64,[.int .i64 x]=>some x
 | .u32,[.int .u32 x]=>some x
 | .u64,[.int .u64 x]=>some x
 | .i32,[.int .i32 x]=>some x
 | .bl,[.bool x]=>some x
 | .str,[.string x]=>some x
 | .node,[.int .i64 a,.string b,.string c,.bool d,.int .i64 e,.int .i64 f]=>some (⟨a,b,c,d,e,f⟩:Node)
 | .tm,[.bool a,.int .i64 b]=>some (⟨a,b⟩:Tm)
 | .tag,[.string a,.int .i64 b]=>some (⟨a,b⟩:Tag)
 | _,_=>none
def ET.dft:(t:ET)->t.T
 | .u8=>(0:Int) | .i64=>(0:Int) | .u32=>(0:Int) | .u64=>(0:Int) | .i32=>(0:Int)
 | .bl=>false
 | .str=>ByteArray.empty
 | .node=>(⟨0,.empty,.empty,false,0,0⟩:Node)
 | .tm=>(⟨false,0⟩:Tm)
 | .tag=>(⟨.empty,0⟩:Tag)
 | .mp=>(none:MapC)
 | .bag ks=>NT.dft ks
def QK.et:QK->ET
 | .str=>.str
 | .node=>.node
def QK.l:(q:QK)->List q.T->List (q.et).T
 | .str,l=>l
 | .node,l=>l
theorem ET.enc_dec{t:ET}{l:List Value}{x:t.T}(h:t.dec l=some x):t.enc x=l:=by
 unfold ET.dec at h;split at h <;> first | (cases h;rfl) | (cases h)
theorem ET.enc_len(t:ET)(x:t.T):(t.enc x).length=t.sz:=by
 cases t with
 | bag ks=>exact List.length_replicate
 | _=>all_goals rfl
theorem ET.enc_one(t:ET)(x:t.T):∀v∈t.enc x,v.oneCell'=true:=by
 cases t with
 | bag ks =>
  intro v hv;obtain⟨_,rfl⟩:=List.mem_replicate.1 hv;rfl
 | mp =>
  intro v hv;obtain rfl:=List.mem_singleton.1 hv;rfl
 | _=>all_goals simp[ET.enc,Value.oneCell']
theorem ET.sz_pos(t:ET):0<t.sz:=by
 cases t with
 | bag ks=>exact Nat.succ_pos _
 | _=>all_goals decide
def TabAt(X:Nat->Prop)(w:World)(t:ET)(v:Value)(l:List t.T):Prop :=
 ∃a cap,v=.slice a l.length cap/\l.length<=cap/\∀j u,(l.flatMap t.enc)[j]?=some u->∃ad,a=some ad/\w.cell? (ad.add j)=some u/\ad.block<w.heap.size/\¬X ad.block
abbrev TabE:Type:=(t:ET) × List t.T
def algN:List BA:=[⟨#[]⟩,⟨#[72,83,50,53,54]⟩,⟨#[72,83,51,56,52]⟩,⟨#[72,83,53,49,50]⟩,⟨#[82,83,50,53,54]⟩,⟨#[82,83,51,56,52]⟩,⟨#[82,83,53,49,50]⟩,⟨#[80,83,50,53,54]⟩,⟨#[80,83,51,56,52]⟩,⟨#[80,83,53,49,50]⟩,⟨#[69,83,50,53,54]⟩,⟨#[69,83,51,56,52]⟩,⟨#[69,100,68,83,65]⟩]
def algAt(k:Nat):BA:=algN.getD k ⟨#[]⟩
def algS(a:Int):BA:=if a<0\/13<=a then⟨#[]⟩ else algAt a.toNat
open Go.Proofs
set_option linter.unusedVariables false
def tabOK(X:Nat->Prop)(w:World):Prop :=
 (0=0) /\ (∀k,k<13->w.cell? ⟨0,k,none⟩=some (.string (algAt k))) /\ ¬X 0
theorem cell_heap{w:World}{a:Addr}{v:Value}(h:w.cell? a=some v):a.block<w.heap.size:=by
 rcases Nat.lt_or_ge a.block w.heap.size with h' | h'
 ·exact h'
 ·unfold World.cell? at h;simp[Array.getElem?_eq_none h'] at h
theorem cell_same{w w':World}{a:Addr}(h:w'.heap[a.block]?=w.heap[a.block]?):w'.cell? a=w.cell? a:=by
 unfold World.cell?;rw[h]
theorem tab_stable{X X':Nat->Prop}{w0 w:World}(h:tabOK X w0)(hb:∀k,k<w0.heap.size->¬X k->w.heap[k]?=w0.heap[k]?)(hX:∀k,k<w0.heap.size->X' k->X k):tabOK X' w:=by
 obtain⟨_,h0,h5⟩:=h;have l3:=cell_heap (h0 0 (by omega));refine⟨rfl,λk hk=>?_,λh=>h5 (hX _ l3 h)⟩;exact(cell_same (a:=⟨0,k,none⟩) (hb _ l3 h5)).trans (h0 k hk)
def tabV(_:Nat):Option TabE:=none
theorem tabV_ok{X:Nat->Prop}{w:World}(_:tabOK X w){g:Nat}{t:ET}{l:List t.T}(hg:tabV g=some ⟨t,l⟩):∃v,w.cell? ⟨g,0,none⟩=some v/\g<w.heap.size/\¬X g/\TabAt X w t v l:=by cases hg
def tabA(_:Nat):Option (IntKind × List Int):=none
theorem tabA_ok{X:Nat->Prop}{w:World}(_:tabOK X w){g:Nat}{k:IntKind}{l:List Int}(hg:tabA g=some (k,l)):g<w.heap.size/\¬X g/\∀j,j<l.length->w.cell? ⟨g,j,none⟩=some (.int k (l.getD j 0)):=by cases hg
inductive S0 where
 | val (v:Value)
 | hd (h off:Nat)
 | own (h:Nat)
 | el (h i sz off:Nat)
 | opt (c:Bool) (h off:Nat)
 | bsl (k:Nat)
 | prj (k i j:Nat)
 | pel (k i sz off:Nat)
 | ar (h off n i:Nat)
 | asl (h off n lo len:Nat)
inductive SC where
 | o (x:S0)
 | agg (l:List S0)
inductive SV where
 | c (x:SC)
 | tup (l:List SC)
inductive SB where
 | cells (e:Nat) (l:List S0)
 | row (t:ET) (e:Nat) (l:List t.T)
 | view (t:ET) (l:List t.T)
 | part (h lo n sz:Nat)
 | map (m:MapC)
 | bag (ks:List NK) (e:Nat) (l:List (NT ks))
 | slc (h n sz:Nat)
 | clo (f k:Nat) (l:List S0)
 | vrow (t:ET) (l:List t.T)
 | srow (e sz n:Nat) (l:List S0)
 | gro (t:ET) (e:Nat) (l:List t.T) (n g:Nat)
 | dead
structure St where
 sl:List (Nat × Prop × SV)
 hp:List SB
def ptrAdd:Value->Nat->Value
 | .pointer (some a),n=>.pointer (some (a.add n))
 | v,_=>v
def aslV:Value->Nat->Nat->Nat->Nat->Value
 | .pointer (some a),off,n,lo,len=>.slice (some (a.add (off+bif Nat.beq n lo then 0 else lo))) len (n - lo)
 | v,_,_,_,_=>v
def qBb:Value->Nat->Value
 | .slice (some a) _ _,n=>.pointer (some (a.add n))
 | v,_=>v
def oneV(v:Value):Value:=bif v.oneCell' then v else .nilIface
def baseV:Value->Value
 | .iface _ (.tuple a)=>oneV ((a[0]?).getD .nilIface)
 | _=>.nilIface
def projV:Value->Nat->Nat->Value
 | .iface _ (.tuple a),i,j=>match a[i+1]? with
  | some (.tuple b)=>oneV ((b[j]?).getD .nilIface)
  | _=>.nilIface
 | _,_,_=>.nilIface
theorem oneV_one(v:Value):(oneV v).oneCell'=true:=by
 unfold oneV;cases h:v.oneCell' with
 | true=>exact h
 | false=>exact rfl
theorem oneV_eq{v:Value}(h:v.oneCell'=true):oneV v=v:=by unfold oneV;rw[h];rfl
theorem baseV_one(v:Value):(baseV v).oneCell'=true:=by
 unfold baseV;split
 ·exact oneV_one _
 ·exact rfl
theorem projV_one(v:Value)(i j:Nat):(projV v i j).oneCell'=true:=by
 unfold projV;split
 ·split
  ·exact oneV_one _
  ·exact rfl
 ·exact rfl
def bagV(u:Value)(rs:List (List Value)):Value:=.iface 0 (.tuple (u::rs.map λr=>Value.tuple r.toArray).toArray)
theorem qAq{u:Value}(rs:List (List Value))(h:u.oneCell'=true):baseV (bagV u rs)=u:=by
 simp only[baseV,bagV,List.getElem?_toArray,List.getElem?_cons_zero,Option.getD_some,oneV_eq h]
theorem projV_bag(u:Value){rs:List (List Value)}{i j:Nat}{r:List Value}{v:Value}(h:rs[i]?=some r)(hj:r[j]?=some v)(h1:v.oneCell'=true):projV (bagV u rs) i j=v:=by
 simp only[projV,bagV,List.getElem?_toArray,List.getElem?_cons_succ,List.getElem?_map,h,Option.map_some,hj,Option.getD_some,oneV_eq h1]
def qAh:(ks:List NK)->NT ks->List Value->List Value
 | [],_,_=>[]
 | .int k::r,x,vs=>.int k x.1::qAh r x.2 vs
 | .bool::r,x,vs=>.bool x.1::qAh r x.2 vs
 | .str::r,x,vs=>.string x.1::qAh r x.2 vs
 | .map::r,x,vs=>vs.headD .nilIface::qAh r x.2 vs.tail
 | .rw _::r,x,vs=>vs.headD .nilIface::qAh r x.2 vs.tail
def qBc(k i:Nat):(ks:List NK)->NT ks->Nat->List S0
 | [],_,_=>[]
 | .int q::r,x,j=>.val (.int q x.1)::qBc k i r x.2 j
 | .bool::r,x,j=>.val (.bool x.1)::qBc k i r x.2 j
 | .str::r,x,j=>.val (.string x.1)::qBc k i r x.2 j
 | .map::r,x,j=>.prj k i j::qBc k i r x.2 (j+1)
 | .rw _::r,x,j=>.prj k i j::qBc k i r x.2 (j+1)
def qAs(ks:List NK):List (NT ks)->List (List Value)->List Value
 | x::l,r::rs=>qAh ks x r++qAs ks l rs
 | _,_=>[]
def S0.den(Z:Nat->Value):S0->Value
 | .val v=>v
 | .hd h n=>ptrAdd (Z h) n
 | .own h=>Z h
 | .el h i sz off=>qBb (Z h) (i*sz+off)
 | .opt c h n=>bif c then ptrAdd (Z h) n else .pointer none
 | .bsl k=>baseV (Z k)
 | .prj k i j=>projV (Z k) i j
 | .pel k i sz off=>qBb (baseV (Z k)) (i*sz+off)
 | .ar h off _ i=>ptrAdd (Z h) (off+i)
 | .asl h off n lo len=>aslV (Z h) off n lo len
def SC.den(Z:Nat->Value):SC->Value
 | .o x=>x.den Z
 | .agg l=>.agg (l.map (S0.den Z)).toArray
def SV.den(Z:Nat->Value):SV->Value
 | .c x=>x.den Z
 | .tup l=>.tuple (l.map (SC.den Z)).toArray
def S0.lt(n:Nat):S0->Prop
 | .val _=>True
 | .hd h _=>h<n
 | .own h=>h<n
 | .el h _ _ _=>h<n
 | .opt _ h _=>h<n
 | .bsl k=>k<n
 | .prj k _ _=>k<n
 | .pel k _ _ _=>k<n
 | .ar h _ _ _=>h<n
 | .asl h _ _ _ _=>h<n
def SC.lt(n:Nat):SC->Prop
 | .o x=>x.lt n
 | .agg l=>∀x∈l,x.lt n
def SV.lt(n:Nat):SV->Prop
 | .c x=>x.lt n
 | .tup l=>∀x∈l,x.lt n
def SB.lt(n:Nat):SB->Prop
 | .cells _ l=>∀x∈l,x.lt n
 | .part h _ _ _=>h<n
 | .slc h _ _=>h<n
 | .clo _ _ l=>∀x∈l,x.lt n
 | .srow _ _ _ l=>∀x∈l,x.lt n
 | .gro _ _ _ _ g=>g<n
 | _=>True
theorem S0.lt_mono{n m:Nat}(h:n<=m){x:S0}(hx:x.lt n):x.lt m:=by
 cases x <;> simp only[S0.lt] at * <;> omega
theorem SC.lt_mono{n m:Nat}(h:n<=m){x:SC}(hx:x.lt n):x.lt m:=by
 cases x with
 | o x=>exact S0.lt_mono h hx
 | agg l=>exact λy hy=>S0.lt_mono h (hx y hy)
theorem SV.lt_mono{n m:Nat}(h:n<=m){x:SV}(hx:x.lt n):x.lt m:=by
 cases x with
 | c x=>exact SC.lt_mono h hx
 | tup l=>exact λy hy=>SC.lt_mono h (hx y hy)
theorem SB.lt_mono{n m:Nat}(h:n<=m){x:SB}(hx:x.lt n):x.lt m:=by
 cases x with
 | cells e l=>exact λy hy=>S0.lt_mono h (hx y hy)
 | part k lo n sz=>exact Nat.lt_of_lt_of_le hx h
 | slc k n sz=>exact Nat.lt_of_lt_of_le hx h
 | clo f k l=>exact λy hy=>S0.lt_mono h (hx y hy)
 | srow e sz n l=>exact λy hy=>S0.lt_mono h (hx y hy)
 | gro t e l n g=>exact Nat.lt_of_lt_of_le hx h
 | _=>trivial
theorem S0.den_congr{Z Z':Nat->Value}{n:Nat}(h:∀i<n,Z' i=Z i){x:S0}(hx:x.lt n):x.den Z'=x.den Z:=by
 cases x <;> simp only[S0.lt,S0.den] at * <;> first | rfl | rw[h _ hx]
theorem SC.den_congr{Z Z':Nat->Value}{n:Nat}(h:∀i<n,Z' i=Z i){x:SC}(hx:x.lt n):x.den Z'=x.den Z:=by
 cases x with
 | o x=>exact S0.den_congr h hx
 | agg l =>
  simp only[SC.den,SC.lt] at *
  congr 2
  exact List.map_congr_left λy hy=>S0.den_congr h (hx y hy)
theorem SV.den_congr{Z Z':Nat->Value}{n:Nat}(h:∀i<n,Z' i=Z i){x:SV}(hx:x.lt n):x.den Z'=x.den Z:=by
 cases x with
 | c x=>exact SC.den_congr h hx
 | tup l =>
  simp only[SV.den,SV.lt] at *
  congr 2
  exact List.map_congr_left λy hy=>SC.den_congr h (hx y hy)
def fp1:Value->Option Nat
 | .pointer (some a)=>some a.block
 | .slice (some a) _ _=>some a.block
 | .map (some b)=>some b
 | _=>none
def fpI:Value->List Nat
 | .tuple b=>b.toList.filterMap fp1
 | v=>(fp1 v).toList
def fp:Value->List Nat
 | .iface _ (.tuple a)=>a.toList.flatMap fpI
 | v=>(fp1 v).toList
theorem fp_bag(u:Value)(rs:List (List Value)):fp (bagV u rs)=fpI u++rs.flatMap λr=>r.filterMap fp1:=by
 simp only[fp,bagV,List.flatMap_cons,List.flatMap_map,fpI]
structure Stays (X:Nat->Prop) (w w':World):Prop where
 os:w'.os=w.os
 output:w'.output=w.output
 size:w.heap.size<=w'.heap.size
 block:∀k,k<w.heap.size->¬X k->w'.heap[k]?=w.heap[k]?
def Excl(X:Nat->Prop)(w0:World)(b:Nat):Prop:=w0.heap.size<=b\/X b
def Froz(w:World)(b:Nat):Prop:=∃C e k,w.heap[b]?=some (.cells C e (k,k+1))
def Fixed(X:Nat->Prop)(w0 w:World)(b:Nat):Prop:=(b<w0.heap.size/\¬X b)\/Froz w b
def qBw(X:Nat->Prop)(w0 w:World)(t:ET)(v:Value)(l:List t.T):Prop :=
 ∃a cap,v=.slice a l.length cap/\l.length<=cap/\∀j u,(l.flatMap t.enc)[j]?=some u->∃ad,a=some ad/\w.cell? (ad.add j)=some u/\Fixed X w0 w ad.block
def PartSl(u v:Value)(lo n sz:Nat):Prop:=∃ad len cap ad',u=.slice ad len cap/\v=.slice ad' n (cap - lo)/\lo+n<=cap/\(lo<cap->∃x,ad=some x/\ad'=some (x.add (lo*sz)))/\(lo=0->ad'=ad)
def qB5(u v:Value)(lo n sz:Nat):Prop:=(0<sz->PartSl u v lo n sz)/\(sz=0->v=projV u lo n)
theorem qB5.of{u v:Value}{lo n sz:Nat}(hz:0<sz)(h:PartSl u v lo n sz):qB5 u v lo n sz:=⟨λ_=>h,λh0=>by omega⟩
def RowAt(X:Nat->Prop)(w0 w:World)(q:QK)(v:Value)(l:List q.T):Prop:=(∃e,w.ownsRow 0 e q.et.sz v (q.l l).length ((q.l l).flatMap q.et.enc))/\∀b,v.ownBlock=some b->Excl X w0 b
def entsOK(es:Array MapEntry)(m:List (BA × Int)):Prop:=(es.toList.map λe=>(e.key,e.val))=m.map λx=>(Value.string x.1,Value.int .i64 x.2)
def qEr(X:Nat->Prop)(w0 w:World)(v:Value):MapC->Prop
 | none=>v=.map none
 | some m=>∃b es c,v=.map (some b)/\w.heap[b]?=some (.map es c)/\entsOK es m/\Excl X w0 b
def qAt(X:Nat->Prop)(w0 w:World):(ks:List NK)->NT ks->List Value->Prop
 | [],_,vs=>vs=[]
 | .int _::r,x,vs=>qAt X w0 w r x.2 vs
 | .bool::r,x,vs=>qAt X w0 w r x.2 vs
 | .str::r,x,vs=>qAt X w0 w r x.2 vs
 | .map::r,x,vs=>∃v vs',vs=v::vs'/\qEr X w0 w v x.1/\qAt X w0 w r x.2 vs'
 | .rw q::r,x,vs=>∃v vs',vs=v::vs'/\RowAt X w0 w q v x.1/\qAt X w0 w r x.2 vs'
def qAr(X:Nat->Prop)(w0 w:World)(ks:List NK):List (NT ks)->List (List Value)->Prop
 | [],[]=>True
 | x::l,r::rs=>qAt X w0 w ks x r/\qAr X w0 w ks l rs
 | _,_=>False
def qBo(rs:List (List Value))(i j:Nat):Option Value:=(rs[i]?).bind λr=>r[j]?
structure BagOK (X:Nat->Prop) (w0 w:World) (ks:List NK) (e:Nat) (l:List (NT ks)) (u:Value) (rs:List (List Value)):Prop where
 row:w.ownsRow 0 e ks.length u l.length (qAs ks l rs)
 excl:∀b,u.ownBlock=some b->Excl X w0 b
 refs:qAr X w0 w ks l rs
 uniq:∀i j i' j' v v' b,qBo rs i j=some v->qBo rs i' j'=some v'->fp1 v=some b->fp1 v'=some b->i=i'/\j=j'
 alone:∀i j v b,qBo rs i j=some v->fp1 v=some b->u.ownBlock≠some b
 pos:0<ks.length
def VrowAt(X:Nat->Prop)(w0 w:World)(t:ET)(v:Value)(l:List t.T):Prop :=
 (∃cap,v=.slice none 0 cap/\l=[])\/∃b cap,v=.slice (some ⟨b,0,none⟩) l.length cap/\l.length<=cap/\(∀j u,(l.flatMap t.enc)[j]?=some u->w.cell? ⟨b,j,none⟩=some u)/\b<w.heap.size/\Excl X w0 b/\¬Froz w b
def SB.sat(X:Nat->Prop)(w0 w:World)(Z:Nat->Value)(v:Value):SB->Prop
 | .cells e l=>∃b,v=.pointer (some ⟨b,0,none⟩)/\w.heap[b]?=some (.cells (l.map (S0.den Z)).toArray e (0,0))/\Excl X w0 b
 | .row t e l=>w.ownsRow 0 e t.sz v l.length (l.flatMap t.enc)/\∀b,v.ownBlock=some b->Excl X w0 b
 | .view t l=>qBw X w0 w t v l
 | .part h lo n sz=>qB5 (Z h) v lo n sz
 | .map m=>qEr X w0 w v m
 | .bag ks e l=>∃u rs,v=bagV u rs/\BagOK X w0 w ks e l u rs
 | .slc h n _=>∃b,Z h=.pointer (some ⟨b,0,none⟩)/\v=.slice (some ⟨b,0,none⟩) n n
 | .clo f k l=>v=.func (.func f) ((l.take k).map (S0.den Z)).toArray ((l.drop k).map (S0.den Z)).toArray
 | .vrow t l=>VrowAt X w0 w t v l
 | .srow e sz n l=>l.length=n*sz/\0<sz/\w.ownsRow 0 e sz v n (l.map (S0.den Z))/\∀b,v.ownBlock=some b->Excl X w0 b
 | .gro t e l n g=>∃u,v=bagV u [[Z g]]/\w.ownsRow 0 e t.sz u l.length (l.flatMap t.enc)/\(∀b,u.ownBlock=some b->Excl X w0 b)/\n<=l.length/\VrowAt X w0 w t (Z g) (l.take n)
 | .dead=>True
def SB.ex:SB->Bool
 | .cells ..=>true
 | .row ..=>true
 | .map _=>true
 | .bag ..=>true
 | .vrow ..=>true
 | .srow ..=>true
 | .gro ..=>true
 | _=>false
def qBs:Value->Prop
 | .pointer (some _)=>True
 | .slice _ _ _=>True
 | .map _=>True
 | .iface _ _=>True
 | .func _ _ _=>True
 | _=>False
structure HpSat (X:Nat->Prop) (w0 w:World) (Z:Nat->Value) (hp:List SB):Prop where
 ref:∀(h:Nat),h<hp.length->qBs (Z h)
 sat:∀(h:Nat) (sb:SB),hp[h]?=some sb->sb.sat X w0 w Z (Z h)
 lt:∀(h:Nat) (sb:SB),hp[h]?=some sb->sb.lt hp.length
 apart:∀(h h':Nat) (sb sb':SB) (b:Nat),h≠h'->hp[h]?=some sb->hp[h']?=some sb'->sb.ex=true->sb'.ex=true->b∈fp (Z h)->b∈fp (Z h')->False
 tab:tabOK X w0
structure Env where
 P:Program
 nt:Nat
 X:Nat->Prop
 w0:World
 n0:Nat
 Z0:Nat->Value
 df:List Deferred
def getE:List (Nat × Prop × SV)->Nat->Option (Prop × SV)
 | [],_=>none
 | (j,e)::r,i=>bif j == i then some e else getE r i
def putR:List (Nat × Prop × SV)->Nat->Prop × SV->List (Nat × Prop × SV)
 | [],i,e=>[(i,e)]
 | (j,x)::r,i,e=>bif j == i then(i,e)::r else(j,x)::putR r i e
def putE(nv:Nat)(l:List (Nat × Prop × SV))(i:Nat)(e:Prop × SV):List (Nat × Prop × SV) :=
 bif Nat.blt i nv then putR l i e else(i,e)::l
theorem beqF{i j:Nat}(h:¬i=j):(i == j)=false:=by simpa using h
theorem getE_putR(l:List (Nat × Prop × SV))(i j:Nat)(e:Prop × SV):getE (putR l i e) j=if i=j then some e else getE l j:=by
 induction l with
 | nil =>
  simp only[putR,getE];by_cases h:i=j
  ·simp[h]
  ·simp[h,beqF h]
 | cons x r ih =>
  obtain⟨k,y⟩:=x;by_cases hk:k=i
  ·subst hk;simp only[putR,beq_self_eq_true,cnT,getE];by_cases h:k=j
   ·simp[h]
   ·simp[h,beqF h]
  ·have:(k == i)=false:=by simpa using hk
   simp only[putR,this,cnF,getE,ih];by_cases h:k=j
   ·subst h;have:¬i=k:=λh=>hk h.symm
    simp[this]
   ·have:(k == j)=false:=by simpa using h
    simp[this]
theorem getE_putE(nv:Nat)(l:List (Nat × Prop × SV))(i j:Nat)(e:Prop × SV):getE (putE nv l i e) j=if i=j then some e else getE l j:=by
 unfold putE;cases Nat.blt i nv
 ·simp only[cnF,getE];by_cases h:i=j
  ·simp[h]
  ·simp[h,beqF h]
 ·simp only[cnT,getE_putR]
structure Sat (E:Env) (Z:Nat->Value) (S:St) (a:Act) (w:World):Prop where
 nd:a.defers=E.df
 sz:a.tmps.size=E.nt
 sl:∀i c v,getE S.sl i=some (c,v)->(c->a.tmps[i]?=some (v.den Z))/\(¬c->a.tmps[i]?=some undef)/\(c->v.lt S.hp.length)
 hp:HpSat E.X E.w0 w Z S.hp
 fr:Stays E.X E.w0 w
 n0:E.n0<=S.hp.length
 ag:∀i<E.n0,Z i=E.Z0 i
def argE(S:St)(act:Prop):Arg->Option (Prop × SV)
 | .v x=>some (True,.c (.o (.val x)))
 | .t i=>match getE S.sl i with
  | some (c,v)=>some (act->c,v)
  | none=>none
inductive RR where
 | no
 | ok (p:Prop) (v:SV) (hp:List SB)
 | quiet (p:Prop) (v:SV)
 | still (p:Prop) (v:SV)
 | any (p:Prop) (k:FloatKind)
inductive RQ where
 | no
 | still (ps:List Prop) (v:SV)
 | quiet (ps:List Prop) (v:SV)
 | ok (ps:List Prop) (v:SV) (hp:List SB)
def AllP:List Prop->Prop
 | []=>True
 | p::r=>p/\AllP r
def RQ.toR:RQ->RR
 | .no=>.no
 | .still ps v=>.still (AllP ps) v
 | .quiet ps v=>.quiet (AllP ps) v
 | .ok ps v hp=>.ok (AllP ps) v hp
def ret1(p:Prop)(v:Value):RR:=.still p (.c (.o (.val v)))
def qAd(x:Int):Prop := -9223372036854775808<=x/\x<=9223372036854775807
def InI32(x:Int):Prop := -2147483648<=x/\x<=2147483647
def w64(x:Int):Int:=IntKind.i64.wrap x
def w32(x:Int):Int:=IntKind.i32.wrap x
def fit(raw:Bool)(k:IntKind)(x:Int):RR :=
 match k with
 | .i64=>bif raw then ret1 True (.int .i64 (w64 x)) else ret1 (qAd x) (.int .i64 x)
 | .i32=>bif raw then ret1 True (.int .i32 (w32 x)) else ret1 (InI32 x) (.int .i32 x)
 | .u8=>ret1 True (.int .u8 (x % 256))
 | .u32=>ret1 True (.int .u32 (x % 4294967296))
 | .u64=>ret1 True (.int .u64 (x % 18446744073709551616))
 | _=>.no
def quot(raw:Bool)(k:IntKind)(x y:Int):RR :=
 match k with
 | .i64=>bif raw then ret1 (y≠0/\qAd (x.tdiv y)) (.int .i64 (x.tdiv y)) else ret1 (0<=x/\x<=9223372036854775807/\1<=y) (.int .i64 (x / y))
 | .u8=>ret1 (0<=x/\x<=255/\1<=y) (.int .u8 (x / y))
 | .u32=>ret1 (0<=x/\x<=4294967295/\1<=y) (.int .u32 (x / y))
 | .u64=>ret1 (0<=x/\x<=18446744073709551615/\1<=y) (.int .u64 (x / y))
 | _=>.no
def remd(raw:Bool)(k:IntKind)(x y:Int):RR :=
 bif raw then ret1 (y≠0) (.int k (x.tmod y)) else ret1 (0<=x/\1<=y) (.int k (x % y))
def bitAnd(k:IntKind)(x y:Int):Int:=k.wrap (BitVec.ofInt k.bits x &&& BitVec.ofInt k.bits y).toNat
def bitOr(k:IntKind)(x y:Int):Int:=k.wrap (BitVec.ofInt k.bits x ||| BitVec.ofInt k.bits y).toNat
def bitXor(k:IntKind)(x y:Int):Int:=k.wrap (BitVec.ofInt k.bits x ^^^ BitVec.ofInt k.bits y).toNat
def bitNot(k:IntKind)(x y:Int):Int:=k.wrap (BitVec.ofInt k.bits x &&& ~~~ BitVec.ofInt k.bits y).toNat
def sLt(x y:BA):Bool:=Op.bytesLess x.toList y.toList
def binR(raw:Bool)(op:BinOp):Value->Value->RR
 | .int k x,.int k' y =>
  match op with
  | .shl=>match fit raw k (x*2 ^ (min y.toNat k.bits)) with
   | .still p v=>.still (0<=y/\p) v
   | _=>.no
  | .shr=>ret1 (0<=y) (.int k (x / 2 ^ (min y.toNat k.bits)))
  | _ =>
   bif decide (k=k') then
    match op with
    | .add=>fit raw k (x+y)
    | .sub=>fit raw k (x - y)
    | .mul=>fit raw k (x*y)
    | .quo=>quot raw k x y
    | .rem=>remd raw k x y
    | .and=>ret1 True (.int k (bitAnd k x y))
    | .or=>ret1 True (.int k (bitOr k x y))
    | .xor=>ret1 True (.int k (bitXor k x y))
    | .andNot=>ret1 True (.int k (bitNot k x y))
    | .eql=>ret1 True (.bool (decide (x=y)))
    | .neq=>ret1 True (.bool (!decide (x=y)))
    | .lss=>ret1 True (.bool (decide (x<y)))
    | .leq=>ret1 True (.bool (decide (x<=y)))
    | .gtr=>ret1 True (.bool (decide (y<x)))
    | .geq=>ret1 True (.bool (decide (y<=x)))
    | _=>.no
   else .no
 | .string x,.string y =>
  match op with
  | .add=>ret1 (x.size+y.size<=9223372036854775807) (.string (x++y))
  | .eql=>ret1 True (.bool (decide (x=y)))
  | .neq=>ret1 True (.bool (!decide (x=y)))
  | .lss=>ret1 True (.bool (sLt x y))
  | .leq=>ret1 True (.bool (sLt x y || decide (x=y)))
  | .gtr=>ret1 True (.bool (!(sLt x y || decide (x=y))))
  | .geq=>ret1 True (.bool (!sLt x y))
  | _=>.no
 | _,_=>.no
def mmR(mx:Bool):Value->Value->RR
 | .int k x,.int _ y=>ret1 True (.int k (bif mx then(if y > x then y else x) else(if y<x then y else x)))
 | _,_=>.no
def beqR(neg:Bool):Value->Value->RR
 | .bool a,.bool b=>ret1 True (.bool (bif neg then !(a == b) else(a == b)))
 | _,_=>.no
def unR(op:UnOp):Value->RR
 | .int k x=>match op with
  | .neg=>fit false k (0 - x)
  | .xor=>ret1 True (.int k (bitXor k (if k.signed then -1 else k.max) x))
  | _=>.no
 | .bool b=>match op with
  | .not=>ret1 True (.bool (!b))
  | _=>.no
 | _=>.no
def pickB(c:Bool)(a b:Value):RR :=
 match a,b with
 | .bool x,.bool y=>ret1 True (.bool (bif c then x else y))
 | _,_=>.no
def setL:List S0->Nat->List S0->List S0
 | l,_,[]=>l
 | l,i,x::r=>setL (l.set i x) (i+1) r
def SV.cells:SV->Option (List S0)
 | .c (.o (.val (.agg _)))=>none
 | .c (.o (.val (.tuple _)))=>none
 | .c (.o x)=>some [x]
 | .c (.agg l)=>some l
 | _=>none
def S0.one:S0->Prop
 | .val v=>v.oneCell'=true
 | _=>True
def allOne:List S0->Prop
 | []=>True
 | x::r=>x.one/\allOne r
def vals:List S0->Option (List Value)
 | []=>some []
 | .val v::r=>match vals r with
  | some s=>some (v::s)
  | none=>none
 | _=>none
def qBg(l:List S0)(i n:Nat):List S0:=(l.drop i).take n
def bAt(s:BA)(i:Int):Int:=if 0<=i then(match s[i.toNat]? with | some b=>(b.toNat:Int) | none => -1) else -1
abbrev Con:=List SV->List SB->Option (Prop × SV × Option (List SB))
def owe(p act:Prop):RR->RR
 | .no=>.no
 | .ok q v hp=>.ok (p/\(act->q)) v hp
 | .quiet q v=>.quiet (p/\(act->q)) v
 | .still q v=>.still (p/\(act->q)) v
 | .any q k=>.any (p/\(act->q)) k
def etOf:List Value->Option ET
 | [.int .u8 _]=>some .u8
 | [.int .i64 _]=>some .i64
 | [.int .u32 _]=>some .u32
 | [.int .u64 _]=>some .u64
 | [.int .i32 _]=>some .i32
 | [.bool _]=>some .bl
 | [.string _]=>some .str
 | [.int .i64 _,.string _,.string _,.bool _,.int .i64 _,.int .i64 _]=>some .node
 | [.bool _,.int .i64 _]=>some .tm
 | _=>none
def decs(t:ET):Nat->List Value->Option (List t.T)
 | 0,_=>some []
 | n+1,l=>match t.dec (l.take t.sz),decs t n (l.drop t.sz) with
  | some x,some r=>some (x::r)
  | _,_=>none
def argsE(S:St)(act:Prop):List Arg->Option (Prop × List SV)
 | []=>some (True,[])
 | x::r=>match argE S act x,argsE S act r with
  | some (p,v),some (q,l)=>some (p/\q,v::l)
  | _,_=>none
def fillL(S:St)(act:Prop):List (Nat × Nat × Arg)->List S0->Option (Prop × List S0)
 | [],l=>some (True,l)
 | (off,sz,x)::r,l=>match argE S act x with
  | some (p,v)=>match v.cells with
   | some cs=>bif(cs.length == sz && Nat.ble (off+sz) l.length) then
     (match fillL S act r (setL l off cs) with
     | some (q,m)=>some (p/\q,m)
     | none=>none)
    else none
   | none=>none
  | none=>none
def ghoB(g:Nat):List SB->Option SB
 | []=>none
 | sb::r=>match sb with
  | .gro t _ l n g'=>bif Nat.beq g' g then some (.vrow t (l.take n)) else ghoB g r
  | _=>ghoB g r
def ghoLen(g:Nat)(hp:List SB):Option Nat :=
 match ghoB g hp with
 | some (.vrow _ l)=>some l.length
 | _=>none
def qEm(hp:List SB):S0->Option Nat
 | .val (.slice none 0 0)=>some 0
 | .own h=>match hp[h]? with
  | some (.row _ _ l)=>some l.length
  | some (.view _ l)=>some l.length
  | some (.part _ _ n z)=>bif Nat.beq z 0 then none else some n
  | some (.slc _ n _)=>some n
  | some (.vrow _ l)=>some l.length
  | some (.srow _ _ n _)=>some n
  | some .dead=>ghoLen h hp
  | _=>none
 | .bsl k=>match hp[k]? with
  | some (.bag _ _ l)=>some l.length
  | some (.gro _ _ l _ _)=>some l.length
  | _=>none
 | .asl h _ _ _ len=>match hp[h]? with
  | some (.cells _ _)=>some len
  | _=>none
 | _=>none
def bound(S:St)(act:Prop)(d:Int):Option Arg->Option (Prop × Int)
 | none=>some (True,d)
 | some x=>match argE S act x with
  | some (p,.c (.o (.val (.int _ n))))=>some (p,n)
  | _=>none
def intsOf(k:IntKind):List S0->Option (List Int)
 | []=>some []
 | .val (.int k' n)::r=>bif decide (k'=k) then(match intsOf k r with
  | some l=>some (n::l)
  | none=>none) else none
 | _::_=>none
def kindOf:List S0->Option IntKind
 | .val (.int k _)::_=>some k
 | _=>none
def sprI(k:IntKind)(l:List Int):Nat->Nat->List S0
 | 0,_=>[]
 | n+1,i=>.val (.int k (l.getD i 0))::sprI k l n (i+1)
def spr(k:IntKind)(n:Nat)(l:List Int):List S0:=sprI k l n 0
def arL(l:List S0)(off n:Nat):Option (IntKind × List Int) :=
 match kindOf (qBg l off n) with
 | some k=>match intsOf k (qBg l off n) with
  | some cs=>bif Nat.beq cs.length n then some (k,cs) else none
  | none=>none
 | none=>none
def arAt(hp:List SB)(h off n:Nat):Option (Nat × List S0 × IntKind × List Int) :=
 match hp[h]? with
 | some (.cells e l)=>match arL l off n with
  | some (k,cs)=>some (e,l,k,cs)
  | none=>none
 | _=>none
def arPut(l:List S0)(off n:Nat)(k:IntKind)(cs:List Int):List S0:=l.take off++(spr k n cs++l.drop (off+n))
def nkSet:(ks:List NK)->NT ks->Nat->S0->Option (NT ks)
 | [],_,_,_=>none
 | .int q::_,x,0,v=>match v with
  | .val (.int q' n)=>bif decide (q'=q) then some (n,x.2) else none
  | _=>none
 | .bool::_,x,0,v=>match v with
  | .val (.bool b)=>some (b,x.2)
  | _=>none
 | .str::_,x,0,v=>match v with
  | .val (.string s)=>some (s,x.2)
  | _=>none
 | .map::_,_,0,_=>none
 | .rw _::_,_,0,_=>none
 | .int _::r,x,off+1,v=>match nkSet r x.2 off v with
  | some y=>some (x.1,y)
  | none=>none
 | .bool::r,x,off+1,v=>match nkSet r x.2 off v with
  | some y=>some (x.1,y)
  | none=>none
 | .str::r,x,off+1,v=>match nkSet r x.2 off v with
  | some y=>some (x.1,y)
  | none=>none
 | .map::r,x,off+1,v=>match nkSet r x.2 off v with
  | some y=>some (x.1,y)
  | none=>none
 | .rw _::r,x,off+1,v=>match nkSet r x.2 off v with
  | some y=>some (x.1,y)
  | none=>none
def qDy:(ks:List NK)->NT ks->Nat->Option MapC
 | .map::_,x,0=>some x.1
 | .map::r,x,j+1=>qDy r x.2 j
 | .rw _::_,_,0=>none
 | .rw _::r,x,j+1=>qDy r x.2 j
 | .int _::r,x,j=>qDy r x.2 j
 | .bool::r,x,j=>qDy r x.2 j
 | .str::r,x,j=>qDy r x.2 j
 | [],_,_=>none
def nkPut:(ks:List NK)->NT ks->Nat->MapC->NT ks
 | .map::_,x,0,m=>(m,x.2)
 | .map::r,x,j+1,m=>(x.1,nkPut r x.2 j m)
 | .rw _::_,x,0,_=>x
 | .rw _::r,x,j+1,m=>(x.1,nkPut r x.2 j m)
 | .int _::r,x,j,m=>(x.1,nkPut r x.2 j m)
 | .bool::r,x,j,m=>(x.1,nkPut r x.2 j m)
 | .str::r,x,j,m=>(x.1,nkPut r x.2 j m)
 | [],x,_,_=>x
def qBp:(ks:List NK)->NT ks->Nat->Option SB
 | .rw q::_,x,0=>some (.view q.et (q.l x.1))
 | .rw _::r,x,j+1=>qBp r x.2 j
 | .map::_,_,0=>none
 | .map::r,x,j+1=>qBp r x.2 j
 | .int _::r,x,j=>qBp r x.2 j
 | .bool::r,x,j=>qBp r x.2 j
 | .str::r,x,j=>qBp r x.2 j
 | [],_,_=>none
def ksOf:List Value->Option (List NK)
 | []=>some []
 | .int k _::r=>(ksOf r).map (NK.int k :: ·)
 | .bool _::r=>(ksOf r).map (NK.bool :: ·)
 | .string _::r=>(ksOf r).map (NK.str :: ·)
 | .map none::r=>(ksOf r).map (NK.map :: ·)
 | .slice none 0 0::.int k _::.string _::[]=>some [.rw .str,.int k,.str]
 | .slice none 0 0::.int k n::r=>(ksOf (.int k n::r)).map (NK.rw .node :: ·)
 | .slice none 0 0::r=>(ksOf r).map (NK.rw .str :: ·)
 | _=>none
def QK.take:(q:QK)->SB->Option (List q.T)
 | .str,.row .str _ l=>some l
 | .node,.row .node _ l=>some l
 | _,_=>none
theorem QK.take_eq{q:QK}{sb:SB}{l:List q.T}(h:q.take sb=some l):∃e,sb=.row q.et e (q.l l):=by
 unfold QK.take at h;split at h
 ·cases h;exact⟨_,rfl⟩
 ·cases h;exact⟨_,rfl⟩
 ·cases h
def qBv(hp:List SB):(ks:List NK)->List S0->Option (NT ks × List Nat)
 | [],[]=>some ((),[])
 | [],_::_=>none
 | _::_,[]=>none
 | .int q::r,v::l=>match v,qBv hp r l with
  | .val (.int q' n),some (x,hs)=>bif decide (q'=q) then some ((n,x),hs) else none
  | _,_=>none
 | .bool::r,v::l=>match v,qBv hp r l with
  | .val (.bool b),some (x,hs)=>some ((b,x),hs)
  | _,_=>none
 | .str::r,v::l=>match v,qBv hp r l with
  | .val (.string s),some (x,hs)=>some ((s,x),hs)
  | _,_=>none
 | .map::r,v::l=>match v,qBv hp r l with
  | .val (.map none),some (x,hs)=>some (((none:MapC),x),hs)
  | .own h,some (x,hs)=>match hp[h]? with
   | some (.map m)=>some ((m,x),h::hs)
   | _=>none
  | _,_=>none
 | .rw q::r,v::l=>match v,qBv hp r l with
  | .val (.slice none 0 0),some (x,hs)=>some ((([]:List q.T),x),hs)
  | .own h,some (x,hs)=>match (hp[h]?).bind q.take with
   | some m=>some ((m,x),h::hs)
   | none=>none
  | _,_=>none
def nodupN:List Nat->Bool
 | []=>true
 | x::r=>bif r.all (λy=>bif Nat.beq x y then false else true) then nodupN r else false
def killL:List Nat->List SB->List SB
 | [],hp=>hp
 | h::r,hp=>killL r (hp.set h .dead)
def bagNew(hp:List SB)(e sz n:Nat)(zero:List Value)(l:List S0):Option (SV × List SB) :=
 match n,ksOf zero with
 | 1,some ks=>bif(bif Nat.beq sz ks.length then Nat.blt 0 sz else false) then(match qBv hp ks l with
  | some (x,hs)=>bif nodupN hs then some (.c (.o (.bsl hp.length)),killL hs hp++[.bag ks e [x]]) else none
  | none=>none) else none
 | _,_=>none
def litNew(hp:List SB)(e sz n:Nat)(l:List S0):Option (SV × List SB) :=
 bif Nat.beq l.length (n*sz) then some (.c (.o (.own (hp.length+1))),hp++[.cells e l,.slc hp.length n sz]) else none
def litBag(hp:List SB)(e sz n:Nat)(zero:List Value)(l:List S0):Option (SV × List SB) :=
 match bagNew hp e sz n zero l with
 | some x=>some x
 | none=>litNew hp e sz n l
def qCq(t:ET)(l:List t.T)(i off:Nat):Option Nat->RQ
 | none=>match (t.enc (l.getD i t.dft))[off]? with
  | some x=>.quiet [i<l.length] (.c (.o (.val x)))
  | none=>.no
 | some m=>bif Nat.ble (off+m) t.sz then .quiet [i<l.length] (.c (.agg (qBg ((t.enc (l.getD i t.dft)).map S0.val) off m))) else .no
def qCh(l:List S0)(off:Nat):Option Nat->RQ
 | none=>match l[off]? with
  | some x=>.quiet [] (.c (.o x))
  | none=>.no
 | some m=>bif Nat.ble (off+m) l.length then .quiet [] (.c (.agg (qBg l off m))) else .no
def oneB:S0->Bool
 | .val (.agg _)=>false
 | .val (.tuple _)=>false
 | _=>true
def allOneB:List S0->Bool
 | []=>true
 | x::r=>bif oneB x then allOneB r else false
def ghoLoadQ(hp:List SB)(n:Option Nat)(h i sz off:Nat):RQ :=
 match ghoB h hp with
 | some (.vrow t l)=>bif Nat.beq sz t.sz then qCq t l i off n else .no
 | _=>.no
def ghoIaddrQ(hp:List SB)(sz h:Nat)(i:Int):RQ :=
 match ghoB h hp with
 | some (.vrow t l)=>bif Nat.beq sz t.sz then .still [0<=i/\i<l.length] (.c (.o (.el h i.toNat sz 0))) else .no
 | _=>.no
def ghoFaddrQ(hp:List SB)(off h i sz o:Nat):RQ :=
 match ghoB h hp with
 | some (.vrow _ l)=>.still [i<l.length] (.c (.o (.el h i sz (o+off))))
 | _=>.no
def srowLoadQ(s:Nat)(l:List S0)(n:Option Nat)(i sz off:Nat):RQ:=bif(bif Nat.beq sz s then Nat.blt (i*sz+off) l.length else false) then qCh l (i*sz+off) n else .no
def srowIaddrQ(s n:Nat)(sz h:Nat)(i:Int):RQ:=bif Nat.beq sz s then .still [0<=i/\i<n] (.c (.o (.el h i.toNat sz 0))) else .no
def srowFaddrQ(s n off h i sz o:Nat):RQ:=bif Nat.beq sz s then .still [i<n] (.c (.o (.el h i sz (o+off)))) else .no
def srcS(hp:List SB)(sz:Nat):S0->Option (Nat × List S0)
 | .own h=>match hp[h]? with
  | some (.slc k n s)=>match hp[k]? with
   | some (.cells _ l)=>bif(bif Nat.beq s sz then Nat.beq l.length (n*sz) else false) then some (n,l) else none
   | _=>none
  | _=>none
 | _=>none
def srowAppQ(hp:List SB)(e sz bytes:Nat)(s x:S0):RQ :=
 match srcS hp sz x with
 | some (m,l')=>bif(bif Nat.blt 0 sz then allOneB l' else false) then(match s with
  | .val (.slice none 0 0)=>.ok [m<=9223372036854775807/\m*bytes<=140737488355328] (.c (.o (.own hp.length))) (hp++[.srow e sz m l'])
  | .own h=>match hp[h]? with
   | some (.srow e1 s1 n l)=>bif(bif Nat.beq e e1 then Nat.beq sz s1 else false) then .ok [n+m<=9223372036854775807/\(n+m)*bytes<=140737488355328] (.c (.o (.own hp.length))) (hp.set h .dead++[.srow e sz (n+m) (l++l')]) else .no
   | _=>.no
  | _=>.no) else .no
 | none=>.no
def bagLoad(k:Nat)(ks:List NK)(l:List (NT ks))(i off:Nat):Option Nat->RQ
 | none=>match (qBc k i ks (l.getD i (NT.dft ks)) 0)[off]? with
  | some x=>.quiet [i<l.length] (.c (.o x))
  | none=>.no
 | some m=>bif Nat.ble (off+m) ks.length then .quiet [i<l.length] (.c (.agg (qBg (qBc k i ks (l.getD i (NT.dft ks)) 0) off m))) else .no
def bagLoadQ(hp:List SB)(n:Option Nat):S0->RQ
 | .pel k i sz off=>match hp[k]? with
  | some (.bag ks _ l)=>bif Nat.beq sz ks.length then bagLoad k ks l i off n else .no
  | some (.gro t _ l _ _)=>bif Nat.beq sz t.sz then qCq t l i off n else .no
  | _=>.no
 | .ar h off m i=>match arAt hp h off m,n with
  | some (_,_,k,cs),none=>.quiet [i<m] (.c (.o (.val (.int k (cs.getD i 0)))))
  | _,_=>.no
 | .val (.pointer (some ⟨g,j,none⟩))=>match tabA g,n with
  | some (k,l),none=>.quiet [j<l.length] (.c (.o (.val (.int k (l.getD j 0)))))
  | some (k,l),some m=>bif(bif Nat.beq j 0 then Nat.ble m l.length else false) then .quiet [] (.c (.agg (spr k m l))) else .no
  | none,_=>.no
 | _=>.no
def bagStoreQ(hp:List SB)(n:Nat)(x:List S0):S0->RQ
 | .pel k i sz off=>match hp[k]?,n,x with
  | some (.bag ks e l),1,[v]=>bif Nat.beq sz ks.length then(match nkSet ks (l.getD i (NT.dft ks)) off v with
   | some y=>.ok [i<l.length] (.c (.o (.val undef))) (hp.set k (.bag ks e (l.set i y)))
   | none=>.no) else .no
  | _,_,_=>.no
 | .ar h off m i=>match arAt hp h off m,n,x with
  | some (e,l,k,cs),1,[.val (.int k' v)]=>bif decide (k'=k) then .ok [i<m] (.c (.o (.val undef))) (hp.set h (.cells e (arPut l off m k (cs.set i v)))) else .no
  | _,_,_=>.no
 | _=>.no
def bagFaddrQ(hp:List SB)(off:Nat):S0->RQ
 | .pel k i sz o=>match hp[k]? with
  | some (.bag _ _ l)=>.still [i<l.length] (.c (.o (.pel k i sz (o+off))))
  | some (.gro _ _ l _ _)=>.still [i<l.length] (.c (.o (.pel k i sz (o+off))))
  | _=>.no
 | _=>.no
def bagIaddrQ(hp:List SB)(sz:Nat)(x:S0)(i:Int):RQ :=
 match x with
 | .bsl k=>match hp[k]? with
  | some (.bag ks _ l)=>bif Nat.beq sz ks.length then .still [0<=i/\i<l.length] (.c (.o (.pel k i.toNat sz 0))) else .no
  | some (.gro t _ l _ _)=>bif Nat.beq sz t.sz then .still [0<=i/\i<l.length] (.c (.o (.pel k i.toNat sz 0))) else .no
  | _=>.no
 | .asl h off n lo len=>match hp[h]? with
  | some (.cells _ _)=>bif Nat.beq sz 1 then .still [0<=i/\i<len/\lo+len<=n] (.c (.o (.ar h off n (lo+i.toNat)))) else .no
  | _=>.no
 | _=>.no
def bagSubQ(hp:List SB)(sz:Nat)(x:S0)(lo:Option Int)(hi:Int):RQ :=
 match x,lo with
 | .bsl k,none=>match hp[k]? with
  | some (.bag ks e l)=>bif Nat.beq sz ks.length then .ok [0<=hi/\hi<=l.length] (.c (.o (.bsl hp.length))) (hp.set k .dead++[.bag ks e (l.take hi.toNat)]) else .no
  | _=>.no
 | _,_=>.no
def mapOfQ(hp:List SB):S0->Option (List Prop × MapC)
 | .val (.map none)=>some ([],none)
 | .own h=>match hp[h]? with
  | some (.map m)=>some ([],m)
  | _=>none
 | .prj k i j=>match hp[k]? with
  | some (.bag ks _ l)=>match qDy ks (l.getD i (NT.dft ks)) j with
   | some m=>some ([i<l.length],m)
   | none=>none
  | _=>none
 | _=>none
def mapPutQ(hp:List SB)(x:S0)(s:BA)(v:Int):RQ :=
 match x with
 | .own h=>match hp[h]? with
  | some (.map m)=>.ok [m.isSome=true] (.c (.o (.val undef))) (hp.set h (.map (mput m s v)))
  | _=>.no
 | .prj k i j=>match hp[k]? with
  | some (.bag ks e l)=>match qDy ks (l.getD i (NT.dft ks)) j with
   | some m=>.ok [i<l.length,m.isSome=true] (.c (.o (.val undef))) (hp.set k (.bag ks e (l.set i (nkPut ks (l.getD i (NT.dft ks)) j (mput m s v)))))
   | none=>.no
  | _=>.no
 | _=>.no
def qC2(t:ET)(l:List t.T)(i off:Nat):Option Nat->RR
 | none=>match (t.enc (l.getD i t.dft))[off]? with
  | some x=>.quiet (i<l.length) (.c (.o (.val x)))
  | none=>.no
 | some m=>bif Nat.ble (off+m) t.sz then .quiet (i<l.length) (.c (.agg (qBg ((t.enc (l.getD i t.dft)).map S0.val) off m))) else .no
def qBx(l:List S0)(off:Nat):Option Nat->RR
 | none=>match l[off]? with
  | some x=>.quiet True (.c (.o x))
  | none=>.no
 | some m=>bif Nat.ble (off+m) l.length then .quiet True (.c (.agg (qBg l off m))) else .no
def loadR(hp:List SB)(n:Option Nat):S0->RR
 | .hd h off=>match hp[h]? with
  | some (.cells _ l)=>qBx l off n
  | _=>.no
 | .el h i sz off=>match hp[h]? with
  | some (.row t _ l)=>bif sz == t.sz then qC2 t l i off n else .no
  | some (.view t l)=>bif sz == t.sz then qC2 t l i off n else .no
  | some (.vrow t l)=>bif sz == t.sz then qC2 t l i off n else .no
  | some (.srow _ s _ l)=>(srowLoadQ s l n i sz off).toR
  | some .dead=>(ghoLoadQ hp n h i sz off).toR
  | _=>.no
 | x=>(bagLoadQ hp n x).toR
def storeR(hp:List SB)(n:Nat)(x:List S0):S0->RR
 | .hd h off=>match hp[h]? with
  | some (.cells e l)=>bif(x.length == n && Nat.ble (off+n) l.length) then .ok (allOne x) (.c (.o (.val undef))) (hp.set h (.cells e (setL l off x))) else .no
  | _=>.no
 | .el h i sz off=>match hp[h]? with
  | some (.row t e l)=>bif(sz == t.sz && (x.length == n && Nat.ble (off+n) t.sz)) then
    (match vals (setL ((t.enc (l.getD i t.dft)).map S0.val) off x) with
    | some vs=>match t.dec vs with
     | some y=>.ok (i<l.length) (.c (.o (.val undef))) (hp.set h (.row t e (l.set i y)))
     | none=>.no
    | none=>.no) else .no
  | _=>.no
 | d=>(bagStoreQ hp n x d).toR
def faddrR(hp:List SB)(off:Nat):S0->RR
 | .hd h o=>match hp[h]? with
  | some (.cells _ _)=>.still True (.c (.o (.hd h (o+off))))
  | _=>.no
 | .el h i sz o=>match hp[h]? with
  | some (.row _ _ l)=>.still (i<l.length) (.c (.o (.el h i sz (o+off))))
  | some (.view _ l)=>.still (i<l.length) (.c (.o (.el h i sz (o+off))))
  | some (.srow _ s n _)=>(srowFaddrQ s n off h i sz o).toR
  | some .dead=>(ghoFaddrQ hp off h i sz o).toR
  | _=>.no
 | x=>(bagFaddrQ hp off x).toR
def iaddrR(hp:List SB)(sz:Nat)(x:S0)(i:Int):RR :=
 match x with
 | .own h=>match hp[h]? with
  | some (.row t _ l)=>bif sz == t.sz then .still (0<=i/\i<l.length) (.c (.o (.el h i.toNat sz 0))) else .no
  | some (.view t l)=>bif sz == t.sz then .still (0<=i/\i<l.length) (.c (.o (.el h i.toNat sz 0))) else .no
  | some (.part k lo n s)=>bif sz == s && Nat.blt (bif Nat.beq s 0 then hp.length else k) hp.length then .still (0<=i/\i<n) (.c (.o (.el k (lo+i.toNat) sz 0))) else .no
  | some (.slc k n s)=>bif sz == s && Nat.blt k hp.length then .still (0<=i/\i<n) (.c (.o (.hd k (i.toNat*sz)))) else .no
  | some (.vrow t l)=>bif sz == t.sz then .still (0<=i/\i<l.length) (.c (.o (.el h i.toNat sz 0))) else .no
  | some (.srow _ s n _)=>(srowIaddrQ s n sz h i).toR
  | some .dead=>(ghoIaddrQ hp sz h i).toR
  | _=>.no
 | x=>(bagIaddrQ hp sz x i).toR
def baseLen(hp:List SB)(k:Nat):Option (Nat × Nat) :=
 match hp[k]? with
 | some (.row t _ l)=>some (l.length,t.sz)
 | some (.view t l)=>some (l.length,t.sz)
 | _=>none
def subR(hp:List SB)(sz:Nat)(x:S0)(lo:Option Int)(hi:Int):RR :=
 match x with
 | .own h=>match hp[h]? with
  | some (.row t e l)=>bif sz == t.sz then(match lo with
   | none=>.ok (0<=hi/\hi<=l.length) (.c (.o (.own hp.length))) (hp.set h .dead++[.row t e (l.take hi.toNat)])
   | some lo=>.ok (0<=lo/\lo<=hi/\hi<=l.length) (.c (.o (.own hp.length))) (hp++[.part h lo.toNat (hi.toNat - lo.toNat) sz])) else .no
  | some (.part k lo0 _ s)=>match baseLen hp k with
   | some (m,z)=>bif sz == s && sz == z then .ok (0<=lo.getD 0/\lo.getD 0<=hi/\lo0+hi<=m) (.c (.o (.own hp.length))) (hp++[.part k (lo0+(lo.getD 0).toNat) (hi.toNat - (lo.getD 0).toNat) sz]) else .no
   | none=>.no
  | some (.view t l)=>bif sz == t.sz then(match lo with
   | none=>.ok (0<=hi/\hi<=l.length) (.c (.o (.own hp.length))) (hp++[.view t (l.take hi.toNat)])
   | some lo=>.ok (0<=lo/\lo<=hi/\hi<=l.length) (.c (.o (.own hp.length))) (hp++[.view t ((l.take hi.toNat).drop lo.toNat)])) else .no
  | some (.vrow t l)=>bif sz == t.sz then(match lo with
   | none=>.ok (0<=hi/\hi<=l.length) (.c (.o (.own hp.length))) (hp.set h .dead++[.vrow t (l.take hi.toNat)])
   | some _=>.no) else .no
  | _=>.no
 | x=>(bagSubQ hp sz x lo hi).toR
def srcL(hp:List SB)(t:ET):S0->Option (List t.T)
 | .own h=>match hp[h]? with
  | some (.row t' _ l)=>if h:t'=t then some (h ▸ l) else none
  | some (.view t' l)=>if h:t'=t then some (h ▸ l) else none
  | some (.part k lo n sz)=>match hp[k]? with
   | some (.row t' _ l)=>if h:t'=t then(bif Nat.beq sz t.sz then some (((h ▸ l:List t.T).drop lo).take n) else none) else none
   | _=>none
  | _=>none
 | .val (.slice none 0 0)=>some []
 | _=>none
def srcO(hp:List SB):S0->List Prop
 | .own h=>match hp[h]? with
  | some (.part k lo n _)=>match hp[k]? with
   | some (.row _ _ l)=>[lo+n<=l.length]
   | _=>[]
  | _=>[]
 | _=>[]
def groAppQ(hp:List SB)(e sz bytes h:Nat)(x:S0):RQ :=
 match hp[h]? with
 | some (.gro t e' l n g)=>bif(bif Nat.beq sz t.sz then Nat.beq e e' else false) then(match srcL hp t x with
  | some m=>.ok (srcO hp x++[l.length+m.length<=9223372036854775807/\(l.length+m.length)*bytes<=140737488355328]) (.c (.o (.bsl hp.length))) (hp.set h .dead++[.gro t e (l++m) n g])
  | none=>.no) else .no
 | _=>.no
def qDo(hp:List SB)(e sz bytes:Nat)(s x:S0):RQ :=
 match s,x with
 | .val (.slice none 0 0),.bsl h'=>match hp[h']? with
  | some (.bag ks e' m)=>bif(bif Nat.beq sz ks.length then Nat.beq e e' else false) then .ok [m.length<=9223372036854775807/\m.length*bytes<=140737488355328] (.c (.o (.bsl hp.length))) (hp.set h' .dead++[.bag ks e m]) else .no
  | _=>.no
 | .bsl h,.bsl h'=>match hp[h]?,hp[h']? with
  | some (.bag ks e1 l),some (.bag ks' _ m)=>if hk:ks'=ks then bif(bif Nat.beq sz ks.length then(bif Nat.beq e e1 then(bif Nat.beq h h' then false else true) else false) else false) then
    .ok [l.length+m.length<=9223372036854775807/\(l.length+m.length)*bytes<=140737488355328] (.c (.o (.bsl hp.length))) ((hp.set h .dead).set h' .dead++[.bag ks e (l++hk ▸ m)]) else .no else .no
  | _,_=>.no
 | .val (.slice none 0 0),.own h'=>srowAppQ hp e sz bytes (.val (.slice none 0 0)) (.own h')
 | .own h,.own h'=>srowAppQ hp e sz bytes (.own h) (.own h')
 | .bsl h,.own h'=>groAppQ hp e sz bytes h (.own h')
 | _,_=>.no
def apart0:S0->S0->Bool
 | .own h,.own h'=>h != h'
 | _,_=>true
def appendR(hp:List SB)(e sz bytes:Nat)(zero:List Value)(s x:S0):RR :=
 bif apart0 s x then
  (match s with
  | .val (.slice none 0 0)=>match etOf zero with
   | some t=>bif sz == t.sz then(match srcL hp t x with
    | some m=>.ok (AllP (srcO hp x)/\m.length<=9223372036854775807/\m.length*bytes<=140737488355328) (.c (.o (.own hp.length))) (hp++[.row t e m])
    | none=>.no) else .no
   | none=>(qDo hp e sz bytes (.val (.slice none 0 0)) x).toR
  | .own h=>match hp[h]? with
   | some (.row t e' l)=>bif(sz == t.sz && e == e') then(match srcL hp t x with
    | some m=>.ok (AllP (srcO hp x)/\l.length+m.length<=9223372036854775807/\(l.length+m.length)*bytes<=140737488355328) (.c (.o (.own hp.length))) (hp.set h .dead++[.row t e (l++m)])
    | none=>.no) else .no
   | some (.srow ..)=>(qDo hp e sz bytes (.own h) x).toR
   | _=>.no
  | s=>(qDo hp e sz bytes s x).toR)
 else .no
def fieldR(p:Prop)(l:List S0)(off:Nat):Option Nat->RR
 | none=>match l[off]? with
  | some y=>.still p (.c (.o y))
  | none=>.no
 | some m=>bif Nat.ble (off+m) l.length then .still p (.c (.agg (qBg l off m))) else .no
def loOf(lo:Option Arg)(l:Int):Option Int :=
 match lo with
 | none=>none
 | some _=>some l
def bytesI(l:List Int):BA:=l.foldl (λr n=>r.push (UInt8.ofNat n.toNat)) ByteArray.empty
def qDs(s:BA):List Int:=s.data.toList.map λb=>(b.toNat:Int)
def ptrSame:S0->S0->Option Bool
 | .hd h o,.hd h' o'=>bif Nat.beq h h' then(bif Nat.beq o o' then some true else none) else none
 | .hd _ _,.val (.pointer none)=>some false
 | .val (.pointer none),.hd _ _=>some false
 | .val (.pointer none),.val (.pointer none)=>some true
 | .opt c h o,.hd h' o'=>bif Nat.beq h h' then(bif Nat.beq o o' then some c else none) else none
 | .opt c _ _,.val (.pointer none)=>some (!c)
 | _,_=>none
def cellsB(hp:List SB):S0->Bool
 | .hd h _=>match hp[h]? with
  | some (.cells _ _)=>true
  | _=>false
 | .opt _ h _=>match hp[h]? with
  | some (.cells _ _)=>true
  | _=>false
 | _=>true
theorem cellsB_spec{hp:List SB}{h off:Nat}(hc:cellsB hp (.hd h off)=true):∃e l,hp[h]?=some (.cells e l):=by
 simp only[cellsB] at hc;split at hc
 ·exact⟨_,_,by assumption⟩
 ·cases hc
theorem cellsB_opt{hp:List SB}{c:Bool}{h off:Nat}(hc:cellsB hp (.opt c h off)=true):∃e l,hp[h]?=some (.cells e l):=by
 simp only[cellsB] at hc;split at hc
 ·exact⟨_,_,by assumption⟩
 ·cases hc
def qAx:List EK->List S0->List S0->Option Bool
 | [],[],[]=>some true
 | .int k::ks,.val (.int k1 x)::l,.val (.int k2 y)::m=>bif(bif decide (k1=k) then decide (k2=k) else false) then(match qAx ks l m with
  | some b=>some (decide (x=y) && b)
  | none=>none) else none
 | .bool::ks,.val (.bool x)::l,.val (.bool y)::m=>match qAx ks l m with
  | some b=>some ((x == y) && b)
  | none=>none
 | .str::ks,.val (.string x)::l,.val (.string y)::m=>match qAx ks l m with
  | some b=>some (decide (x=y) && b)
  | none=>none
 | _,_,_=>none
def oneL:List SV->Option (List S0)
 | []=>some []
 | .c (.o x)::r=>(oneL r).map (x :: ·)
 | _=>none
def plainL:List S0->Option (List Value)
 | []=>some []
 | .val v::r=>match plainL r with
  | some l=>some (v::l)
  | none=>none
 | _=>none
theorem plainL_den{Z:Nat->Value}:∀ {l:List S0} {vs:List Value},plainL l=some vs->l.map (S0.den Z)=vs
 | [],vs,h=>by cases h;rfl
 | x::r,vs,h=>by
  cases x with
  | val v =>
   simp only[plainL] at h;cases hr:plainL r with
   | none=>rw[hr] at h;cases h
   | some l =>
    rw[hr] at h;cases h;rw[List.map_cons,plainL_den hr];rfl
  | _=>cases h
def extQ(hp:List SB):Ext->List SV->RQ
 | .aggEq neg ks,[.c (.agg l),.c (.agg m)]=>match qAx ks l m with
  | some b=>.still [] (.c (.o (.val (.bool (bif neg then !b else b)))))
  | none=>.no
 | .nilck,[.c (.o (.hd h off))]=>match hp[h]? with
  | some (.cells _ _)=>.still [] (.c (.o (.hd h off)))
  | _=>.no
 | .nilck,[.c (.o (.el h i sz off))]=>match hp[h]? with
  | some (.row _ _ l)=>.still [i<l.length] (.c (.o (.el h i sz off)))
  | some (.view _ l)=>.still [i<l.length] (.c (.o (.el h i sz off)))
  | _=>.no
 | .nilck,[.c (.o (.pel k i sz off))]=>match hp[k]? with
  | some (.bag _ _ l)=>.still [i<l.length] (.c (.o (.pel k i sz off)))
  | _=>.no
 | .mkslice e sz bytes zero,[.c (.o (.val (.int _ n))),.c (.o (.val (.int _ m)))]=>match etOf zero with
  | some t=>bif Nat.beq sz t.sz then(match t.dec zero with
   | some z=>.ok [0<=n/\n<=m/\m<=9223372036854775807/\m*bytes<=140737488355328] (.c (.o (.own hp.length))) (hp++[.row t e (List.replicate n.toNat z)])
   | none=>.no) else .no
  | none=>.no
 | .toStr,[.c (.o (.own h))]=>match hp[h]? with
  | some (.row .u8 _ l)=>.quiet [] (.c (.o (.val (.string (bytesI l)))))
  | some (.view .u8 l)=>.quiet [] (.c (.o (.val (.string (bytesI l)))))
  | some (.part k lo n 1)=>match hp[k]? with
   | some (.row .u8 _ l)=>.quiet [lo+n<=l.length] (.c (.o (.val (.string (bytesI ((l.drop lo).take n))))))
   | some (.view .u8 l)=>.quiet [lo+n<=l.length] (.c (.o (.val (.string (bytesI ((l.drop lo).take n))))))
   | _=>.no
  | _=>.no
 | .fro,[.c (.o (.own h))]=>match hp[h]? with
  | some (.row .u8 _ l)=>.ok [0<l.length] (.c (.o (.own h))) (hp.set h (.view .u8 l))
  | _=>.no
 | .toStr,[.c (.o (.val (.slice none 0 0)))]=>.still [] (.c (.o (.val (.string .empty))))
 | .ptrEq neg,[.c (.o x),.c (.o y)]=>match ptrSame x y with
  | some b=>if cellsB hp x && cellsB hp y then .still [] (.c (.o (.val (.bool (bif neg then !b else b))))) else .no
  | none=>.no
 | .toUns,[.c (.o (.hd h off))]=>match hp[h]? with
  | some (.cells _ l)=>bif Nat.blt off l.length then .quiet [] (.c (.o (.hd h off))) else .no
  | _=>.no
 | .fromUns u n,[.c (.o (.hd h 0))]=>match hp[h]? with
  | some (.cells e l)=>bif(bif Nat.beq e u then Nat.beq l.length n else false) then .quiet [] (.c (.o (.hd h 0))) else .no
  | _=>.no
 | .noEsc,[.c (.o x)]=>.still [] (.c (.o x))
 | .aidx sz n,[.c (.agg l),.c (.o (.val (.int _ i)))]=>match kindOf l with
  | some k=>match intsOf k l with
   | some cs=>bif Nat.beq cs.length (n*sz) then .still [0<=i/\i<n] (.c (.agg ((List.range sz).map λj=>.val (.int k (cs.getD (i.toNat*sz+j) 0))))) else .no
   | none=>.no
  | none=>.no
 | .sdata,[.c (.o (.own h))]=>match hp[h]? with
  | some (.row .u8 _ l)=>.still [0<l.length] (.c (.o (.el h 0 1 0)))
  | _=>.no
 | .ustr e,[.c (.o (.el h 0 1 0)),.c (.o (.val (.int .i64 n)))]=>match hp[h]? with
  | some (.row .u8 e' l)=>bif Nat.beq e e' then .ok [n=l.length/\0<l.length/\∀x∈l,0<=x/\x<256] (.c (.o (.val (.string (bytesI l))))) (hp.set h .dead) else .no
  | _=>.no
 | .f32bits,[.c (.o (.val (.float .f32 b)))]=>.still [] (.c (.o (.val (.int .u32 b))))
 | .appStr e,[.c (.o (.val (.slice none 0 0))),.c (.o (.val (.string s)))]=>.ok [s.size<=140737488355328] (.c (.o (.own hp.length))) (hp++[.row .u8 e (qDs s)])
 | .appStr e,[.c (.o (.own h)),.c (.o (.val (.string s)))]=>match hp[h]? with
  | some (.row .u8 e' l)=>bif Nat.beq e e' then .ok [l.length+s.size<=140737488355328] (.c (.o (.own hp.length))) (hp.set h .dead++[.row .u8 e (l++qDs s)]) else .no
  | _=>.no
 | .mkmap,[]=>.ok [] (.c (.o (.own hp.length))) (hp++[.map (some [])])
 | .mget,[.c (.o x),.c (.o (.val (.string s)))]=>match mapOfQ hp x with
  | some (ps,m)=>.quiet ps (.c (.o (.val (.int .i64 (mget m s)))))
  | none=>.no
 | .mput,[.c (.o x),.c (.o (.val (.string s))),.c (.o (.val (.int .i64 v)))]=>mapPutQ hp x s v
 | .mnil neg,[.c (.o x)]=>match mapOfQ hp x with
  | some (ps,m)=>.still ps (.c (.o (.val (.bool (bif neg then m.isSome else m.isNone)))))
  | none=>.no
 | .mkif t,[.c (.agg l)]=>match plainL l with
  | some vs=>.still [] (.c (.o (.val (.iface t (.agg vs.toArray)))))
  | none=>.no
 | .snil neg,[.c (.o (.own h))]=>match hp[h]? with
  | some (.row _ _ l)=>.still [0<l.length] (.c (.o (.val (.bool neg))))
  | some (.view _ l)=>.still [0<l.length] (.c (.o (.val (.bool neg))))
  | _=>.no
 | .snil neg,[.c (.o (.val (.slice none 0 0)))]=>.still [] (.c (.o (.val (.bool (!neg)))))
 | .tab g,[]=>match tabV g with
  | some x=>.ok [] (.c (.o (.own hp.length))) (hp++[.view x.1 x.2])
  | none=>.no
 | .mkfn f _,[]=>.still [] (.c (.o (.val (.func (.func f) #[] #[]))))
 | .mkfn f k,x::r=>match oneL (x::r) with
  | some cs=>.ok [] (.c (.o (.own hp.length))) (hp++[.clo f k cs])
  | none=>.no
 | .asl n sz,[.c (.o (.hd h 0))]=>match hp[h]? with
  | some (.cells _ l)=>bif Nat.beq l.length (n*sz) then .ok [] (.c (.o (.own hp.length))) (hp++[.slc h n sz]) else .no
  | _=>.no
 | .pidx n sz,[.c (.o (.hd h off)),.c (.o (.val (.int _ i)))]=>match hp[h]? with
  | some (.cells _ l)=>match bif Nat.beq sz 1 then arL l off n else none with
   | some _=>.still [0<=i/\i<n] (.c (.o (.ar h off n i.toNat)))
   | none=>.still [0<=i/\i<n] (.c (.o (.hd h (off+i.toNat*sz))))
  | _=>.no
 | .asub n,[.c (.o (.hd h off)),.c (.o (.val (.int _ lo))),.c (.o (.val (.int _ hi)))]=>match hp[h]? with
  | some (.cells _ _)=>.still [0<=lo/\lo<=hi/\hi<=n] (.c (.o (.asl h off n lo.toNat (hi.toNat - lo.toNat))))
  | _=>.no
 | .aix n,[.c (.agg l),.c (.o (.val (.int _ i)))]=>match arL l 0 n with
  | some (k,cs)=>bif Nat.beq l.length n then .still [0<=i/\i<n] (.c (.o (.val (.int k (cs.getD i.toNat 0))))) else .no
  | none=>.no
 | .pidx n sz,[.c (.o (.val (.pointer (some ⟨g,o,none⟩)))),.c (.o (.val (.int _ i)))]=>.still [0<=i/\i<n] (.c (.o (.val (.pointer (some ⟨g,o+i.toNat*sz,none⟩)))))
 | .copyA,[.c (.o (.asl h off n lo len)),.c (.o x)]=>match arAt hp h off n with
  | some (e,l,.u8,cs)=>match srcL hp .u8 x with
   | some m=>.ok (srcO hp x++[lo+len<=n]) (.c (.o (.val (.int .i64 (min m.length len:Nat))))) (hp.set h (.cells e (arPut l off n .u8 (cs.take lo++((m:List Int).take len++cs.drop (lo+min m.length len))))))
   | none=>.no
  | _=>.no
 | .toBytes _,[.c (.o (.val (.string s)))]=>.ok [] (.c (.o (.own hp.length))) (hp++[.view .u8 (qDs s)])
 | .sub3 sz,[.c (.o (.own h)),.c (.o (.val (.int _ lo))),.c (.o (.val (.int _ hi))),.c (.o (.val (.int _ mx)))]=>match hp[h]? with
  | some (.row t e l)=>bif Nat.beq sz t.sz then .ok [lo=0/\0<=hi/\hi<=mx/\mx<=l.length] (.c (.o (.own hp.length))) (hp.set h .dead++[.vrow t (l.take hi.toNat)]) else .no
  | _=>.no
 | .cmpStr,[.c (.o (.val (.string a))),.c (.o (.val (.string b)))]=>.still [] (.c (.o (.val (.int .i64 (Lib.compareBytes a.data.toList b.data.toList)))))
 | .idxByte,[.c (.o (.val (.string a))),.c (.o (.val (.int .u8 c)))]=>.still [] (.c (.o (.val (.int .i64 (Lib.indexByte a.data.toList c.toNat.toUInt8)))))
 | _,_=>.no
def cloL(hp:List SB):S0->Option (Nat × List SV × List SV)
 | .own h=>match hp[h]? with
  | some (.clo f k l)=>some (f,(l.take k).map λx=>.c (.o x),(l.drop k).map λx=>.c (.o x))
  | _=>none
 | _=>none
def runP(J:Nat->Option Con)(S:St)(act:Prop):Pr->RR
 | .bad=>.no
 | .floA op k x y=>match argE S act x,argE S act y with
  | some (p,.c (.o (.val (.float k1 _)))),some (q,.c (.o (.val (.float k2 _))))=>bif decide (k1=k) && decide (k2=k) && arithB op then .any (p/\q) k else .no
  | _,_=>.no
 | .floI k x=>match argE S act x with
  | some (p,.c (.o (.val (.int _ _))))=>.any p k
  | _=>.no
 | .floC s k x=>match argE S act x with
  | some (p,.c (.o (.val (.float k1 _))))=>bif decide (k1=s) then .any p k else .no
  | _=>.no
 | .ext x xs=>match argsE S act xs with
  | some (p,l)=>owe p act (extQ S.hp x l).toR
  | none=>.no
 | .mv x=>match argE S act x with
  | some (p,v)=>.still p v
  | none=>.no
 | .strc x=>match argE S act x with
  | some (p,.c (.o (.val (.string s))))=>.still p (.c (.o (.val (.string s))))
  | _=>.no
 | .pick c a b=>match argE S act c with
  | some (pc,.c (.o (.val (.bool cb)))) =>
   match argE S (act/\cb=true) a,argE S (act/\cb=false) b with
   | some (pa,.c (.o (.val va))),some (pb,.c (.o (.val vb)))=>match pickB cb va vb with
    | .still _ v=>.still (pc/\pa/\pb) v
    | _=>.no
   | some (pa,v),none=>.still (pc/\(act->cb=true)/\((act->cb=true)->pa)) v
   | none,some (pb,v)=>.still (pc/\(act->cb=false)/\((act->cb=false)->pb)) v
   | _,_=>.no
  | _=>.no
 | .bin raw op x y=>match argE S act x,argE S act y with
  | some (p,.c (.o (.val a))),some (q,.c (.o (.val b)))=>owe (p/\q) act (binR raw op a b)
  | _,_=>.no
 | .un op x=>match argE S act x with
  | some (p,.c (.o (.val a)))=>owe p act (unR op a)
  | _=>.no
 | .mm mx x y=>match argE S act x,argE S act y with
  | some (p,.c (.o (.val a))),some (q,.c (.o (.val b)))=>owe (p/\q) act (mmR mx a b)
  | _,_=>.no
 | .beq neg x y=>match argE S act x,argE S act y with
  | some (p,.c (.o (.val a))),some (q,.c (.o (.val b)))=>owe (p/\q) act (beqR neg a b)
  | _,_=>.no
 | .conv raw k x=>match argE S act x with
  | some (p,.c (.o (.val (.int _ n))))=>owe p act (fit raw k n)
  | _=>.no
 | .alloc e zero=>.ok True (.c (.o (.hd S.hp.length 0))) (S.hp++[.cells e (zero.map S0.val)])
 | .box e _ x=>match argE S act x with
  | some (p,v)=>match v.cells with
   | some l=>.ok p (.c (.o (.hd S.hp.length 0))) (S.hp++[.cells e l])
   | none=>.no
  | none=>.no
 | .build zero parts=>match fillL S act parts (zero.map S0.val) with
  | some (p,l)=>.still p (.c (.agg l))
  | none=>.no
 | .bslice e sz n zero parts=>match etOf zero with
  | some t=>bif sz == t.sz then
    (match fillL S act (parts.map λ(i,x)=>(i*sz,sz,x)) ((List.replicate n zero).flatten.map S0.val) with
    | some (p,l)=>match vals l with
     | some vs=>match decs t n vs with
      | some m=>.ok p (.c (.o (.own S.hp.length))) (S.hp++[.row t e m])
      | none=>.no
     | none=>.no
    | none=>.no) else .no
  | none=>match fillL S act (parts.map λ(i,x)=>(i*sz,sz,x)) ((List.replicate n zero).flatten.map S0.val) with
   | some (p,l)=>match litBag S.hp e sz n zero l with
    | some (v,hp)=>.ok p v hp
    | none=>.no
   | none=>.no
 | .load n a=>match argE S act a with
  | some (p,.c (.o x))=>owe p act (loadR S.hp n x)
  | _=>.no
 | .store n a x=>match argE S act a,argE S act x with
  | some (p,.c (.o d)),some (q,v)=>match v.cells with
   | some l=>owe (p/\q) act (storeR S.hp n l d)
   | none=>.no
  | _,_=>.no
 | .faddr off x=>match argE S act x with
  | some (p,.c (.o x))=>owe p act (faddrR S.hp off x)
  | _=>.no
 | .field off n x=>match argE S act x with
  | some (p,.c (.agg l))=>fieldR p l off n
  | _=>.no
 | .iaddr sz x i=>match argE S act x,argE S act i with
  | some (p,.c (.o x)),some (q,.c (.o (.val (.int _ i))))=>owe (p/\q) act (iaddrR S.hp sz x i)
  | _,_=>.no
 | .index x i=>match argE S act x,argE S act i with
  | some (p,.c (.o (.val (.string s)))),some (q,.c (.o (.val (.int _ i))))=>.still ((p/\q)/\(act->0<=i/\i<s.size)) (.c (.o (.val (.int .u8 (bAt s i)))))
  | _,_=>.no
 | .sub none x lo hi=>match argE S act x with
  | some (p,.c (.o (.val (.string s))))=>match bound S act 0 lo,bound S act s.size hi with
   | some (q,l),some (r,h)=>.still ((p/\q/\r)/\(act->0<=l/\l<=h/\h<=s.size)) (.c (.o (.val (.string (s.extract l.toNat h.toNat)))))
   | _,_=>.no
  | _=>.no
 | .sub (some sz) x lo hi=>match argE S act x with
  | some (p,.c (.o x))=>match qEm S.hp x with
   | some n=>match bound S act 0 lo,bound S act n hi with
    | some (q,l),some (r,h)=>owe (p/\q/\r) act (subR S.hp sz x (loOf lo l) h)
    | _,_=>.no
   | none=>.no
  | _=>.no
 | .lenS x=>match argE S act x with
  | some (p,.c (.o (.val (.string s))))=>.still p (.c (.o (.val (.int .i64 s.size))))
  | _=>.no
 | .len x=>match argE S act x with
  | some (p,.c (.o x))=>match qEm S.hp x with
   | some n=>.still p (.c (.o (.val (.int .i64 n))))
   | none=>.no
  | _=>.no
 | .append e sz bytes zero s x=>match argE S act s,argE S act x with
  | some (p,.c (.o s)),some (q,.c (.o x))=>owe (p/\q) act (appendR S.hp e sz bytes zero s x)
  | _,_=>.no
 | .extract x i=>match argE S act x with
  | some (p,.tup l)=>match l[i]? with
   | some y=>.still p (.c y)
   | none=>.no
  | _=>.no
 | .call f xs=>match J f,argsE S act xs with
  | some C,some (p,l)=>match C l S.hp with
   | some (q,v,none)=>.quiet (p/\(act->q)) v
   | some (q,v,some hp)=>.ok (p/\(act->q)) v hp
   | none=>.no
  | _,_=>.no
 | .callL f xs=>match J f,argsE S act xs with
  | some C,some (p,l)=>match C l S.hp with
   | some (q,v,none)=>.quiet (p/\(act->q)) v
   | some (q,v,some hp)=>.ok (p/\(act->q)) v hp
   | none=>.no
  | _,_=>.no
 | .callV _ _=>.no
 | .callW fs x xs=>match argE S act x,argsE S act xs with
  | some (p,.c (.o s)),some (q,l)=>match cloL S.hp s with
   | some (f,l1,l2)=>bif fs.contains f then(match J f with
    | some C=>match C (l1++l++l2) S.hp with
     | some (z,v,none)=>.quiet ((p/\q)/\(act->z)) v
     | some (z,v,some hp)=>.ok ((p/\q)/\(act->z)) v hp
     | none=>.no
    | none=>.no) else .no
   | none=>.no
  | _,_=>.no
 | .panic _=>.no
theorem runP_raw(J:Nat->Option Con)(S:St)(act:Prop)(fs:List Nat)(raw:Bool)(p:Pr)(hp:∀x l,p≠.callV x l):runP J S act (rawCall fs raw p)=runP J S act p:=by
 cases raw
 ·rfl
 ·cases p <;> first | rfl | exact(hp _ _ rfl).elim
def actOf(S:St):Option (Nat × Bool)->Option Prop
 | none=>some True
 | some (s,b)=>match getE S.sl s with
  | some (c,.c (.o (.val (.bool x))))=>some (c/\x=b)
  | _=>none
def putD(nv:Nat)(S:St)(d:Option Nat)(act:Prop)(v:SV)(hp:List SB):St :=
 match d with
 | some d=>⟨putE nv S.sl d (act,v),hp⟩
 | none=>⟨S.sl,hp⟩
def qD8(nt:Nat):Option Nat->Prop
 | some d=>d<nt
 | none=>True
end Go.Eng
