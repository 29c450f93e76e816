/-
  Texts of a claim.
-/
import Derived.RowKit
import Derived.KernelRfl
import Derived.Laws.AppendOwn
import Derived.Orders
import Derived.Lib.DecodeN
import Derived.Test.YtpobbbpphnnnhaaGreatDoorProg
abbrev BA:=ByteArray
theorem tV:True:=True.intro
theorem obS.{u,v} {α:Type u} {β:Type v} (a:α) (f:α→Option β):(some a).bind f=f a:=rfl
theorem snJ.{u} {α:Type u} (a b:α):(some a=some b)=(a=b):=Option.some.injEq a b
theorem deF {p:Prop} [i:Decidable p] (h:¬p):decide p=false:=decide_eq_false h
theorem deT {p:Prop} [i:Decidable p] (h:p):decide p=true:=decide_eq_true h
theorem cnF.{u} {α:Sort u} {a b:α}:(bif false then a else b)=b:=rfl
theorem cnT.{u} {α:Sort u} {a b:α}:(bif true then a else b)=a:=rfl
theorem obA {α:Type _} {β:Type _} {γ:Type _} (x:Option α) (f:α→Option β) (g:β→Option γ):(x.bind f).bind g=x.bind fun y=>(f y).bind g:=by cases x <;> rfl
theorem slL {α:Type _} {β:Type _} {γ:Sort _} (f:α→γ) (g:β→γ) (x:α):Sum.elim f g (.inl x)=f x:=rfl
theorem slR {α:Type _} {β:Type _} {γ:Sort _} (f:α→γ) (g:β→γ) (x:β):Sum.elim f g (.inr x)=g x:=rfl
namespace Go.Eng
inductive Arg where
 | t (i:Nat)
 | v (x:Value)
inductive EK where
 | int (k:IntKind)
 | bool
 | str
inductive Ext where
 | aggEq (neg:Bool) (ks:List EK)
 | nilck
 | mkslice (e sz bytes:Nat) (zero:List Value)
 | toStr
 | fro
 | ptrEq (neg:Bool)
 | toUns
 | fromUns (u n:Nat)
 | noEsc
 | sdata
 | ustr (e:Nat)
 | cmpStr
 | idxByte
 | f32bits
 | aidx (sz n:Nat)
 | mkmap
 | mget
 | mput
 | mnil (neg:Bool)
 | snil (neg:Bool)
 | mkif (t:Nat)
 | tab (g:Nat)
 | appStr (e:Nat)
 | mkfn (f k:Nat)
 | asl (n sz:Nat)
 | pidx (n sz:Nat)
inductive Pr where
 | bad
 | ext (x:Ext) (args:List Arg)
 | mv (x:Arg)
 | strc (x:Arg)
 | pick (c a b:Arg)
 | bin (raw:Bool) (op:BinOp) (x y:Arg)
 | un (op:UnOp) (x:Arg)
 | beq (neg:Bool) (x y:Arg)
 | mm (mx:Bool) (x y:Arg)
 | conv (raw:Bool) (k:IntKind) (x:Arg)
 | alloc (e:Nat) (zero:List Value)
 | box (e n:Nat) (x:Arg)
 | build (zero:List Value) (parts:List (Nat × Nat × Arg))
 | bslice (e sz len:Nat) (zero:List Value) (parts:List (Nat × Arg))
 | load (n:Option Nat) (a:Arg)
 | store (n:Nat) (a x:Arg)
 | faddr (off:Nat) (x:Arg)
 | field (off:Nat) (n:Option Nat) (x:Arg)
 | iaddr (sz:Nat) (x i:Arg)
 | index (x i:Arg)
 | sub (sz:Option Nat) (x:Arg) (lo hi:Option Arg)
 | lenS (x:Arg)
 | len (x:Arg)
 | append (e sz bytes:Nat) (zero:List Value) (s x:Arg)
 | extract (x:Arg) (i:Nat)
 | call (f:Nat) (args:List Arg)
 | floA (op:BinOp) (k:FloatKind) (x y:Arg)
 | floI (k:FloatKind) (x:Arg)
 | floC (s k:FloatKind) (x:Arg)
 | callL (f:Nat) (args:List Arg)
 | callV (x:Arg) (args:List Arg)
 | panic (x:Arg)
structure IOp where
 d:Option Nat
 p:Pr
 g:Option (Nat × Bool)
inductive DT where
 | fin
 | one (o:IOp) (r:DT)
 | wk (o:IOp) (r:DT)
 | alt (o:IOp) (t r:DT)
 | stop
inductive IC where
 | bad
 | skip
 | reg (last:Nat) (draw:Option (List Nat)) (ops:List IOp)
 | regT (last:Nat) (t:DT)
 | regL (last:Nat) (d:List Nat) (k:Nat) (ops:List IOp) (o:IOp)
 | seq (a b:IC)
 | cond (c:Arg) (a b:IC)
 | block (id:Nat) (b:IC)
 | loop (b:IC)
 | exit (id:Nat)
 | ret
def arg:Operand→Option Arg
 | .tmp i=>some (.t i)
 | .const v=>some (.v v)
 | .func f=>some (.v (.func (.func f) #[] #[]))
 | _=>none
def args (l:List Operand):Option (List Arg) :=
 match l with
 | []=>some []
 | x::r=>match arg x,args r with
  | some y,some s=>some (y::s)
  | _,_=>none
def oarg:Option Operand→Option (Option Arg)
 | none=>some none
 | some x=>(arg x).map some
def qDu (P:Program) (t:Nat):Option (Option Nat) :=
 match P.info? t,P.underlying t with
 | some i,some (.struct _)=>some (some i.size)
 | some i,some (.array _ _)=>some (some i.size)
 | some _,some _=>some none
 | _,_=>none
def qCb (P:Program) (t:Nat):Option (List Value) :=
 match P.info? t with
 | some i=>match i.zero with
  | some z=>some z.cells.toList
  | none=>none
 | none=>none
def places (P:Program) (fs:List Field) (l:List (Nat × Operand)):Option (List (Nat × Nat × Arg)) :=
 match l with
 | []=>some []
 | (i,x)::r=>match fs[i]?,arg x,places P fs r with
  | some f,some y,some s=>match P.info? f.type with
   | some ti=>some ((f.offset,ti.size,y)::s)
   | none=>none
  | _,_,_=>none
def placesA (sz:Nat) (l:List (Nat × Operand)):Option (List (Nat × Nat × Arg)) :=
 match l with
 | []=>some []
 | (i,x)::r=>match arg x,placesA sz r with
  | some y,some s=>some ((i*sz,sz,y)::s)
  | _,_=>none
def qC5 (l:List (Nat × Operand)):Option (List (Nat × Arg)) :=
 match l with
 | []=>some []
 | (i,x)::r=>match arg x,qC5 r with
  | some y,some s=>some ((i,y)::s)
  | _,_=>none
def byteSlice (P:Program) (t:Nat):Bool :=
 match P.underlying t with
 | some (.slice e)=>match P.underlying e with
  | some (.int .u8)=>true
  | _=>false
 | _=>false
def byteElem (P:Program) (e:Nat):Bool :=
 match P.info? e with
 | some i=>match i.zero with
  | some (.int .u8 n)=>decide (n=0) && decide (i.size=1) && decide (i.bytes=1)
  | _=>false
 | none=>false
def externExt (n:String):Option Ext :=
 if n == "internal/abi.NoEscape" then some .noEsc
 else if n == "internal/bytealg.abigen_runtime_cmpstring" then some .cmpStr
 else if n == "internal/bytealg.IndexByteString" then some .idxByte
 else if n == "math.Float32bits" then some .f32bits
 else none
def callPr (P:Program) (c:Call):Option Pr :=
 match c.callee with
 | .value (.func f) =>
  match P.funcs[f]? with
  | some fn=>if fn.body.isSome then (if fn.name != "runtime.NumGoroutine" then (args c.args.toList).map (.call f) else none)
   else if fn.origin == fn.name || fn.origin == "" then (match externExt fn.name,args c.args.toList with
    | some x,some l=>some (.ext x l)
    | _,_=>none) else none
  | none=>none
 | .value (.tmp t)=>(args c.args.toList).map (.callV (.t t))
 | .builtin .unsafeSliceData =>
  match c.args.toList,c.argTypes.toList with
  | [x],[t]=>if byteSlice P t then (arg x).map fun x=>.ext .sdata [x] else none
  | _,_=>none
 | .builtin .unsafeString =>
  match c.args.toList,c.argTypes.toList with
  | [x,y],[t,_]=>match P.underlying t with
   | some (.pointer e)=>if P.cellsOf e == 1 then (match arg x,arg y with
    | some x,some y=>some (.ext (.ustr e) [x,y])
    | _,_=>none) else none
   | _=>none
  | _,_=>none
 | .builtin .len =>
  match c.args.toList,c.argTypes.toList with
  | [x],[t]=>match P.underlying t with
   | some .string=>(arg x).map .lenS
   | some (.slice _)=>(arg x).map .len
   | _=>none
  | _,_=>none
 | .builtin .min =>
  match c.args.toList with
  | [x,y]=>match arg x,arg y with
   | some x,some y=>some (.mm false x y)
   | _,_=>none
  | _=>none
 | .builtin .max =>
  match c.args.toList with
  | [x,y]=>match arg x,arg y with
   | some x,some y=>some (.mm true x y)
   | _,_=>none
  | _=>none
 | .builtin .append =>
  match c.args.toList,c.argTypes.toList with
  | [s,x],[t,t'] =>
   if t == t' then
    match P.underlying t with
    | some (.slice e)=>match P.info? e,qCb P e,arg s,arg x with
     | some i,some z,some s,some x=>if z.length == i.size && 0<i.size then some (.append e i.size i.bytes z s x) else none
     | _,_,_,_=>none
    | _=>none
   else (match P.underlying t,P.underlying t',arg s,arg x with
    | some (.slice e),some .string,some s,some x=>if byteElem P e then some (.ext (.appStr e) [s,x]) else none
    | _,_,_,_=>none)
  | _,_=>none
 | _=>none
def ekOf (P:Program) (t:TypeId):Option EK :=
 match P.underlying t with
 | some (.int k)=>some (.int k)
 | some .bool=>some .bool
 | some .string=>some .str
 | _=>none
def flatEq (P:Program):Nat→List Field→Option (List EK)
 | _,[]=>some []
 | i,f::fs=>if f.name ≠ "_" ∧ f.offset=i then (match ekOf P f.type,flatEq P (i+1) fs with
  | some k,some r=>some (k::r)
  | _,_=>none) else none
def structEq (P:Program) (t:TypeId) (fs:Array Field):Option (List EK) :=
 if P.stoodInHeld t=false∧P.eqGuardType P.depth t=false then flatEq P 0 fs.toList else none
def qGv (P:Program) (t:TypeId):Bool :=
 match P.underlying t with
 | some (.map k e)=>match P.underlying k,P.underlying e with
  | some .string,some (.int .i64)=>match P.info? e with
   | some i=>match i.zero with
    | some (.int .i64 n)=>decide (n=0)
    | _=>false
   | none=>false
  | _,_=>false
 | _=>false
def loB (raw:Bool) (lo:Option Arg):Option Arg :=
 match raw,lo with
 | true,none=>some (.v (.int .i64 0))
 | _,lo=>lo
def flatZ:List Value→Bool
 | [.int .u8 _]=>true
 | [.int .i64 _]=>true
 | [.int .u32 _]=>true
 | [.int .u64 _]=>true
 | [.int .i32 _]=>true
 | [.bool _]=>true
 | [.string _]=>true
 | [.int .i64 _,.string _,.string _,.bool _,.int .i64 _,.int .i64 _]=>true
 | _=>false
def rawCall:Bool→Pr→Pr
 | true,.call f l=>.callL f l
 | _,p=>p
theorem qFj {raw:Bool} {p q:Pr} (h:rawCall raw p=q) (hq:∀f l,q≠.callL f l):p=q:=by
 cases raw
 ·exact h
 ·cases p <;> first | exact h | exact (hq _ _ h.symm).elim
def prim (P:Program) (raw:Bool) (o:Op):Option Pr :=
 match o with
 | .move x=>(arg x).map .mv
 | .assign x=>(arg x).map .mv
 | .pick c a b=>match arg c,arg a,arg b with
  | some c,some a,some b=>some (.pick c a b)
  | _,_,_=>none
 | .binOp op t x y _=>match arg x,arg y with
  | some x,some y=>match P.underlying t,op with
   | some .bool,.eql=>some (.beq false x y)
   | some .bool,.neq=>some (.beq true x y)
   | some (.map _ _),.eql=>match y with
    | .v (.map none)=>some (.ext (.mnil false) [x])
    | _=>none
   | some (.map _ _),.neq=>match y with
    | .v (.map none)=>some (.ext (.mnil true) [x])
    | _=>none
   | some (.slice _),.eql=>match y with
    | .v (.slice none 0 0)=>some (.ext (.snil false) [x])
    | _=>none
   | some (.slice _),.neq=>match y with
    | .v (.slice none 0 0)=>some (.ext (.snil true) [x])
    | _=>none
   | some (.pointer e),.eql=>if (P.info? e).isSome then some (.ext (.ptrEq false) [x,y]) else none
   | some (.pointer e),.neq=>if (P.info? e).isSome then some (.ext (.ptrEq true) [x,y]) else none
   | some (.struct fs),.eql=>(structEq P t fs).map fun ks=>.ext (.aggEq false ks) [x,y]
   | some (.struct fs),.neq=>(structEq P t fs).map fun ks=>.ext (.aggEq true ks) [x,y]
   | _,_=>some (.bin raw op x y)
  | _,_=>none
 | .unOp op _ x=>(arg x).map (.un op)
 | .convert s d x=>match P.underlying s,P.underlying d,arg x with
  | some (.int _),some (.int k),some x=>some (.conv raw k x)
  | some .string,some .string,some x=>some (.strc x)
  | some (.slice _),some .string,some x=>if byteSlice P s then some (.ext .toStr [x]) else none
  | some (.slice _),some (.slice _),some x=>if byteSlice P s && s == d then some (.ext .fro [x]) else none
  | some (.pointer t),some .unsafePointer,some x=>match P.info? t with
   | some i=>if i.size≠0 then some (.ext .toUns [x]) else none
   | none=>none
  | some .unsafePointer,some (.pointer u),some x=>match P.info? u with
   | some i=>if liesAt P P.depth u (i.size / P.cellsOf u) 0 u 1 then some (.ext (.fromUns u i.size) [x]) else none
   | none=>none
  | _,_,_=>none
 | .nilCheck x=>(arg x).map fun x=>.ext .nilck [x]
 | .makeSlice t l c=>match P.underlying t,arg l,arg c with
  | some (.slice e),some l,some c=>match P.info? e,qCb P e with
   | some i,some z=>if z.length == i.size && 0<i.size then some (.ext (.mkslice e i.size i.bytes z) [l,c]) else none
   | _,_=>none
  | _,_,_=>none
 | .alloc e=>(qCb P e).map (.alloc e)
 | .box e x=>match P.info? e,arg x with
  | some i,some x=>some (.box e i.size x)
  | _,_=>none
 | .build t ps=>match P.underlying t,qCb P t with
  | some (.struct fs),some z=>if fs.toList.all (fun f=>(P.info? f.type).isSome) then (places P fs.toList ps.toList).map (.build z) else none
  | some (.array _ e),some z=>match P.info? e with
   | some i=>(placesA i.size ps.toList).map (.build z)
   | none=>none
  | _,_=>none
 | .buildSlice t n ps=>match P.underlying t with
  | some (.slice e)=>match P.info? e,qCb P e,qC5 ps.toList with
   | some i,some z,some ps=>if z.length == i.size && 0<n*i.size && n*i.size≤16777216 then some (.bslice e i.size n z ps)
    else if z.length == i.size && n == 0 && ps.isEmpty && flatZ z then some (.bslice e i.size 0 z []) else none
   | _,_,_=>none
  | _=>none
 | .load t a=>match a with
  | .global g=>match qDu P t with
   | some none=>some (.ext (.tab g) [])
   | _=>none
  | a=>match qDu P t,arg a with
   | some n,some a=>some (.load n a)
   | _,_=>none
 | .store t a x=>match P.info? t,arg a,arg x with
  | some i,some a,some x=>some (.store i.size a x)
  | _,_,_=>none
 | .fieldAddr t x f=>match P.underlying t,arg x with
  | some (.struct fs),some x=>match fs[f]? with
   | some fd=>match P.info? fd.type with
    | some ti=>if ti.size=0 then none else some (.faddr fd.offset x)
    | none=>none
   | none=>none
  | _,_=>none
 | .field t x f=>match P.underlying t,arg x with
  | some (.struct fs),some x=>match fs[f]? with
   | some fd=>(qDu P fd.type).map fun n=>.field fd.offset n x
   | none=>none
  | _,_=>none
 | .indexAddr t x i=>match P.underlying t,arg x,arg i with
  | some (.slice e),some x,some i=>match P.info? e with
   | some ti=>some (.iaddr ti.size x i)
   | none=>none
  | some (.array n e),some x,some (.v (.int .i64 k))=>match P.info? e with
   | some ti=>if ti.size≠0∧0≤k∧k<n then some (.faddr (k.toNat*ti.size) x) else none
   | none=>none
  | some (.array n e),some x,some (.t j)=>match P.info? e with
   | some ti=>some (.ext (.pidx n ti.size) [x,.t j])
   | none=>none
  | _,_,_=>none
 | .index t x i=>match P.underlying t,arg x,arg i with
  | some .string,some x,some i=>some (.index x i)
  | some (.array n e),some x,some i=>match P.info? e,P.underlying e with
   | some ti,some (.array _ _)=>if ti.size≠0 then some (.ext (.aidx ti.size n) [x,i]) else none
   | _,_=>none
  | _,_,_=>none
 | .slice t x lo hi mx=>match P.underlying t,arg x,oarg lo,oarg hi,mx with
  | some .string,some x,some lo,some hi,none=>some (.sub none x lo hi)
  | some (.slice e),some x,some lo,some hi,none=>match P.info? e with
   | some ti=>some (.sub (some ti.size) x (loB raw lo) hi)
   | none=>none
  | some (.array n e),some x,some none,some none,none=>match P.info? e with
   | some ti=>some (.ext (.asl n ti.size) [x])
   | none=>none
  | _,_,_,_,_=>none
 | .extract x i=>(arg x).map fun x=>.extract x i
 | .panic x=>(arg x).map .panic
 | .makeInterface t x=>match P.underlying t with
  | some (.struct _)=>(arg x).map fun x=>.ext (.mkif t) [x]
  | _=>none
 | .makeFunc fn first captured=>match fn,args (first.toList++captured.toList) with
  | .func f,some l=>some (.ext (.mkfn f first.size) l)
  | _,_=>none
 | .makeMap t r=>match r with
  | none=>if qGv P t then some (.ext .mkmap []) else none
  | some _=>none
 | .lookup t x i ok=>match ok,arg x,arg i with
  | false,some x,some i=>if qGv P t then some (.ext .mget [x,i]) else none
  | _,_,_=>none
 | .mapUpdate t m k v=>match arg m,arg k,arg v with
  | some m,some k,some v=>if qGv P t then some (.ext .mput [m,k,v]) else none
  | _,_,_=>none
 | .call c=>(callPr P c).map (rawCall raw)
 | _=>none
def arithB:BinOp→Bool
 | .add=>true
 | .sub=>true
 | .mul=>true
 | .quo=>true
 | _=>false
def floP (P:Program) (o:Op):Option Pr :=
 match o with
 | .binOp op t x y _=>match arg x,arg y,P.underlying t with
  | some x,some y,some (.float k)=>bif arithB op then some (.floA op k x y) else none
  | _,_,_=>none
 | .convert src dst x=>match arg x,P.underlying src,P.underlying dst with
  | some x,some (.int _),some (.float k)=>some (.floI k x)
  | some x,some (.float s),some (.float k)=>some (.floC s k x)
  | _,_,_=>none
 | _=>none
def qHb (P:Program) (raw:Bool) (o:Op):Pr :=
 match floP P o with
 | some p=>p
 | none=>match prim P raw o with
  | some p=>p
  | none=>.bad
def oper (P:Program) (raws:List Nat) (ops:Array Oper) (o:Oper):Option IOp :=
 match qHb P (match o.dst with | some d=>raws.contains d | none=>false) o.op,o.guard with
 | p,none=>some ⟨o.dst,p,none⟩
 | p,some (j,b)=>match ops[j]? with
  | some q=>match q.dst with
   | some s=>some ⟨o.dst,p,some (s,b)⟩
   | none=>none
  | none=>none
def opers (P:Program) (raws:List Nat) (ops:Array Oper):List Oper→Option (List IOp)
 | []=>some []
 | o::r=>match oper P raws ops o,opers P raws ops r with
  | some x,some s=>some (x::s)
  | _,_=>none
def lastDst:List IOp→Nat
 | []=>0
 | [o]=>o.d.getD 0
 | _::r=>lastDst r
def Ext.static:Ext→Bool
 | .nilck | .aggEq .. | .mnil _ | .snil _ | .mkif _ | .mget | .ptrEq _ | .toUns | .fromUns .. | .noEsc | .sdata | .cmpStr | .idxByte | .f32bits | .aidx .. | .pidx ..=>true
 | _=>false
def qA2:Pr→Bool
 | .bad=>false
 | .floA .. | .floI .. | .floC ..=>false
 | .ext x _=>x.static
 | .alloc .. | .box .. | .bslice .. | .store .. | .append .. | .call .. | .callL .. | .callV .. | .panic .. | .sub (some _) ..=>false
 | _=>true
def loadB:Pr→Bool
 | .load ..=>true
 | .ext .mget _=>true
 | _=>false
def brkB:Pr→Bool
 | .bad=>true
 | .bslice _ _ _ z _=>!flatZ z
 | .floA .. | .floI .. | .floC ..=>true
 | .ext x _=>!x.static
 | .store .. | .append .. | .callL .. | .callV .. | .panic ..=>true
 | _=>false
def subB:Pr→Bool
 | .sub (some _) _ _ _=>true
 | _=>false
def cutB:Pr→Bool
 | .append ..=>false
 | .bslice ..=>false
 | p=>brkB p
def anc (ops:Array Oper):Nat→Nat→Nat→Bool
 | 0,_,_=>false
 | f+1,b,i=>match ops[b]? with
  | some o=>o.after.toList.any fun e=>Region.binds .any e && (e.on == i || anc ops f e.on i)
  | none=>false
def drawAt (ops:Array Oper) (is:List IOp) (L:Array Bool) (k:Nat):Bool :=
 match is[k]? with
 | some o =>
  if qA2 o.p || subB o.p then
   (Region.ready .any ops L).contains k && Region.free .any ops L k &&
    (!loadB o.p || is.zipIdx.all fun (b,j)=>!brkB b.p || anc ops ops.size j k)
  else Region.ready .any ops L == [k] && (brkB o.p || is.zipIdx.all fun (b,j)=>!subB b.p || !L.getD j false)
 | none=>false
def ordD (ops:Array Oper) (is:List IOp):Nat→Array Bool→Option (List Nat)
 | 0,_=>some []
 | f+1,L=>match (Region.ready .any ops L).find? (fun k=>match is[k]? with
   | some o=>qA2 o.p && drawAt ops is L k
   | none=>false) with
  | some k=>(ordD ops is f (L.setIfInBounds k true)).map (k :: ·)
  | none=>match (Region.ready .any ops L).find? (fun k=>match is[k]? with
   | some o=>subB o.p && drawAt ops is L k
   | none=>false) with
  | some k=>(ordD ops is f (L.setIfInBounds k true)).map (k :: ·)
  | none=>match Region.ready .any ops L with
   | [k]=>(ordD ops is f (L.setIfInBounds k true)).map (k :: ·)
   | _=>none
def qFm (ops:Array Oper) (is:List IOp):Array Bool→List Nat→Bool
 | L,[]=>(List.range ops.size).all fun j=>L.getD j false
 | L,k::d=>decide (k<ops.size) && drawAt ops is L k && qFm ops is (L.setIfInBounds k true) d
def drawOK (ops:Array Oper) (is:List IOp) (d:List Nat):Bool:=Region.noSelect ops && qFm ops is (Array.replicate ops.size false) d
def pickO (is:List IOp):List Nat→Option (List IOp)
 | []=>some []
 | k::d=>match is[k]?,pickO is d with
  | some o,some r=>some (o::r)
  | _,_=>none
def drawn (P:Program) (ops:Array Oper) (is:List IOp):Option (List Nat × List IOp) :=
 match ordD ops is ops.size (Array.replicate ops.size false) with
 | some d=>match pickO is d with
  | some l=>if P.follows .mixedOrders && drawOK ops is d then some (d,l) else none
  | none=>none
 | none=>none
inductive KT where
 | fin
 | one (k:Nat) (r:KT)
 | wk (k:Nat) (r:KT)
 | alt (k:Nat) (t r:KT)
 | stop
def KT.ks:KT→List Nat
 | .alt k _ r=>k::r.ks
 | _=>[]
def callB:Pr→Bool
 | .call ..=>true
 | .callL ..=>true
 | .callV ..=>true
 | _=>false
def loadP:Pr→Bool
 | .load ..=>true
 | _=>false
def altOK (ops:Array Oper) (is:List IOp) (L:Array Bool) (k:Nat):Bool :=
 match is[k]? with
 | some o=>!callB o.p && (o.g.isNone || loadP o.p) && (Region.ready .any ops L).contains k && !subB o.p && (brkB o.p || is.zipIdx.all fun (b,j)=>!subB b.p || !L.getD j false)
 | none=>false
def drawWk (ops:Array Oper) (is:List IOp) (L:Array Bool) (k:Nat):Bool :=
 match is[k]? with
 | some o=>loadP o.p && (Region.ready .any ops L).contains k && Region.free .any ops L k && is.zipIdx.all fun (b,j)=>!cutB b.p || anc ops ops.size j k
 | none=>false
def drawT (ops:Array Oper) (is:List IOp):KT→Bool→Array Bool→Bool
 | .fin,m,L=>!m && (List.range ops.size).all fun j=>L.getD j false
 | .one k r,m,L=>!m && decide (k<ops.size) && drawAt ops is L k && drawT ops is r false (L.setIfInBounds k true)
 | .wk k r,m,L=>!m && decide (k<ops.size) && drawWk ops is L k && drawT ops is r false (L.setIfInBounds k true)
 | .alt k t r,m,L=>(m || (Region.ready .any ops L).all fun j=>(k::r.ks).contains j) && decide (k<ops.size) && altOK ops is L k && drawT ops is t false (L.setIfInBounds k true) && drawT ops is r true L
 | .stop,m,_=>m
def ordT (ops:Array Oper) (is:List IOp):Nat→Array Bool→Option KT
 | 0,_=>some .fin
 | f+1,L=>match (Region.ready .any ops L).find? (fun k=>match is[k]? with
   | some o=>qA2 o.p && drawAt ops is L k
   | none=>false) with
  | some k=>(ordT ops is f (L.setIfInBounds k true)).map (.one k)
  | none=>match (Region.ready .any ops L).find? (fun k=>drawWk ops is L k) with
  | some k=>(ordT ops is f (L.setIfInBounds k true)).map (.wk k)
  | none=>match (Region.ready .any ops L).find? (fun k=>match is[k]? with
   | some o=>subB o.p && drawAt ops is L k
   | none=>false) with
  | some k=>(ordT ops is f (L.setIfInBounds k true)).map (.one k)
  | none=>match Region.ready .any ops L with
   | []=>some .fin
   | [k]=>if drawAt ops is L k then (ordT ops is f (L.setIfInBounds k true)).map (.one k) else (ordT ops is f (L.setIfInBounds k true)).map fun t=>.alt k t .stop
   | l=>if 3<l.length || !(l.all fun k=>altOK ops is L k) then none else l.foldr (fun k acc=>match ordT ops is f (L.setIfInBounds k true),acc with
    | some t,some r=>some (.alt k t r)
    | _,_=>none) (some .stop)
def pickT (is:List IOp):KT→Option DT
 | .fin=>some .fin
 | .one k r=>match is[k]?,pickT is r with
  | some o,some r=>some (.one o r)
  | _,_=>none
 | .wk k r=>match is[k]?,pickT is r with
  | some o,some r=>some (.wk o r)
  | _,_=>none
 | .alt k t r=>match is[k]?,pickT is t,pickT is r with
  | some o,some t,some r=>some (.alt o t r)
  | _,_,_=>none
 | .stop=>some .stop
def drawnT (P:Program) (ops:Array Oper) (is:List IOp):Option DT :=
 match ordT ops is ops.size (Array.replicate ops.size false) with
 | some t=>match pickT is t with
  | some l=>if P.follows .mixedOrders && (Region.noSelect ops && drawT ops is t false (Array.replicate ops.size false)) then some l else none
  | none=>none
 | none=>none
def lastV:List Nat→List IOp→Option (List Nat × Nat × List IOp × IOp)
 | k::d,o::l=>match d with
  | []=>match l,o.p,o.g with
   | [],.callV _ _,none=>some ([],k,[],o)
   | _,_,_=>none
  | _::_=>match lastV d l with
   | some x=>some (k::x.1,x.2.1,o::x.2.2.1,x.2.2.2)
   | none=>none
 | _,_=>none
theorem lastV_spec:∀ {d:List Nat} {l:List IOp} {x:List Nat × Nat × List IOp × IOp},lastV d l=some x→d=x.1++[x.2.1]∧l=x.2.2.1++[x.2.2.2]∧x.2.2.2.g=none∧∃y ys,x.2.2.2.p=.callV y ys
 | k::d,o::l,x,h=>by
  unfold lastV at h;split at h
  ·split at h
   ·rename_i y ys hp hg;cases h;exact ⟨rfl,rfl,hg,_,_,hp⟩
   ·cases h
  ·split at h
   ·rename_i d' y hx;obtain ⟨h1,h2,h3,h4⟩:=lastV_spec hx;cases h;exact ⟨by rw [h1]; rfl,by rw [h2]; rfl,h3,h4⟩
   ·cases h
 | [],_,x,h=>by simp [lastV] at h
 | _::_,[],x,h=>by simp [lastV] at h
theorem pickO_app {is:List IOp}:∀ {d d2:List Nat} {l l2:List IOp},d.length=l.length→pickO is (d++d2)=some (l++l2)→pickO is d=some l∧pickO is d2=some l2
 | [],d2,[],l2,_,h=>⟨rfl,h⟩
 | k::d,d2,o::l,l2,hl,h=>by
  simp only [List.cons_append,pickO] at h;split at h
  ·rename_i o' r h1 h2;simp only [snJ,List.cons.injEq] at h;obtain ⟨rfl,rfl⟩:=h;obtain ⟨h3,h4⟩:=pickO_app (by simpa using hl) h2;exact ⟨by simp only [pickO,h1,h3],h4⟩
  ·cases h
 | [],_,_::_,_,hl,_=>by simp at hl
 | _::_,_,[],_,hl,_=>by simp at hl
theorem pickO_len {is:List IOp}:∀ {d:List Nat} {l:List IOp},pickO is d=some l→d.length=l.length
 | [],l,h=>by
  simp only [pickO,snJ] at h;subst h;rfl
 | k::d,l,h=>by
  simp only [pickO] at h;split at h
  ·rename_i o' r h1 h2;simp only [snJ] at h;subst h;simp [pickO_len h2]
  ·cases h
def comp (P:Program) (raws:List Nat):Code→Option IC
 | .skip=>some .skip
 | .label _=>some .skip
 | .region _ ops draw=>match opers P raws ops ops.toList with
  | some is=>if draw then (match drawn P ops is with
   | some dl=>match lastV dl.1 dl.2 with
    | some x=>some (.regL (lastDst is) x.1 x.2.1 x.2.2.1 x.2.2.2)
    | none=>some (.reg (lastDst is) (some dl.1) dl.2)
   | none=>match drawnT P ops is with
    | some t=>some (.regT (lastDst is) t)
    | none=>some .bad) else some (.reg (lastDst is) none is)
  | none=>some .bad
 | .seq a b=>match comp P raws a,comp P raws b with
  | some x,some y=>some (.seq x y)
  | _,_=>none
 | .cond c a b=>match arg c,comp P raws a,comp P raws b with
  | some c,some x,some y=>some (.cond c x y)
  | _,_,_=>some .bad
 | .block id b=>(comp P raws b).map (.block id)
 | .loop b=>(comp P raws b).map .loop
 | .exit id=>some (.exit id)
 | .ret=>some .ret
 | _=>some .bad
inductive RV where
 | tmp (t:Nat)
 | cell (a:Nat) (n:Option Nat)
def rvs (P:Program):List ResultVar→Option (List RV)
 | []=>some []
 | .tmp t::r=>match rvs P r with
  | some s=>some (.tmp t::s)
  | none=>none
 | .cell a t::r=>match qDu P t,rvs P r with
  | some n,some s=>some (.cell a n::s)
  | _,_=>none
end Go.Eng
namespace Go.Eng
structure Node where
 kind:Int
 key:BA
 text:BA
 whole:Bool
 int:Int
 kids:Int
inductive QK where
 | str | node
 deriving DecidableEq
@[reducible] def QK.T:QK→Type
 | .str=>BA
 | .node=>Node
inductive NK where
 | int (k:IntKind)
 | bool
 | str
 | map
 | rw (q:QK)
 deriving DecidableEq
abbrev MapC:=Option (List (BA × Int))
@[reducible] def NK.T:NK→Type
 | .int _=>Int
 | .bool=>Bool
 | .str=>BA
 | .map=>MapC
 | .rw q=>List q.T
@[reducible] def NT:List NK→Type
 | []=>Unit
 | k::r=>k.T × NT r
def NK.dft:(k:NK)→k.T
 | .int _=>(0:Int)
 | .bool=>false
 | .str=>ByteArray.empty
 | .map=>(none:MapC)
 | .rw q=>([]:List q.T)
def NT.dft:(ks:List NK)→NT ks
 | []=>()
 | k::r=>(k.dft,NT.dft r)
def mfind:List (BA × Int)→BA→Option Int
 | [],_=>none
 | x::r,s=>bif decide (s=x.1) then some x.2 else mfind r s
def mset:List (BA × Int)→BA→Int→List (BA × Int)
 | [],s,v=>[(s,v)]
 | x::r,s,v=>bif decide (s=x.1) then (s,v)::r else x::mset r s v
def mget (m:MapC) (s:BA):Int :=
 match m with
 | some l=>(mfind l s).getD 0
 | none=>0
def mput (m:MapC) (s:BA) (v:Int):MapC:=m.map fun l=>mset l s v
inductive ET where
 | u8 | i64 | u32 | u64 | i32 | bl | str | node | tm | tag
 | mp
 | bag (ks:List NK)
 deriving DecidableEq
structure Tm where
 has:Bool
 at_:Int
structure Tag where
 text:BA
 num:Int
@[reducible] def ET.T:ET→Type
 | .u8=>Int | .i64=>Int | .u32=>Int | .u64=>Int | .i32=>Int
 | .bl=>Bool
 | .str=>BA
 | .node=>Node
 | .tm=>Tm
 | .tag=>Tag
 | .mp=>MapC
 | .bag ks=>NT ks
def ET.enc:(t:ET)→t.T→List Value
 | .u8,x=>[.int .u8 x]
 | .i64,x=>[.int .i64 x]
 | .u32,x=>[.int .u32 x]
 | .u64,x=>[.int .u64 x]
 | .i32,x=>[.int .i32 x]
 | .bl,x=>[.bool x]
 | .str,x=>[.string x]
 | .node,(x:Node)=>[.int .i64 x.kind,.string x.key,.string x.text,.bool x.whole,.int .i64 x.int,.int .i64 x.kids]
 | .tm,(x:Tm)=>[.bool x.has,.int .i64 x.at_]
 | .tag,(x:Tag)=>[.string x.text,.int .i64 x.num]
 | .mp,_=>[.nilIface]
 | .bag ks,_=>List.replicate (ks.length+1) .nilIface
def ET.sz:ET→Nat
 | .node=>6
 | .tm=>2
 | .tag=>2
 | .bag ks=>ks.length+1
 | _=>1
def ET.dec:(t:ET)→List Value→Option t.T
 | .u8,[.int .u8 x]=>some x
 | .i64,[.int .i64 x]=>some x
 | .u32,[.int .u32 x]=>some x
 | .u64,[.int .u64 x]=>some x
 | .i32,[.int .i32 x]=>some x
 | .bl,[.bool x]=>some x
 | .str,[.string x]=>some x
 | .node,[.int .i64 a,.string b,.string c,.bool d,.int .i64 e,.int .i64 f]=>some (⟨a,b,c,d,e,f⟩:Node)
 | .tm,[.bool a,.int .i64 b]=>some (⟨a,b⟩:Tm)
 | .tag,[.string a,.int .i64 b]=>some (⟨a,b⟩:Tag)
 | _,_=>none
def ET.dft:(t:ET)→t.T
 | .u8=>(0:Int) | .i64=>(0:Int) | .u32=>(0:Int) | .u64=>(0:Int) | .i32=>(0:Int)
 | .bl=>false
 | .str=>ByteArray.empty
 | .node=>(⟨0,.empty,.empty,false,0,0⟩:Node)
 | .tm=>(⟨false,0⟩:Tm)
 | .tag=>(⟨.empty,0⟩:Tag)
 | .mp=>(none:MapC)
 | .bag ks=>NT.dft ks
def QK.et:QK→ET
 | .str=>.str
 | .node=>.node
def QK.l:(q:QK)→List q.T→List (q.et).T
 | .str,l=>l
 | .node,l=>l
theorem ET.enc_dec {t:ET} {l:List Value} {x:t.T} (h:t.dec l=some x):t.enc x=l:=by
 unfold ET.dec at h;split at h <;> first | (cases h; rfl) | (cases h)
theorem ET.enc_len (t:ET) (x:t.T):(t.enc x).length=t.sz:=by
 cases t with
 | bag ks=>exact List.length_replicate
 | _=>all_goals rfl
theorem ET.enc_one (t:ET) (x:t.T):∀v∈t.enc x,v.oneCell'=true:=by
 cases t with
 | bag ks =>
  intro v hv;obtain ⟨_,rfl⟩:=List.mem_replicate.1 hv;rfl
 | mp =>
  intro v hv;obtain rfl:=List.mem_singleton.1 hv;rfl
 | _=>all_goals simp [ET.enc,Value.oneCell']
theorem ET.sz_pos (t:ET):0<t.sz:=by
 cases t with
 | bag ks=>exact Nat.succ_pos _
 | _=>all_goals decide
def TabAt (X:Nat→Prop) (w:World) (t:ET) (v:Value) (l:List t.T):Prop :=
 ∃a cap,v=.slice a l.length cap∧l.length≤cap∧∀j u,(l.flatMap t.enc)[j]?=some u→∃ad,a=some ad∧w.cell? (ad.add j)=some u∧ad.block<w.heap.size∧¬X ad.block
abbrev TabE:Type:=(t:ET) × List t.T
open Go.Proofs
set_option linter.unusedVariables false
def kwT:List BA:=[⟨#[97,110,100]⟩,⟨#[111,114]⟩,⟨#[110,111,116]⟩,⟨#[104,97,115]⟩,⟨#[99,111,110,116,97,105,110,115]⟩,⟨#[116,114,117,101]⟩,⟨#[102,97,108,115,101]⟩,⟨#[110,117,108,108]⟩]
def opT:List Tag:=[⟨⟨#[33,61]⟩,6⟩,⟨⟨#[60,61]⟩,8⟩,⟨⟨#[62,61]⟩,10⟩,⟨⟨#[61]⟩,5⟩,⟨⟨#[60]⟩,7⟩,⟨⟨#[62]⟩,9⟩]
def TabIn (X:Nat→Prop) (w:World) (g:Nat) (t:ET) (l:List t.T):Prop:=∃v,w.cell? ⟨g,0,none⟩=some v∧g<w.heap.size∧¬X g∧TabAt X w t v l
theorem here_of {w0 w:World} {k:Nat} (hk:k<w0.heap.size) (h:w.heap[k]?=w0.heap[k]?):k<w.heap.size:=by
 rcases Nat.lt_or_ge k w.heap.size with h' | h'
 ·exact h'
 ·rw [Array.getElem?_eq_none h',Array.getElem?_eq_getElem hk] at h;cases h
theorem TabIn.stable {X X':Nat→Prop} {w0 w:World} {g:Nat} {t:ET} {l:List t.T} (h:TabIn X w0 g t l) (hb:∀k,k<w0.heap.size→¬X k→w.heap[k]?=w0.heap[k]?) (hX:∀k,k<w0.heap.size→X' k→X k):TabIn X' w g t l:=by
 obtain ⟨v,h1,h2,h3,a,cap,h4,h5,h6⟩:=h;have hcell:∀a:Addr,a.block<w0.heap.size→¬X a.block→w.cell? a=w0.cell? a:=fun a h1 h2=>by
  unfold World.cell?;rw [hb _ h1 h2]
 refine ⟨v,(hcell ⟨g,0,none⟩ h2 h3).trans h1,here_of h2 (hb _ h2 h3),fun h=>h3 (hX _ h2 h),a,cap,h4,h5,fun j u hu=>?_⟩;obtain ⟨ad,e1,e2,e3,e4⟩:=h6 j u hu;have hbl:(ad.add j).block=ad.block:=by unfold Addr.add; split <;> rfl
 exact ⟨ad,e1,(hcell _ (by rw [hbl]; exact e3) (by rw [hbl]; exact e4)).trans e2,here_of e3 (hb _ e3 e4),fun h=>e4 (hX _ e3 h)⟩
def utfOK (X:Nat→Prop) (w:World):Prop :=
 ((∀c,c<256→w.cell? ⟨3,c,none⟩=some (.int .u8 (Lib.firstT c))) ∧
  (∀i,i<16→w.cell? ⟨4,2*i,none⟩=some (.int .u8 (Lib.accLo i))∧w.cell? ⟨4,2*i+1,none⟩=some (.int .u8 (Lib.accHi i)))) ∧
 ¬X 3∧¬X 4
def qFv (X:Nat→Prop) (w:World):Prop :=
 ((∀c,c<256→w.cell? ⟨3,c,none⟩=some (.int .u8 (Lib.firstT c))) ∧
  (∀i,i<16→w.cell? ⟨4,2*i,none⟩=some (.int .u8 (Lib.accLo i))∧w.cell? ⟨4,2*i+1,none⟩=some (.int .u8 (Lib.accHi i)))) ∧
 (¬X 3∧¬X 4)∧TabIn X w 2 .str kwT∧TabIn X w 0 .tag opT
theorem cell_heap {w:World} {a:Addr} {v:Value} (h:w.cell? a=some v):a.block<w.heap.size:=by
 rcases Nat.lt_or_ge a.block w.heap.size with h' | h'
 ·exact h'
 ·unfold World.cell? at h;simp [Array.getElem?_eq_none h'] at h
theorem cell_same {w w':World} {a:Addr} (h:w'.heap[a.block]?=w.heap[a.block]?):w'.cell? a=w.cell? a:=by
 unfold World.cell?;rw [h]
theorem utf_stable {X X':Nat→Prop} {w0 w:World} (h:utfOK X w0) (hb:∀k,k<w0.heap.size→¬X k→w.heap[k]?=w0.heap[k]?) (hX:∀k,k<w0.heap.size→X' k→X k):utfOK X' w:=by
 obtain ⟨⟨h1,h2⟩,h3,h4⟩:=h;have l1:=cell_heap (h1 0 (by omega));have l2:=cell_heap (h2 0 (by omega)).1;refine ⟨⟨fun c hc=>?_,fun i hi=>⟨?_,?_⟩⟩,fun h=>h3 (hX _ l1 h),fun h=>h4 (hX _ l2 h)⟩
 ·exact (cell_same (a:=⟨3,c,none⟩) (hb _ l1 h3)).trans (h1 c hc)
 ·exact (cell_same (a:=⟨4,2*i,none⟩) (hb _ l2 h4)).trans (h2 i hi).1
 ·exact (cell_same (a:=⟨4,2*i+1,none⟩) (hb _ l2 h4)).trans (h2 i hi).2
theorem tab_stable {X X':Nat→Prop} {w0 w:World} (h:qFv X w0) (hb:∀k,k<w0.heap.size→¬X k→w.heap[k]?=w0.heap[k]?) (hX:∀k,k<w0.heap.size→X' k→X k):qFv X' w:=by
 obtain ⟨h0,h1,h2,h3⟩:=h;have h4:=utf_stable ⟨h0,h1⟩ hb hX;exact ⟨h4.1,h4.2,h2.stable hb hX,h3.stable hb hX⟩
def tabV (g:Nat):Option TabE:=bif Nat.beq g 2 then some ⟨.str,kwT⟩ else bif Nat.beq g 0 then some ⟨.tag,opT⟩ else none
theorem tabV_ok {X:Nat→Prop} {w:World} (h:qFv X w) {g:Nat} {t:ET} {l:List t.T} (hg:tabV g=some ⟨t,l⟩):∃v,w.cell? ⟨g,0,none⟩=some v∧g<w.heap.size∧¬X g∧TabAt X w t v l:=by
 unfold tabV at hg;cases h1:Nat.beq g 2 with
 | true =>
  rw [h1] at hg;cases hg;rw [Nat.eq_of_beq_eq_true h1];exact h.2.2.1
 | false =>
  rw [h1] at hg;cases h2:Nat.beq g 0 with
  | true =>
   rw [h2] at hg;cases hg;rw [Nat.eq_of_beq_eq_true h2];exact h.2.2.2
  | false=>rw [h2] at hg; cases hg
end Go.Eng
