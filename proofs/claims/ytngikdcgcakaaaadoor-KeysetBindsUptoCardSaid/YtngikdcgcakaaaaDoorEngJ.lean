import Derived.Test.YtngikdcgcakaaaaDoorEngZ
set_option linter.unusedSimpArgs false
set_option linter.unusedVariables false
namespace Go.Eng
abbrev GL:=List (Nat × Bool)
structure QS where
 sl:List (Nat × GL × SV)
 kn:GL
 hp:List SB
noncomputable def gd{R:Type}(p:Prop)(k:Option R):Option R:=@ite _ p (Classical.propDecidable p) k none
noncomputable def gds{R:Type}:List Prop->Option R->Option R
 | [],k=>k
 | p::r,k=>gd p (gds r k)
theorem gd_some{R:Type}{p:Prop}{k:Option R}{r:R}:gd p k=some r↔p/\k=some r:=by
 unfold gd;by_cases h:p
 ·simp[h]
 ·simp[h]
theorem qAa{R:Type}{p:Prop}(h:p)(k:Option R):gd p k=k:=by unfold gd;simp[h]
theorem qA7{R:Type}{k:Option R}{r:R}:∀ {ps:List Prop},gds ps k=some r↔AllP ps/\k=some r
 | []=>by simp[gds,AllP]
 | p::ps=>by simp only[gds,gd_some,qA7 (ps:=ps),AllP,and_assoc]
def bq:Bool->Bool->Bool
 | true,y=>y
 | false,y=>bif y then false else true
theorem bq_iff{x y:Bool}:bq x y=true↔x=y:=by cases x <;> cases y <;> simp[bq]
def getQ:List (Nat × GL × SV)->Nat->Option (GL × SV)
 | [],_=>none
 | (j,e)::r,i=>bif Nat.beq j i then some e else getQ r i
def memG(g:Nat × Bool):GL->Bool
 | []=>false
 | h::r=>bif(bif Nat.beq g.1 h.1 then bq g.2 h.2 else false) then true else memG g r
def subG(A B:GL):GL->Bool
 | []=>true
 | g::r=>bif memG g A then subG A B r else(bif memG g B then subG A B r else false)
def ment(d:Nat):GL->Bool
 | []=>false
 | g::r=>bif Nat.beq g.1 d then true else ment d r
def dropG(d:Nat):List (Nat × GL × SV)->List (Nat × GL × SV)
 | []=>[]
 | x::r=>bif ment d x.2.1 then dropG d r else x::dropG d r
def delS(d:Nat):List (Nat × GL × SV)->List (Nat × GL × SV)
 | []=>[]
 | x::r=>bif Nat.beq x.1 d then delS d r else x::delS d r
def delK(d:Nat):GL->GL
 | []=>[]
 | x::r=>bif Nat.beq x.1 d then delK d r else x::delK d r
def hasS(i:Nat):List (Nat × GL × SV)->Bool
 | []=>false
 | (j,_)::r=>bif Nat.beq j i then true else hasS i r
def repS:List (Nat × GL × SV)->Nat->GL × SV->List (Nat × GL × SV)
 | [],_,_=>[]
 | (j,x)::r,i,e=>bif Nat.beq j i then(i,e)::repS r i e else(j,x)::repS r i e
def putS(l:List (Nat × GL × SV))(i:Nat)(e:GL × SV):List (Nat × GL × SV):=bif hasS i l then repS l i e else l++[(i,e)]
def putL(nv:Nat)(l:List (Nat × GL × SV))(i:Nat)(e:GL × SV):List (Nat × GL × SV) :=
 bif Nat.blt i nv then putS l i e else(i,e)::delS i l
def putQ(nv:Nat)(S:QS)(d:Option Nat)(A:GL)(v:SV)(hp:List SB):QS :=
 match d with
 | some d=>⟨putL nv (dropG d S.sl) d (A,v),delK d S.kn,hp⟩
 | none=>⟨S.sl,S.kn,hp⟩
def forgetQ(S:QS)(d:Option Nat):QS :=
 match d with
 | some d=>⟨delS d (dropG d S.sl),delK d S.kn,S.hp⟩
 | none=>S
def dstQ(nt:Nat)(A:GL):Option Nat->Bool
 | some d=>bif Nat.blt d nt then(bif ment d A then false else true) else false
 | none=>true
def qBh(nv last:Nat):List (Nat × GL × SV)->List (Nat × GL × SV)
 | []=>[]
 | (j,G,v)::r=>bif(bif Nat.blt j nv then true else Nat.beq j last) then(match G with
  | []=>(j,G,v)::qBh nv last r
  | _::_=>qBh nv last r) else qBh nv last r
def argQ(S:QS)(A:GL):Arg->Option SV
 | .v x=>some (.c (.o (.val x)))
 | .t i=>match getQ S.sl i with
  | some (G,v)=>bif subG A S.kn G then some v else none
  | none=>none
def rv1(ps:List Prop)(v:Value):RQ:=.still ps (.c (.o (.val v)))
def fitQ(raw:Bool)(k:IntKind)(x:Int):RQ :=
 match k with
 | .i64=>bif raw then rv1 [] (.int .i64 (w64 x)) else rv1 [qAd x] (.int .i64 x)
 | .i32=>bif raw then rv1 [] (.int .i32 (w32 x)) else rv1 [InI32 x] (.int .i32 x)
 | .u8=>rv1 [] (.int .u8 (x % 256))
 | .u32=>rv1 [] (.int .u32 (x % 4294967296))
 | .u64=>rv1 [] (.int .u64 (x % 18446744073709551616))
 | _=>.no
def quotQ(raw:Bool)(k:IntKind)(x y:Int):RQ :=
 match k with
 | .i64=>bif raw then rv1 [y≠0/\qAd (x.tdiv y)] (.int .i64 (x.tdiv y)) else rv1 [0<=x/\x<=9223372036854775807/\1<=y] (.int .i64 (x / y))
 | .u8=>rv1 [0<=x/\x<=255/\1<=y] (.int .u8 (x / y))
 | .u32=>rv1 [0<=x/\x<=4294967295/\1<=y] (.int .u32 (x / y))
 | .u64=>rv1 [0<=x/\x<=18446744073709551615/\1<=y] (.int .u64 (x / y))
 | _=>.no
def remdQ(raw:Bool)(k:IntKind)(x y:Int):RQ :=
 bif raw then rv1 [y≠0] (.int k (x.tmod y)) else rv1 [0<=x/\1<=y] (.int k (x % y))
def binQ(raw:Bool)(op:BinOp):Value->Value->RQ
 | .int k x,.int k' y =>
  match op with
  | .shl=>match fitQ raw k (x*2 ^ (min y.toNat k.bits)) with
   | .still ps v=>.still ((0<=y)::ps) v
   | _=>.no
  | .shr=>rv1 [0<=y] (.int k (x / 2 ^ (min y.toNat k.bits)))
  | _ =>
   bif decide (k=k') then
    match op with
    | .add=>fitQ raw k (x+y)
    | .sub=>fitQ raw k (x - y)
    | .mul=>fitQ raw k (x*y)
    | .quo=>quotQ raw k x y
    | .rem=>remdQ raw k x y
    | .and=>rv1 [] (.int k (bitAnd k x y))
    | .or=>rv1 [] (.int k (bitOr k x y))
    | .xor=>rv1 [] (.int k (bitXor k x y))
    | .andNot=>rv1 [] (.int k (bitNot k x y))
    | .eql=>rv1 [] (.bool (decide (x=y)))
    | .neq=>rv1 [] (.bool (!decide (x=y)))
    | .lss=>rv1 [] (.bool (decide (x<y)))
    | .leq=>rv1 [] (.bool (decide (x<=y)))
    | .gtr=>rv1 [] (.bool (decide (y<x)))
    | .geq=>rv1 [] (.bool (decide (y<=x)))
    | _=>.no
   else .no
 | .string x,.string y =>
  match op with
  | .add=>rv1 [x.size+y.size<=9223372036854775807] (.string (x++y))
  | .eql=>rv1 [] (.bool (decide (x=y)))
  | .neq=>rv1 [] (.bool (!decide (x=y)))
  | .lss=>rv1 [] (.bool (sLt x y))
  | .leq=>rv1 [] (.bool (sLt x y || decide (x=y)))
  | .gtr=>rv1 [] (.bool (!(sLt x y || decide (x=y))))
  | .geq=>rv1 [] (.bool (!sLt x y))
  | _=>.no
 | _,_=>.no
def mmQ(mx:Bool):Value->Value->RQ
 | .int k x,.int _ y=>rv1 [] (.int k (bif mx then(if y > x then y else x) else(if y<x then y else x)))
 | _,_=>.no
def beqQ(neg:Bool):Value->Value->RQ
 | .bool a,.bool b=>rv1 [] (.bool (bif neg then !(a == b) else(a == b)))
 | _,_=>.no
def unQ(op:UnOp):Value->RQ
 | .int k x=>match op with
  | .neg=>fitQ false k (0 - x)
  | .xor=>rv1 [] (.int k (bitXor k (if k.signed then -1 else k.max) x))
  | _=>.no
 | .bool b=>match op with
  | .not=>rv1 [] (.bool (!b))
  | _=>.no
 | _=>.no
def boundQ(S:QS)(A:GL)(d:Int):Option Arg->Option Int
 | none=>some d
 | some x=>match argQ S A x with
  | some (.c (.o (.val (.int _ n))))=>some n
  | _=>none
def loadQ(hp:List SB)(n:Option Nat):S0->RQ
 | .hd h off=>match hp[h]? with
  | some (.cells _ l)=>qCh l off n
  | _=>.no
 | .el h i sz off=>match hp[h]? with
  | some (.row t _ l)=>bif Nat.beq sz t.sz then qCq t l i off n else .no
  | some (.view t l)=>bif Nat.beq sz t.sz then qCq t l i off n else .no
  | some (.vrow t l)=>bif Nat.beq sz t.sz then qCq t l i off n else .no
  | some (.srow _ s _ l)=>srowLoadQ s l n i sz off
  | some .dead=>ghoLoadQ hp n h i sz off
  | _=>.no
 | x=>bagLoadQ hp n x
def storeQ(hp:List SB)(n:Nat)(x:List S0):S0->RQ
 | .hd h off=>match hp[h]? with
  | some (.cells e l)=>bif(bif Nat.beq x.length n then(bif Nat.ble (off+n) l.length then allOneB x else false) else false) then .ok [] (.c (.o (.val undef))) (hp.set h (.cells e (setL l off x))) else .no
  | _=>.no
 | .el h i sz off=>match hp[h]? with
  | some (.row t e l)=>bif(bif Nat.beq sz t.sz then(bif Nat.beq x.length n then Nat.ble (off+n) t.sz else false) else false) then
    (match vals (setL ((t.enc (l.getD i t.dft)).map S0.val) off x) with
    | some vs=>match t.dec vs with
     | some y=>.ok [i<l.length] (.c (.o (.val undef))) (hp.set h (.row t e (l.set i y)))
     | none=>.no
    | none=>.no) else .no
  | _=>.no
 | d=>bagStoreQ hp n x d
def faddrQ(hp:List SB)(off:Nat):S0->RQ
 | .hd h o=>match hp[h]? with
  | some (.cells _ _)=>.still [] (.c (.o (.hd h (o+off))))
  | _=>.no
 | .el h i sz o=>match hp[h]? with
  | some (.row _ _ l)=>.still [i<l.length] (.c (.o (.el h i sz (o+off))))
  | some (.view _ l)=>.still [i<l.length] (.c (.o (.el h i sz (o+off))))
  | some (.srow _ s n _)=>srowFaddrQ s n off h i sz o
  | some .dead=>ghoFaddrQ hp off h i sz o
  | _=>.no
 | x=>bagFaddrQ hp off x
def iaddrQ(hp:List SB)(sz:Nat)(x:S0)(i:Int):RQ :=
 match x with
 | .own h=>match hp[h]? with
  | some (.row t _ l)=>bif Nat.beq sz t.sz then .still [0<=i/\i<l.length] (.c (.o (.el h i.toNat sz 0))) else .no
  | some (.view t l)=>bif Nat.beq sz t.sz then .still [0<=i/\i<l.length] (.c (.o (.el h i.toNat sz 0))) else .no
  | some (.part k lo n s)=>bif(bif Nat.beq sz s then Nat.blt (bif Nat.beq s 0 then hp.length else k) hp.length else false) then .still [0<=i/\i<n] (.c (.o (.el k (lo+i.toNat) sz 0))) else .no
  | some (.slc k n s)=>bif(bif Nat.beq sz s then Nat.blt k hp.length else false) then .still [0<=i/\i<n] (.c (.o (.hd k (i.toNat*sz)))) else .no
  | some (.vrow t l)=>bif Nat.beq sz t.sz then .still [0<=i/\i<l.length] (.c (.o (.el h i.toNat sz 0))) else .no
  | some (.srow _ s n _)=>srowIaddrQ s n sz h i
  | some .dead=>ghoIaddrQ hp sz h i
  | _=>.no
 | x=>bagIaddrQ hp sz x i
def subQ(hp:List SB)(sz:Nat)(x:S0)(lo:Option Int)(hi:Int):RQ :=
 match x with
 | .own h=>match hp[h]? with
  | some (.row t e l)=>bif Nat.beq sz t.sz then(match lo with
   | none=>.ok [0<=hi/\hi<=l.length] (.c (.o (.own hp.length))) (hp.set h .dead++[.row t e (l.take hi.toNat)])
   | some lo=>.ok [0<=lo/\lo<=hi/\hi<=l.length] (.c (.o (.own hp.length))) (hp++[.part h lo.toNat (hi.toNat - lo.toNat) sz])) else .no
  | some (.part k lo0 _ s)=>match baseLen hp k with
   | some (m,z)=>bif(bif Nat.beq sz s then Nat.beq sz z else false) then .ok [0<=lo.getD 0/\lo.getD 0<=hi/\lo0+hi<=m] (.c (.o (.own hp.length))) (hp++[.part k (lo0+(lo.getD 0).toNat) (hi.toNat - (lo.getD 0).toNat) sz]) else .no
   | none=>.no
  | some (.view t l)=>bif Nat.beq sz t.sz then(match lo with
   | none=>.ok [0<=hi/\hi<=l.length] (.c (.o (.own hp.length))) (hp++[.view t (l.take hi.toNat)])
   | some lo=>.ok [0<=lo/\lo<=hi/\hi<=l.length] (.c (.o (.own hp.length))) (hp++[.view t ((l.take hi.toNat).drop lo.toNat)])) else .no
  | some (.vrow t l)=>bif Nat.beq sz t.sz then(match lo with
   | none=>.ok [0<=hi/\hi<=l.length] (.c (.o (.own hp.length))) (hp.set h .dead++[.vrow t (l.take hi.toNat)])
   | some _=>.no) else .no
  | _=>.no
 | x=>bagSubQ hp sz x lo hi
def apartQ:S0->S0->Bool
 | .own h,.own h'=>bif Nat.beq h h' then false else true
 | _,_=>true
def appendQ(hp:List SB)(e sz bytes:Nat)(zero:List Value)(s x:S0):RQ :=
 bif apartQ s x then
  (match s with
  | .val (.slice none 0 0)=>match etOf zero with
   | some t=>bif Nat.beq sz t.sz then(match srcL hp t x with
    | some m=>.ok (srcO hp x++[m.length<=9223372036854775807/\m.length*bytes<=140737488355328]) (.c (.o (.own hp.length))) (hp++[.row t e m])
    | none=>.no) else .no
   | none=>qDo hp e sz bytes (.val (.slice none 0 0)) x
  | .own h=>match hp[h]? with
   | some (.row t e' l)=>bif(bif Nat.beq sz t.sz then Nat.beq e e' else false) then(match srcL hp t x with
    | some m=>.ok (srcO hp x++[l.length+m.length<=9223372036854775807/\(l.length+m.length)*bytes<=140737488355328]) (.c (.o (.own hp.length))) (hp.set h .dead++[.row t e (l++m)])
    | none=>.no) else .no
   | some (.srow ..)=>qDo hp e sz bytes (.own h) x
   | _=>.no
  | s=>qDo hp e sz bytes s x)
 else .no
def fieldQ(l:List S0)(off:Nat):Option Nat->RQ
 | none=>match l[off]? with
  | some y=>.still [] (.c (.o y))
  | none=>.no
 | some m=>bif Nat.ble (off+m) l.length then .still [] (.c (.agg (qBg l off m))) else .no
def fillQ(S:QS)(A:GL):List (Nat × Nat × Arg)->List S0->Option (List S0)
 | [],l=>some l
 | (off,sz,x)::r,l=>match argQ S A x with
  | some v=>match v.cells with
   | some cs=>bif(bif Nat.beq cs.length sz then Nat.ble (off+sz) l.length else false) then fillQ S A r (setL l off cs) else none
   | none=>none
  | none=>none
def argsQ(S:QS)(A:GL):List Arg->Option (List SV)
 | []=>some []
 | x::r=>match argQ S A x,argsQ S A r with
  | some v,some l=>some (v::l)
  | _,_=>none
def gone(S:QS):Arg->Bool
 | .t k=>(getQ S.sl k).isNone
 | .v _=>false
def primQ(S:QS)(A:GL):Pr->RQ
 | .floA ..=>.no
 | .floI ..=>.no
 | .floC ..=>.no
 | .bad=>.no
 | .ext x xs=>match argsQ S A xs with
  | some l=>extQ S.hp x l
  | none=>.no
 | .mv x=>match argQ S A x with
  | some v=>.still [] v
  | none=>.no
 | .strc x=>match argQ S A x with
  | some (.c (.o (.val (.string s))))=>rv1 [] (.string s)
  | _=>.no
 | .pick (.t j) a b=>match argQ S A (.t j) with
  | some (.c (.o (.val (.bool cb)))) =>
   match argQ S ((j,true)::A) a,argQ S ((j,false)::A) b with
   | some (.c (.o (.val (.bool x)))),some (.c (.o (.val (.bool y))))=>rv1 [] (.bool (bif cb then x else y))
   | some (.c (.o (.val (.bool x)))),none=>bif(bif memG (j,true) S.kn then gone S b else false) then rv1 [] (.bool x) else .no
   | none,some (.c (.o (.val (.bool y))))=>bif(bif memG (j,false) S.kn then gone S a else false) then rv1 [] (.bool y) else .no
   | _,_=>.no
  | _=>.no
 | .pick _ _ _=>.no
 | .bin raw op x y=>match argQ S A x,argQ S A y with
  | some (.c (.o (.val a))),some (.c (.o (.val b)))=>binQ raw op a b
  | _,_=>.no
 | .un op x=>match argQ S A x with
  | some (.c (.o (.val a)))=>unQ op a
  | _=>.no
 | .mm mx x y=>match argQ S A x,argQ S A y with
  | some (.c (.o (.val a))),some (.c (.o (.val b)))=>mmQ mx a b
  | _,_=>.no
 | .beq neg x y=>match argQ S A x,argQ S A y with
  | some (.c (.o (.val a))),some (.c (.o (.val b)))=>beqQ neg a b
  | _,_=>.no
 | .conv raw k x=>match argQ S A x with
  | some (.c (.o (.val (.int _ n))))=>fitQ raw k n
  | _=>.no
 | .alloc e zero=>.ok [] (.c (.o (.hd S.hp.length 0))) (S.hp++[.cells e (zero.map S0.val)])
 | .box e _ x=>match argQ S A x with
  | some v=>match v.cells with
   | some l=>.ok [] (.c (.o (.hd S.hp.length 0))) (S.hp++[.cells e l])
   | none=>.no
  | none=>.no
 | .build zero parts=>match fillQ S A parts (zero.map S0.val) with
  | some l=>.still [] (.c (.agg l))
  | none=>.no
 | .bslice e sz n zero parts=>match etOf zero with
  | some t=>bif Nat.beq sz t.sz then
    (match fillQ S A (parts.map λ(i,x)=>(i*sz,sz,x)) ((List.replicate n zero).flatten.map S0.val) with
    | some l=>match vals l with
     | some vs=>match decs t n vs with
      | some m=>.ok [] (.c (.o (.own S.hp.length))) (S.hp++[.row t e m])
      | none=>.no
     | none=>.no
    | none=>.no) else .no
  | none=>match fillQ S A (parts.map λ(i,x)=>(i*sz,sz,x)) ((List.replicate n zero).flatten.map S0.val) with
   | some l=>match litBag S.hp e sz n zero l with
    | some (v,hp)=>.ok [] v hp
    | none=>.no
   | none=>.no
 | .load n a=>match argQ S A a with
  | some (.c (.o x))=>loadQ S.hp n x
  | _=>.no
 | .store n a x=>match argQ S A a,argQ S A x with
  | some (.c (.o d)),some v=>match v.cells with
   | some l=>storeQ S.hp n l d
   | none=>.no
  | _,_=>.no
 | .faddr off x=>match argQ S A x with
  | some (.c (.o x))=>faddrQ S.hp off x
  | _=>.no
 | .field off n x=>match argQ S A x with
  | some (.c (.agg l))=>fieldQ l off n
  | _=>.no
 | .iaddr sz x i=>match argQ S A x,argQ S A i with
  | some (.c (.o x)),some (.c (.o (.val (.int _ i))))=>iaddrQ S.hp sz x i
  | _,_=>.no
 | .index x i=>match argQ S A x,argQ S A i with
  | some (.c (.o (.val (.string s)))),some (.c (.o (.val (.int _ i))))=>rv1 [0<=i/\i<s.size] (.int .u8 (bAt s i))
  | _,_=>.no
 | .sub none x lo hi=>match argQ S A x with
  | some (.c (.o (.val (.string s))))=>match boundQ S A 0 lo,boundQ S A s.size hi with
   | some l,some h=>rv1 [0<=l/\l<=h/\h<=s.size] (.string (s.extract l.toNat h.toNat))
   | _,_=>.no
  | _=>.no
 | .sub (some sz) x lo hi=>match argQ S A x with
  | some (.c (.o x))=>match qEm S.hp x with
   | some n=>match boundQ S A 0 lo,boundQ S A n hi with
    | some l,some h=>subQ S.hp sz x (loOf lo l) h
    | _,_=>.no
   | none=>.no
  | _=>.no
 | .lenS x=>match argQ S A x with
  | some (.c (.o (.val (.string s))))=>rv1 [] (.int .i64 s.size)
  | _=>.no
 | .len x=>match argQ S A x with
  | some (.c (.o x))=>match qEm S.hp x with
   | some n=>rv1 [] (.int .i64 n)
   | none=>.no
  | _=>.no
 | .append e sz bytes zero s x=>match argQ S A s,argQ S A x with
  | some (.c (.o s)),some (.c (.o x))=>appendQ S.hp e sz bytes zero s x
  | _,_=>.no
 | .extract x i=>match argQ S A x with
  | some (.tup l)=>match l[i]? with
   | some y=>.still [] (.c y)
   | none=>.no
  | _=>.no
 | .call _ _=>.no
 | .callW ..=>.no
 | .callL _ _=>.no
 | .callV _ _=>.no
 | .panic _=>.no
abbrev PV:=Nat × Value
def panV(p:PV):Value:=.iface p.1 p.2
def PANB:Nat:=1000000007
def panS(p:PV):QS:=⟨[(p.1,[],.c (.o (.val p.2)))],[],[]⟩
inductive CQ:Type 1 where
 | any (C:List SV->List SB->Option (IntKind × (Int->Prop)))
 | quiet (C:List SV->List SB->(R:Type)->(SV->Option R)->Option R)
 | loud (C:List SV->List SB->(R:Type)->(SV->List SB->Option R)->Option R)
 | inl (C:List SV->List SB->(R:Type)->(SV->List SB->Option R)->Option R)
 | pan (C:List SV->List SB->(R:Type)->(SV->List SB->Option R)->(PV->Option R)->Option R)
def unkn(kn:GL):GL->Option GL
 | []=>some []
 | g::r=>bif memG g kn then unkn kn r else(bif memG (g.1,bif g.2 then false else true) kn then none else(match unkn kn r with
  | some s=>some (g::s)
  | none=>none))
inductive GQ where
 | bad
 | pass
 | on (A:GL)
def qDt(S:QS):Option (Nat × Bool)->GQ
 | none=>.on []
 | some (s,b)=>match getQ S.sl s with
  | some (G,.c (.o (.val (.bool _))))=>match unkn S.kn ((s,b)::G) with
   | some A=>.on A
   | none=>.pass
  | _=>.bad
def eqsQ(S:QS):GL->Option (List (Bool × Bool))
 | []=>some []
 | (s,b)::r=>match getQ S.sl s,eqsQ S r with
  | some (_,.c (.o (.val (.bool x)))),some l=>some ((x,b)::l)
  | _,_=>none
def impP(p:Prop):List (Bool × Bool)->Prop
 | []=>p
 | (x,b)::r=>x=b->impP p r
def impL(es:List (Bool × Bool)):List Prop->List Prop
 | []=>[]
 | p::r=>impP p es::impL es r
def knowQ(S:QS)(s:Nat)(b:Bool):QS:=⟨putS S.sl s ([],.c (.o (.val (.bool b)))),(s,b)::S.kn,S.hp⟩
def lastG:GL->Option (Nat × Bool)
 | []=>none
 | [g]=>some g
 | _::r=>lastG r
noncomputable def demon{R:Type}(p:Int->Prop)(f:Int->Option R):Option R:=@dite _ (∃r,∀n,p n->f n=some r) (Classical.propDecidable _) (λh=>some h.choose) (λ_=>none)
theorem demon_some{R:Type}{p:Int->Prop}{f:Int->Option R}{r:R}(h:demon p f=some r):∀n,p n->f n=some r:=by
 unfold demon at h;split at h
 ·rename_i hx;simp only[snJ] at h;subst h;exact hx.choose_spec
 ·cases h
section
variable {R:Type}
noncomputable def goQ(J:Nat->Option CQ)(KP:PV->Option R)(f:Nat)(l:List SV)(hp:List SB)(K:SV->List SB->Option R):Option R :=
 match J f with
 | some (.quiet C)=>C l hp R λv=>K v hp
 | some (.loud C)=>C l hp R K
 | some (.inl C)=>C l hp R K
 | some (.pan C)=>C l hp R K KP
 | some (.any C)=>match C l hp with
  | some (k,p)=>demon p λn=>K (.c (.o (.val (.int k n)))) hp
  | none=>none
 | none=>none
noncomputable def goV(J:Nat->Option CQ)(f:Nat)(l:List SV)(hp:List SB)(K:SV->List SB->Option R):Option R :=
 match J f with
 | some (.inl C)=>C l hp R K
 | _=>none
def cloQ(hp:List SB):Option SV->Option (Nat × List SV × List SV)
 | some (.c (.o (.own h)))=>match hp[h]? with
  | some (.clo f k l)=>some (f,(l.take k).map λx=>.c (.o x),(l.drop k).map λx=>.c (.o x))
  | _=>none
 | some (.c (.o (.val (.func (.func f) ⟨[]⟩ ⟨[]⟩))))=>some (f,[],[])
 | _=>none
def cloW(hp:List SB):Option SV->Option (Nat × List SV × List SV)
 | some (.c (.o s))=>cloL hp s
 | _=>none
noncomputable def opQ(J:Nat->Option CQ)(nv nt:Nat)(KP:PV->Option R)(o:IOp)(S:QS)(K:QS->Option R):Option R :=
 bif dstQ nt [] o.d then
  (match o.p with
  | .call f xs=>match argsQ S [] xs with
   | some l=>goQ J KP f l S.hp λv hp=>K (putQ nv S o.d [] v hp)
   | none=>none
  | .panic x=>match argQ S [] x with
   | some (.c (.o (.val (.iface t v))))=>KP (t,v)
   | _=>none
  | .callV x xs=>match cloQ S.hp (argQ S [] x),argsQ S [] xs with
   | some (f,l1,l2),some l=>goV J f (l1++l++l2) S.hp λv hp=>K (putQ nv S o.d [] v hp)
   | _,_=>none
  | p=>match primQ S [] p with
   | .still ps v=>gds ps (K (putQ nv S o.d [] v S.hp))
   | .quiet ps v=>gds ps (K (putQ nv S o.d [] v S.hp))
   | .ok ps v hp=>gds ps (K (putQ nv S o.d [] v hp))
   | .no=>none)
 else none
noncomputable def splitQ(J:Nat->Option CQ)(nv nt:Nat)(KP:PV->Option R)(o:IOp)(K:QS->Option R):Nat->GL->QS->Option R
 | 0,_,_=>none
 | n+1,A,S=>match lastG A with
  | none=>opQ J nv nt KP o S K
  | some (s,b)=>match getQ S.sl s with
   | some (G,.c (.o (.val (.bool x))))=>bif subG [] S.kn G then
     (match b with
     | true=>bif x then splitQ J nv nt KP o K n A.dropLast (knowQ S s true) else K (forgetQ (knowQ S s false) o.d)
     | false=>bif x then K (forgetQ (knowQ S s true) o.d) else splitQ J nv nt KP o K n A.dropLast (knowQ S s false))
    else none
   | _=>none
def dmyV:SV:=.c (.o (.val (.bool false)))
def gsQ(S:QS):Option (Nat × Bool)->GL
 | none=>[]
 | some (s,b)=>match getQ S.sl s with
  | some (G,_)=>(s,b)::G
  | none=>[]
def asksQ(d:Option Nat):List IOp->Bool
 | []=>false
 | o::r=>(match o.g,d with
  | some (s,_),some d=>Nat.beq s d
  | _,_=>false) || asksQ d r
def passQ(nv nt:Nat)(r:List IOp)(S:QS)(g:Option (Nat × Bool))(d:Option Nat):QS :=
 bif asksQ d r && dstQ nt (gsQ S g) d then putQ nv S d (gsQ S g) dmyV S.hp else forgetQ S d
noncomputable def opsQ(J:Nat->Option CQ)(nv nt:Nat)(KP:PV->Option R):List IOp->QS->(QS->Option R)->Option R
 | [],S,K=>K S
 | o::r,S,K=>match qDt S o.g with
  | .bad=>none
  | .pass=>bif dstQ nt [] o.d then opsQ J nv nt KP r (passQ nv nt r S o.g o.d) K else none
  | .on []=>opQ J nv nt KP o S λS'=>opsQ J nv nt KP r S' K
  | .on (g::A)=>match primQ S (g::A) o.p with
   | .still ps v=>bif dstQ nt (g::A) o.d then(match eqsQ S (g::A) with
    | some es=>gds (impL es ps) (opsQ J nv nt KP r (putQ nv S o.d (g::A) v S.hp) K)
    | none=>none) else none
   | .quiet ps v=>bif dstQ nt (g::A) o.d then(match eqsQ S (g::A) with
    | some es=>gds (impL es ps) (opsQ J nv nt KP r (putQ nv S o.d (g::A) v S.hp) K)
    | none=>none) else none
   | _=>bif dstQ nt [] o.d then splitQ J nv nt KP o (λS'=>opsQ J nv nt KP r S' K) 9 (g::A) S else none
def eqG:GL->GL->Bool
 | [],[]=>true
 | (s,b)::r,(t,c)::q=>Nat.beq s t && (b == c) && eqG r q
 | _,_=>false
def knM(M:List (GL × Bool)):GL->Option Bool
 | []=>some true
 | A=>(M.find? λm=>eqG m.1 A).map (·.2)
def freeM(M:List (GL × Bool)):Option Nat->Bool
 | none=>true
 | some d=>M.all λm=>!ment d m.1
def litB(b x:Bool):Bool:=match b with
 | true=>x
 | false=>!x
def eqsC(S:QS):GL->Option Bool
 | []=>some true
 | (s,b)::r=>match getQ S.sl s with
  | some (G,.c (.o (.val (.bool x))))=>bif subG r [] G then(match r with
   | []=>some (litB b x)
   | _::_=>(eqsC S r).map λe=>litB b x && e) else none
  | _=>none
def loudB(J:Nat->Option CQ)(S:QS)(A:GL):Pr->Bool
 | .load _ _=>false
 | .call f _=>match J f with
  | some (.loud _)=>true
  | _=>false
 | .callL _ _=>true
 | .callW _ x _=>match cloW S.hp (argQ S A x) with
  | some (f,_)=>match J f with
   | some (.loud _)=>true
   | _=>false
  | none=>false
 | .ext .mget _=>false
 | p=>match primQ S A p with
  | .ok _ _ _=>true
  | _=>false
noncomputable def drawS(J:Nat->Option CQ)(nv:Nat)(hp0:List SB)(o:IOp)(A:GL)(es:List (Bool × Bool))(on:Bool)(S:QS)(rec:QS->Option R):Option R :=
 match o.p with
 | .load n a=>match argQ S A a with
  | some (.c (.o s))=>match loadQ hp0 n s with
   | .quiet ps v=>bif s.ltB hp0.length then gds (impL es ps) (rec (putQ nv S o.d A v S.hp)) else none
   | _=>none
  | _=>none
 | .call f xs=>match argsQ S A xs,J f with
  | some l,some (.quiet C)=>C l S.hp R λv=>rec (putQ nv S o.d A v S.hp)
  | some l,some (.loud C)=>bif on then C l S.hp R λv hp=>gd (hp.take S.hp.length=S.hp) (rec (putQ nv S o.d A v hp)) else none
  | _,_=>none
 | .callL f xs=>match argsQ S A xs,J f with
  | some l,some (.loud C)=>bif on then C l S.hp R λv hp=>rec (putQ nv S o.d A v hp) else none
  | _,_=>none
 | .callW fs x xs=>match cloW S.hp (argQ S A x),argsQ S A xs with
  | some (f,l1,l2),some l=>bif fs.contains f then(match J f with
   | some (.quiet C)=>C (l1++l++l2) S.hp R λv=>rec (putQ nv S o.d A v S.hp)
   | some (.loud C)=>bif on then C (l1++l++l2) S.hp R λv hp=>gd (hp.take S.hp.length=S.hp) (rec (putQ nv S o.d A v hp)) else none
   | _=>none) else none
  | _,_=>none
 | .ext .mget xs=>match argsQ S A xs with
  | some [.c (.o s),.c (.o (.val (.string t)))]=>match mapOfQ hp0 s with
   | some (ps,m)=>bif s.ltB hp0.length then gds (impL es ps) (rec (putQ nv S o.d A (.c (.o (.val (.int .i64 (mget m t))))) S.hp)) else none
   | none=>none
  | _=>none
 | pr=>match primQ S A pr with
  | .still ps v=>gds (impL es ps) (rec (putQ nv S o.d A v S.hp))
  | .ok ps v hp=>bif on then(bif qAp pr then none else gds (impL es ps) (rec (putQ nv S o.d A v hp))) else none
  | _=>none
noncomputable def drawQ(J:Nat->Option CQ)(nv nt:Nat)(hp0:List SB):List IOp->List (GL × Bool)->QS->(QS->Option R)->Option R
 | [],M,S,K=>K S
 | o::r,M,S,K=>match qDt S o.g with
  | .on A=>bif dstQ nt A o.d && freeM M o.d then(match eqsQ S A with
   | some es=>match knM M A with
    | some true=>drawS J nv hp0 o A es true S λS'=>drawQ J nv nt hp0 r M S' K
    | some false=>drawQ J nv nt hp0 r M (putQ nv S o.d A dmyV S.hp) K
    | none=>bif loudB J S A o.p then(match eqsC S A with
      | some e=>bif e then drawS J nv hp0 o A es true S λS'=>drawQ J nv nt hp0 r ((A,true)::M) S' K
       else drawQ J nv nt hp0 r ((A,false)::M) (putQ nv S o.d A dmyV S.hp) K
      | none=>none)
     else drawS J nv hp0 o A es false S λS'=>drawQ J nv nt hp0 r M S' K
   | none=>none) else none
  | _=>none
noncomputable def all2{R:Type}(a b:Option R):Option R:=@ite _ (a=b) (Classical.propDecidable _) a none
theorem all2_some{R:Type}{a b:Option R}{r:R}(h:all2 a b=some r):a=some r/\b=some r:=by
 unfold all2 at h;split at h
 ·rename_i e;subst e;exact⟨h,h⟩
 ·cases h
def keepM(M:List (GL × Bool))(d:Option Nat):List (GL × Bool):=bif freeM M d then M else []
noncomputable def altQ(J:Nat->Option CQ)(nv nt:Nat)(o:IOp)(M:List (GL × Bool))(S:QS)(K:QS->Option R):Option R :=
 match qDt S o.g with
 | .on A=>bif dstQ nt A o.d then(match knM M A with
  | some false=>K (putQ nv S o.d A dmyV S.hp)
  | _=>match eqsQ S A with
   | some es=>match primQ S A o.p with
    | .still ps v=>gds (impL es ps) (K (putQ nv S o.d A v S.hp))
    | .quiet ps v=>gds (impL es ps) (K (putQ nv S o.d A v S.hp))
    | .ok ps v hp=>match A with
     | []=>bif qAp o.p then none else gds ps (K (putQ nv S o.d [] v hp))
     | _::_=>none
    | _=>none
   | none=>none) else none
 | _=>none
noncomputable def drawM(J:Nat->Option CQ)(nv nt:Nat)(hp0:List SB)(o:IOp)(M:List (GL × Bool))(S:QS)(K:List (GL × Bool)->QS->Option R):Option R :=
 match qDt S o.g with
 | .on A=>bif dstQ nt A o.d then(match eqsQ S A with
  | some es=>match knM (keepM M o.d) A with
   | some true=>drawS J nv hp0 o A es true S λS'=>K (keepM M o.d) S'
   | some false=>K (keepM M o.d) (putQ nv S o.d A dmyV S.hp)
   | none=>bif loudB J S A o.p then(match eqsC S A with
     | some e=>bif e then drawS J nv hp0 o A es true S λS'=>K ((A,true)::keepM M o.d) S'
      else K ((A,false)::keepM M o.d) (putQ nv S o.d A dmyV S.hp)
     | none=>none)
    else drawS J nv hp0 o A es false S λS'=>K (keepM M o.d) S'
  | none=>none) else none
 | _=>none
noncomputable def treeQ(J:Nat->Option CQ)(nv nt:Nat)(hp0:List SB):DT->List (GL × Bool)->QS->(QS->Option R)->Option R
 | .fin,M,S,K=>K S
 | .one o r,M,S,K=>drawM J nv nt hp0 o M S λM' S'=>treeQ J nv nt hp0 r M' S' K
 | .wk o r,M,S,K=>drawM J nv nt (qCg hp0) o M S λM' S'=>treeQ J nv nt hp0 r M' S' K
 | .alt o t r,M,S,K=>match r with
  | .stop=>altQ J nv nt o (keepM M o.d) S λS'=>treeQ J nv nt hp0 t (keepM M o.d) S' K
  | _=>all2 (altQ J nv nt o (keepM M o.d) S λS'=>treeQ J nv nt hp0 t (keepM M o.d) S' K) (treeQ J nv nt hp0 r M S K)
 | .stop,M,S,K=>none
def addH(h:Nat)(Y:List Nat):List Nat:=bif Y.contains h then Y else Y++[h]
def hsS0:S0->List Nat->List Nat
 | .val _,Y=>Y
 | .hd h _,Y=>addH h Y
 | .own h,Y=>addH h Y
 | .el h _ _ _,Y=>addH h Y
 | .opt _ h _,Y=>addH h Y
 | .bsl k,Y=>addH k Y
 | .prj k _ _,Y=>addH k Y
 | .pel k _ _ _,Y=>addH k Y
 | .ar h _ _ _,Y=>addH h Y
 | .asl h _ _ _ _,Y=>addH h Y
def hsL:List S0->List Nat->List Nat
 | [],Y=>Y
 | x::r,Y=>hsL r (hsS0 x Y)
def hsSC:SC->List Nat->List Nat
 | .o x,Y=>hsS0 x Y
 | .agg l,Y=>hsL l Y
def hsCs:List SC->List Nat->List Nat
 | [],Y=>Y
 | x::r,Y=>hsCs r (hsSC x Y)
def hsSV:SV->List Nat->List Nat
 | .c x,Y=>hsSC x Y
 | .tup l,Y=>hsCs l Y
def hsVs:List SV->List Nat->List Nat
 | [],Y=>Y
 | x::r,Y=>hsVs r (hsSV x Y)
def hsSB:SB->List Nat->List Nat
 | .cells _ l,Y=>hsL l Y
 | .part h _ _ _,Y=>addH h Y
 | .slc h _ _,Y=>addH h Y
 | .clo _ _ l,Y=>hsL l Y
 | .srow _ _ _ l,Y=>hsL l Y
 | .gro _ _ _ _ g,Y=>addH g Y
 | _,Y=>Y
def closeH(hp:List SB):Nat->Nat->List Nat->List Nat
 | 0,_,Y=>Y
 | f+1,j,Y=>match Y[j]? with
  | none=>Y
  | some h=>match hp[h]? with
   | some sb=>closeH hp f (j+1) (hsSB sb Y)
   | none=>closeH hp f (j+1) Y
def qBn(h:Nat):Nat->List Nat->Nat
 | n,[]=>n
 | n,x::r=>bif Nat.beq x h then n else qBn h (n+1) r
def S0.mv(Y:List Nat):S0->S0
 | .val v=>.val v
 | .hd h n=>.hd (qBn h 0 Y) n
 | .own h=>.own (qBn h 0 Y)
 | .el h i sz n=>.el (qBn h 0 Y) i sz n
 | .opt c h n=>.opt c (qBn h 0 Y) n
 | .bsl k=>.bsl (qBn k 0 Y)
 | .prj k i j=>.prj (qBn k 0 Y) i j
 | .pel k i sz n=>.pel (qBn k 0 Y) i sz n
 | .ar h off n i=>.ar (qBn h 0 Y) off n i
 | .asl h off n lo len=>.asl (qBn h 0 Y) off n lo len
def mvL(Y:List Nat):List S0->List S0
 | []=>[]
 | x::r=>x.mv Y::mvL Y r
def SC.mv(Y:List Nat):SC->SC
 | .o x=>.o (x.mv Y)
 | .agg l=>.agg (mvL Y l)
def mvCs(Y:List Nat):List SC->List SC
 | []=>[]
 | x::r=>x.mv Y::mvCs Y r
def SV.mv(Y:List Nat):SV->SV
 | .c x=>.c (x.mv Y)
 | .tup l=>.tup (mvCs Y l)
def SB.mv(Y:List Nat):SB->SB
 | .cells e l=>.cells e (mvL Y l)
 | .part h lo n sz=>.part (qBn h 0 Y) lo n sz
 | .slc h n sz=>.slc (qBn h 0 Y) n sz
 | .clo f k l=>.clo f k (mvL Y l)
 | .srow e sz n l=>.srow e sz n (mvL Y l)
 | .gro t e l n g=>.gro t e l n (qBn g 0 Y)
 | sb=>sb
def S0.inB(Y:List Nat):S0->Bool
 | .val _=>true
 | .hd h _=>Y.contains h
 | .own h=>Y.contains h
 | .el h _ _ _=>Y.contains h
 | .opt _ h _=>Y.contains h
 | .bsl k=>Y.contains k
 | .prj k _ _=>Y.contains k
 | .pel k _ _ _=>Y.contains k
 | .ar h _ _ _=>Y.contains h
 | .asl h _ _ _ _=>Y.contains h
def inL(Y:List Nat):List S0->Bool
 | []=>true
 | x::r=>bif x.inB Y then inL Y r else false
def SC.inB(Y:List Nat):SC->Bool
 | .o x=>x.inB Y
 | .agg l=>inL Y l
def inCs(Y:List Nat):List SC->Bool
 | []=>true
 | x::r=>bif x.inB Y then inCs Y r else false
def SV.inB(Y:List Nat):SV->Bool
 | .c x=>x.inB Y
 | .tup l=>inCs Y l
def SB.inB(Y:List Nat):SB->Bool
 | .cells _ l=>inL Y l
 | .part h _ _ _=>Y.contains h
 | .slc h _ _=>Y.contains h
 | .clo _ _ l=>inL Y l
 | .srow _ _ _ l=>inL Y l
 | .gro _ _ _ _ g=>Y.contains g
 | _=>true
def mvHp(hp:List SB)(Y:List Nat):List Nat->Option (List SB)
 | []=>some []
 | h::r=>match hp[h]?,mvHp hp Y r with
  | some sb,some s=>bif sb.inB Y then some (sb.mv Y::s) else none
  | _,_=>none
def keepQ(S:QS):List Nat->Option (List (Nat × GL × SV))
 | []=>some []
 | i::r=>match getQ S.sl i,keepQ S r with
  | some ([],v),some l=>some ((i,[],v)::l)
  | _,_=>none
def svsOf:List (Nat × GL × SV)->List SV
 | []=>[]
 | (_,_,v)::r=>v::svsOf r
def mvSl(Y:List Nat):List (Nat × GL × SV)->Option (List (Nat × GL × SV))
 | []=>some []
 | (i,G,v)::r=>match mvSl Y r with
  | some l=>bif v.inB Y then some ((i,G,v.mv Y)::l) else none
  | none=>none
def headOK(n:Nat):Nat->List Nat->Bool
 | k,[]=>Nat.ble n k
 | k,x::r=>bif Nat.ble n k then true else(bif Nat.beq x k then headOK n (k+1) r else false)
def canonQ(n0:Nat)(keep:List Nat)(S:QS):Option QS :=
 match keepQ S keep with
 | some sl =>
  let Y:=closeH S.hp 60 0 (hsVs (svsOf sl) (List.range n0))
  bif(bif qDh Y then headOK n0 0 Y else false) then
   (match mvSl Y sl,mvHp S.hp Y Y with
   | some sl',some hp'=>some ⟨sl',[],hp'⟩
   | _,_=>none)
  else none
 | none=>none
end
def Hold(a:Act)(G:GL):Prop:=∀g∈G,a.tmps[g.1]?=some (.bool g.2)
def oldSl(a:Act):List (Nat × GL × SV)->List (Nat × Prop × SV)
 | []=>[]
 | (i,G,v)::r=>(i,Hold a G,v)::oldSl a r
def qDq(S:QS)(a:Act):St:=⟨oldSl a S.sl,S.hp⟩
theorem nbeq{i j:Nat}:Nat.beq i j=true↔i=j:=by simp
theorem qCx{i j:Nat}(h:¬i=j):Nat.beq i j=false:=by
 cases hb:Nat.beq i j
 ·rfl
 ·exact(h (nbeq.1 hb)).elim
theorem qEj(a:Act):∀(l:List (Nat × GL × SV)) (i:Nat),getE (oldSl a l) i=(getQ l i).map λe=>(Hold a e.1,e.2)
 | [],i=>rfl
 | (j,G,v)::r,i=>by
  simp only[oldSl,getE,getQ];by_cases h:j=i
  ·subst h;simp
  ·rw[beqF h,qCx h];simp only[cnF,qEj a r i]
theorem Hold.nil(a:Act):Hold a []:=λg hg=>by simp at hg
theorem Hold.cons{a:Act}{g:Nat × Bool}{G:GL}(h1:a.tmps[g.1]?=some (.bool g.2))(h2:Hold a G):Hold a (g::G):=λx hx=>by
 rcases List.mem_cons.1 hx with rfl | hx
 ·exact h1
 ·exact h2 x hx
theorem qEk{g:Nat × Bool}:∀ {G:GL},memG g G=true->g∈G
 | [],h=>by simp[memG] at h
 | x::r,h=>by
  simp only[memG] at h;by_cases h1:g.1=x.1
  ·by_cases h2:g.2=x.2
   ·exact List.mem_cons.2 (.inl (Prod.ext h1 h2))
   ·have e:bq g.2 x.2=false:=by
     cases hb:bq g.2 x.2
     ·rfl
     ·exact(h2 (bq_iff.1 hb)).elim
    rw[nbeq.2 h1,e] at h;simp only[cnT,cnF] at h;exact List.mem_cons.2 (.inr (qEk h))
  ·rw[qCx h1] at h;simp only[cnF] at h;exact List.mem_cons.2 (.inr (qEk h))
theorem subG_hold{a:Act}{A B:GL}(hA:Hold a A)(hB:Hold a B):∀ {G:GL},subG A B G=true->Hold a G
 | [],_=>Hold.nil a
 | g::r,h=>by
  simp only[subG] at h;cases h1:memG g A with
  | true =>
   rw[h1] at h;exact Hold.cons (hA g (qEk h1)) (subG_hold hA hB h)
  | false =>
   rw[h1] at h;simp only[cnF] at h;cases h2:memG g B with
   | true =>
    rw[h2] at h;exact Hold.cons (hB g (qEk h2)) (subG_hold hA hB h)
   | false=>rw[h2] at h;simp at h
structure Read (So:St) (S:QS) (D:GL->Prop):Prop where
 hp:So.hp=S.hp
 arg:∀ {act:Prop} {A:GL} {x:Arg} {v:SV},(act->D A)->argQ S A x=some v->∃p,argE So act x=some (p,v)/\p
 pick:∀ {A:GL} {j:Nat} {cb b:Bool},argQ S A (.t j)=some (.c (.o (.val (.bool cb))))->D A->cb=b->D ((j,b)::A)
 one:∀ {A:GL} {j:Nat} {cb b:Bool},memG (j,b) S.kn=true->argQ S A (.t j)=some (.c (.o (.val (.bool cb))))->(D A->cb=b)/\∀k,getQ S.sl k=none->getE So.sl k=none
section
variable {S:QS} {a:Act} {A:GL} {So:St} {D:GL->Prop}
theorem argQ_rel{A:GL}{act:Prop}(hk:Hold a S.kn)(hact:act->Hold a A){x:Arg}{v:SV}(h:argQ S A x=some v):∃p,argE (qDq S a) act x=some (p,v)/\p:=by
 cases x with
 | v x =>
  simp only[argQ,snJ] at h;subst h;exact⟨True,rfl,tV⟩
 | t i =>
  simp only[argQ] at h;split at h
  ·rename_i G u hg;cases hs:subG A S.kn G with
   | false=>rw[hs] at h;simp at h
   | true =>
    rw[hs] at h;simp only[cnT,snJ] at h;subst h;refine⟨act->Hold a G,?_,λha=>subG_hold (hact ha) hk hs⟩;simp only[argE,qDq,qEj,hg,Option.map_some]
  ·cases h
def RelS:RR->RQ->Prop
 | _,.no=>True
 | .still p v,.still ps v'=>v=v'/\(AllP ps->p)
 | .quiet p v,.quiet ps v'=>v=v'/\(AllP ps->p)
 | .ok p v hp,.ok ps v' hp'=>v=v'/\hp=hp'/\(AllP ps->p)
 | _,_=>False
def RelR(act:Prop):RR->RQ->Prop
 | _,.no=>True
 | .still p v,.still ps v'=>v=v'/\((act->AllP ps)->p)
 | .quiet p v,.quiet ps v'=>v=v'/\((act->AllP ps)->p)
 | .ok p v hp,.ok ps v' hp'=>v=v'/\hp=hp'/\((act->AllP ps)->p)
 | _,_=>False
theorem relR_no{act:Prop}(r:RR):RelR act r .no:=by cases r <;> trivial
theorem qDr{p act:Prop}(hp:p){r:RR}{q:RQ}(h:RelS r q):RelR act (owe p act r) q:=by
 cases q <;> cases r <;> simp only[RelS,RelR,owe] at * <;> first | trivial | exact h.elim | skip
 ·exact⟨h.1,λhh=>⟨hp,λha=>h.2 (hh ha)⟩⟩
 ·exact⟨h.1,λhh=>⟨hp,λha=>h.2 (hh ha)⟩⟩
 ·exact⟨h.1,h.2.1,λhh=>⟨hp,λha=>h.2.2 (hh ha)⟩⟩
theorem qBu:∀q:RQ,RelS q.toR q
 | .no=>trivial
 | .still _ _=>⟨rfl,λh=>h⟩
 | .quiet _ _=>⟨rfl,λh=>h⟩
 | .ok _ _ _=>⟨rfl,rfl,λh=>h⟩
theorem qDk{act p:Prop}{v:SV}(hp:p):RelR act (.still p v) (.still [] v):=⟨rfl,λ_=>hp⟩
theorem fit_rel(raw:Bool)(k:IntKind)(x:Int):RelS (fit raw k x) (fitQ raw k x):=by
 cases k <;> cases raw <;> simp[fit,fitQ,ret1,rv1,RelS,AllP]
theorem quot_rel(raw:Bool)(k:IntKind)(x y:Int):RelS (quot raw k x y) (quotQ raw k x y):=by
 cases k <;> cases raw <;> simp[quot,quotQ,ret1,rv1,RelS,AllP]
theorem remd_rel(raw:Bool)(k:IntKind)(x y:Int):RelS (remd raw k x y) (remdQ raw k x y):=by
 cases raw <;> simp[remd,remdQ,ret1,rv1,RelS,AllP]
theorem bin_rel(raw:Bool)(op:BinOp)(u v:Value):RelS (binR raw op u v) (binQ raw op u v):=by
 cases u <;> cases v <;> first
  | (simp only[binR,binQ,RelS];done)
  | skip
 ·rename_i k x k' y;simp only[binR,binQ];cases op <;> simp only
  case shl =>
   have:=fit_rel raw k (x*2 ^ (min y.toNat k.bits));revert this;cases fit raw k (x*2 ^ (min y.toNat k.bits)) <;> cases fitQ raw k (x*2 ^ (min y.toNat k.bits)) <;> intro this <;> simp only[RelS] at * <;> first | trivial | exact this.elim | skip
   exact⟨this.1,λhp=>⟨hp.1,this.2 hp.2⟩⟩
  case shr=>exact⟨rfl,λh=>h.1⟩
  all_goals
   cases decide (k=k')
   ·trivial
   ·first
    | exact fit_rel raw k _
    | exact quot_rel raw k _ _
    | exact remd_rel raw k _ _
    | exact⟨rfl,λ_=>trivial⟩
    | trivial
 ·rename_i x y;simp only[binR,binQ];cases op <;> simp only <;> first | trivial | exact⟨rfl,λh=>h.1⟩ | exact⟨rfl,λ_=>trivial⟩
theorem mm_rel(mx:Bool)(u v:Value):RelS (mmR mx u v) (mmQ mx u v):=by
 cases u <;> cases v <;> first | (simp only[mmR,mmQ,RelS];done) | exact⟨rfl,λ_=>trivial⟩
theorem beq_rel(neg:Bool)(u v:Value):RelS (beqR neg u v) (beqQ neg u v):=by
 cases u <;> cases v <;> first | (simp only[beqR,beqQ,RelS];done) | exact⟨rfl,λ_=>trivial⟩
theorem un_rel(op:UnOp)(u:Value):RelS (unR op u) (unQ op u):=by
 cases u <;> first
  | (simp only[unR,unQ,RelS];done)
  | skip
 ·cases op <;> first | trivial | exact⟨rfl,λ_=>trivial⟩
 ·cases op <;> first | trivial | exact fit_rel false _ _ | exact⟨rfl,λ_=>trivial⟩
theorem qDp(i j:Nat):(i == j)=Nat.beq i j:=by
 by_cases h:i=j
 ·rw[nbeq.2 h];simpa using h
 ·rw[qCx h];simpa using h
theorem rowLoad_rel{t:ET}(l:List t.T)(i off:Nat)(n:Option Nat):RelS (qC2 t l i off n) (qCq t l i off n):=by
 cases n with
 | none =>
  simp only[qC2,qCq];cases (t.enc (l.getD i t.dft))[off]?
  ·trivial
  ·exact⟨rfl,λh=>h.1⟩
 | some m =>
  simp only[qC2,qCq];cases Nat.ble (off+m) t.sz
  ·trivial
  ·exact⟨rfl,λh=>h.1⟩
theorem cellsLoad_rel(l:List S0)(off:Nat)(n:Option Nat):RelS (qBx l off n) (qCh l off n):=by
 cases n with
 | none =>
  simp only[qBx,qCh];cases l[off]?
  ·trivial
  ·exact⟨rfl,λ_=>trivial⟩
 | some m =>
  simp only[qBx,qCh];cases Nat.ble (off+m) l.length
  ·trivial
  ·exact⟨rfl,λ_=>trivial⟩
theorem load_rel(hp:List SB)(n:Option Nat)(x:S0):RelS (loadR hp n x) (loadQ hp n x):=by
 cases x <;> simp only[loadR,loadQ] <;> try first | trivial | exact qBu _
 ·rename_i h off;cases hp[h]? with
  | none=>trivial
  | some sb =>
   cases sb <;> simp only <;> try trivial
   exact cellsLoad_rel _ _ _
 ·rename_i h i sz off;cases hp[h]? with
  | none=>trivial
  | some sb =>
   cases sb <;> simp only[qDp] <;> try trivial
   ·rename_i t e l;cases Nat.beq sz t.sz
    ·trivial
    ·exact rowLoad_rel _ _ _ _
   ·rename_i t l;cases Nat.beq sz t.sz
    ·trivial
    ·exact rowLoad_rel _ _ _ _
   ·rename_i t l;cases Nat.beq sz t.sz
    ·trivial
    ·exact rowLoad_rel _ _ _ _
   ·exact qBu _
   ·exact qBu _
theorem store_rel(hp:List SB)(n:Nat)(l:List S0)(x:S0):RelS (storeR hp n l x) (storeQ hp n l x):=by
 cases x <;> simp only[storeR,storeQ] <;> try first | trivial | exact qBu _
 ·rename_i h off;cases hp[h]? with
  | none=>trivial
  | some sb =>
   cases sb <;> simp only[qDp] <;> try trivial
   rename_i e cs;cases Nat.beq l.length n <;> simp only[cnT,cnF,Bool.false_and,Bool.true_and]
   ·trivial
   ·cases Nat.ble (off+n) cs.length <;> simp only[cnT,cnF]
    ·trivial
    ·cases ho:allOneB l
     ·trivial
     ·exact⟨rfl,rfl,λ_=>allOne_of ho⟩
 ·rename_i h i sz off;cases hp[h]? with
  | none=>trivial
  | some sb =>
   cases sb <;> simp only[qDp] <;> try trivial
   rename_i t e cs;cases Nat.beq sz t.sz <;> simp only[cnT,cnF,Bool.false_and,Bool.true_and]
   ·trivial
   ·cases Nat.beq l.length n <;> simp only[cnT,cnF,Bool.false_and,Bool.true_and]
    ·trivial
    ·cases Nat.ble (off+n) t.sz <;> simp only[cnT,cnF]
     ·trivial
     ·cases vals (setL ((t.enc (cs.getD i t.dft)).map S0.val) off l) with
      | none=>trivial
      | some vs =>
       simp only;cases t.dec vs with
       | none=>trivial
       | some y=>exact⟨rfl,rfl,λh=>h.1⟩
theorem faddr_rel(hp:List SB)(off:Nat)(x:S0):RelS (faddrR hp off x) (faddrQ hp off x):=by
 cases x <;> simp only[faddrR,faddrQ] <;> try first | trivial | exact qBu _
 ·rename_i h o;cases hp[h]? with
  | none=>trivial
  | some sb =>
   cases sb <;> simp only <;> try trivial
   exact⟨rfl,λ_=>trivial⟩
 ·rename_i h i sz o;cases hp[h]? with
  | none=>trivial
  | some sb =>
   cases sb <;> simp only <;> first | trivial | exact⟨rfl,λh=>h.1⟩ | exact qBu _
theorem iaddr_rel(hp:List SB)(sz:Nat)(x:S0)(i:Int):RelS (iaddrR hp sz x i) (iaddrQ hp sz x i):=by
 cases x <;> simp only[iaddrR,iaddrQ] <;> try first | trivial | exact qBu _
 rename_i h;cases hp[h]? with
 | none=>trivial
 | some sb =>
  cases sb <;> simp only[qDp] <;> try trivial
  ·rename_i t e l;cases Nat.beq sz t.sz
   ·trivial
   ·exact⟨rfl,λh=>h.1⟩
  ·rename_i t l;cases Nat.beq sz t.sz
   ·trivial
   ·exact⟨rfl,λh=>h.1⟩
  ·rename_i k lo n s;cases Nat.beq sz s
   ·trivial
   ·cases Nat.blt (bif Nat.beq s 0 then hp.length else k) hp.length
    ·trivial
    ·exact⟨rfl,λh=>h.1⟩
  ·rename_i k n s;cases Nat.beq sz s
   ·trivial
   ·cases Nat.blt k hp.length
    ·trivial
    ·exact⟨rfl,λh=>h.1⟩
  ·rename_i t l;cases Nat.beq sz t.sz
   ·trivial
   ·exact⟨rfl,λh=>h.1⟩
  ·exact qBu _
  ·exact qBu _
theorem sub_rel(hp:List SB)(sz:Nat)(x:S0)(lo:Option Int)(hi:Int):RelS (subR hp sz x lo hi) (subQ hp sz x lo hi):=by
 cases x <;> simp only[subR,subQ] <;> try first | trivial | exact qBu _
 rename_i h;cases hp[h]? with
 | none=>trivial
 | some sb =>
  cases sb <;> simp only <;> try trivial
  ·rename_i t e l;rw[qDp];cases Nat.beq sz t.sz
   ·trivial
   ·cases lo <;> exact⟨rfl,rfl,λh=>h.1⟩
  ·rename_i t l;rw[qDp];cases Nat.beq sz t.sz
   ·trivial
   ·cases lo <;> exact⟨rfl,rfl,λh=>h.1⟩
  ·rename_i k lo0 n s;cases baseLen hp k with
   | none=>trivial
   | some x =>
    simp only[qDp];cases Nat.beq sz s
    ·trivial
    ·cases Nat.beq sz x.2
     ·trivial
     ·exact⟨rfl,rfl,λh=>h.1⟩
  ·rename_i t l;rw[qDp];cases Nat.beq sz t.sz
   ·trivial
   ·cases lo
    ·exact⟨rfl,rfl,λh=>h.1⟩
    ·trivial
theorem apart_eq(x y:S0):apart0 x y=apartQ x y:=by
 cases x <;> cases y <;> simp only[apart0,apartQ]
 rename_i i j;by_cases h:i=j
 ·rw[nbeq.2 h];simpa using h
 ·rw[qCx h];simpa using h
theorem allP_app:∀ {l m:List Prop},AllP (l++m)->AllP l/\AllP m
 | [],_,h=>⟨trivial,h⟩
 | _::_,_,h=>⟨⟨h.1,(allP_app h.2).1⟩,(allP_app h.2).2⟩
theorem append_rel(hp:List SB)(e sz bytes:Nat)(zero:List Value)(s x:S0):RelS (appendR hp e sz bytes zero s x) (appendQ hp e sz bytes zero s x):=by
 simp only[appendR,appendQ,apart_eq];cases apartQ s x
 ·trivial
 ·simp only[cnT];have nilCase:RelS (match etOf zero with
    | some t=>bif sz == t.sz then(match srcL hp t x with
     | some m=>RR.ok (AllP (srcO hp x)/\m.length<=9223372036854775807/\m.length*bytes<=140737488355328) (.c (.o (.own hp.length))) (hp++[.row t e m])
     | none=>.no) else .no
    | none=>(qDo hp e sz bytes (.val (.slice none 0 0)) x).toR) (match etOf zero with
    | some t=>bif Nat.beq sz t.sz then(match srcL hp t x with
     | some m=>RQ.ok (srcO hp x++[m.length<=9223372036854775807/\m.length*bytes<=140737488355328]) (.c (.o (.own hp.length))) (hp++[.row t e m])
     | none=>.no) else .no
    | none=>qDo hp e sz bytes (.val (.slice none 0 0)) x):=by
   cases etOf zero with
   | none=>exact qBu _
   | some t =>
    simp only[qDp];cases Nat.beq sz t.sz
    ·trivial
    ·simp only[cnT];cases srcL hp t x
     ·trivial
     ·exact⟨rfl,rfl,λh=>⟨(allP_app h).1,(allP_app h).2.1⟩⟩
  cases s <;> (try simp only) <;> try first | trivial | exact qBu _
  ·rename_i v;cases v <;> (try simp only) <;> try first | trivial | exact qBu _
   rename_i ad n c;cases ad <;> (try simp only) <;> try first | trivial | exact qBu _
   cases n <;> (try simp only) <;> try first | trivial | exact qBu _
   cases c <;> (try simp only) <;> try first | exact nilCase | trivial | exact qBu _
  ·rename_i h;cases hp[h]? with
   | none=>trivial
   | some sb =>
    cases sb <;> simp only <;> try first | trivial | exact qBu _
    rename_i t e' l;simp only[qDp];cases Nat.beq sz t.sz
    ·trivial
    ·cases Nat.beq e e'
     ·trivial
     ·simp only[Bool.and_self,cnT];cases srcL hp t x
      ·trivial
      ·exact⟨rfl,rfl,λh=>⟨(allP_app h).1,(allP_app h).2.1⟩⟩
theorem field_rel{act p:Prop}(hp:p)(l:List S0)(off:Nat)(n:Option Nat):RelR act (fieldR p l off n) (fieldQ l off n):=by
 cases n with
 | none =>
  simp only[fieldR,fieldQ];cases l[off]?
  ·trivial
  ·exact qDk hp
 | some m =>
  simp only[fieldR,fieldQ];cases Nat.ble (off+m) l.length
  ·trivial
  ·exact qDk hp
theorem fill_rel{act:Prop}(R:Read So S D)(hact:act->D A):∀ {ps:List (Nat × Nat × Arg)} {l m:List S0},fillQ S A ps l=some m->∃p,fillL So act ps l=some (p,m)/\p
 | [],l,m,h=>by
  simp only[fillQ,snJ] at h;subst h;exact⟨True,rfl,tV⟩
 | (off,sz,x)::r,l,m,h=>by
  simp only[fillQ] at h;split at h
  ·rename_i v hv;obtain⟨p,hp1,hp2⟩:=R.arg (act:=act) hact hv;split at h
   ·rename_i cs hcs;cases h1:Nat.beq cs.length sz with
    | false=>rw[h1] at h;simp at h
    | true =>
     rw[h1] at h;simp only[cnT] at h;cases h2:Nat.ble (off+sz) l.length with
     | false=>rw[h2] at h;simp at h
     | true =>
      rw[h2] at h;simp only[cnT] at h;obtain⟨q,hq1,hq2⟩:=fill_rel R hact h;refine⟨p/\q,?_,hp2,hq2⟩;simp only[fillL,hp1,hcs,qDp,h1,h2,Bool.and_self,cnT,hq1]
   ·cases h
  ·cases h
theorem qDu{act:Prop}(R:Read So S D)(hact:act->D A):∀ {xs:List Arg} {l:List SV},argsQ S A xs=some l->∃p,argsE So act xs=some (p,l)/\p
 | [],l,h=>by
  simp only[argsQ,snJ] at h;subst h;exact⟨True,rfl,tV⟩
 | x::r,l,h=>by
  simp only[argsQ] at h;split at h
  ·rename_i v m h1 h2;simp only[snJ] at h;subst h;obtain⟨p,hp1,hp2⟩:=R.arg (act:=act) hact h1;obtain⟨q,hq1,hq2⟩:=qDu R hact h2;exact⟨p/\q,by simp only[argsE,hp1,hq1],hp2,hq2⟩
  ·cases h
theorem bound_rel{act:Prop}(R:Read So S D)(hact:act->D A){d n:Int}{x:Option Arg}(h:boundQ S A d x=some n):∃p,bound So act d x=some (p,n)/\p:=by
 cases x with
 | none =>
  simp only[boundQ,snJ] at h;subst h;exact⟨True,rfl,tV⟩
 | some x =>
  simp only[boundQ] at h;split at h
  ·rename_i k m hm;simp only[snJ] at h;subst h;obtain⟨p,hp1,hp2⟩:=R.arg (act:=act) hact hm;exact⟨p,by simp only[bound,hp1],hp2⟩
  ·cases h
theorem prim_rel(R:Read So S D)(J:Nat->Option Con)(pr:Pr):RelR (D A) (runP J So (D A) pr) (primQ S A pr):=by
 have ar:∀ {x:Arg} {v:SV},argQ S A x=some v->∃p,argE So (D A) x=some (p,v)/\p:=λh=>R.arg id h
 have hhp:=R.hp;cases pr <;> simp only[primQ]
 case bad=>trivial
 case floA=>exact relR_no _
 case floI=>exact relR_no _
 case floC=>exact relR_no _
 case ext x xs =>
  split
  ·rename_i l hl;obtain⟨p,h1,h2⟩:=qDu (act:=D A) R id hl;simp only[runP,h1,hhp];exact qDr h2 (qBu _)
  ·trivial
 case mv x =>
  split
  ·rename_i v hv;obtain⟨p,h1,h2⟩:=ar hv;simp only[runP,h1,hhp];exact qDk h2
  ·trivial
 case strc x =>
  split
  ·rename_i v hv;obtain⟨p,h1,h2⟩:=ar hv;simp only[runP,h1,hhp];exact qDk h2
  ·trivial
 case pick c x y =>
  cases c with
  | v u=>simp only[primQ];trivial
  | t j =>
   simp only[primQ];split
   ·rename_i cb hc;obtain⟨p,h1,h2⟩:=ar hc;split
    ·rename_i xb yb hx hy;obtain⟨p1,h3,h4⟩:=R.arg (act:=D A/\cb=true) (λh=>R.pick hc h.1 h.2) hx;obtain⟨p2,h5,h6⟩:=R.arg (act:=D A/\cb=false) (λh=>R.pick hc h.1 h.2) hy;simp only[runP,h1,h3,h5,pickB,ret1,hhp];exact⟨rfl,λ_=>⟨h2,h4,h6⟩⟩
    ·rename_i xb hx hy;cases hm:memG (j,true) S.kn with
     | false=>trivial
     | true =>
      simp only[cnT];cases hg:gone S y with
      | false=>trivial
      | true =>
       simp only[cnT,rv1];cases y with
       | v u=>simp[gone] at hg
       | t k =>
        simp only[gone,Option.isNone_iff_eq_none] at hg;obtain⟨p1,h3,h4⟩:=R.arg (act:=D A/\cb=true) (λh=>R.pick hc h.1 h.2) hx;have hk:=(R.one hm hc).2 k hg;have h5:argE So (D A/\cb=false) (.t k)=none:=by simp only[argE,hk]
        simp only[runP,h1,h3,h5];exact⟨rfl,λ_=>⟨h2,(R.one hm hc).1,λ_=>h4⟩⟩
    ·rename_i yb hx hy;cases hm:memG (j,false) S.kn with
     | false=>trivial
     | true =>
      simp only[cnT];cases hg:gone S x with
      | false=>trivial
      | true =>
       simp only[cnT,rv1];cases x with
       | v u=>simp[gone] at hg
       | t k =>
        simp only[gone,Option.isNone_iff_eq_none] at hg;obtain⟨p1,h3,h4⟩:=R.arg (act:=D A/\cb=false) (λh=>R.pick hc h.1 h.2) hy;have hk:=(R.one hm hc).2 k hg;have h5:argE So (D A/\cb=true) (.t k)=none:=by simp only[argE,hk]
        simp only[runP,h1,h3,h5];exact⟨rfl,λ_=>⟨h2,(R.one hm hc).1,λ_=>h4⟩⟩
    ·trivial
   ·trivial
 case bin raw op x y =>
  split
  ·rename_i u v hu hv;obtain⟨p,h1,h2⟩:=ar hu;obtain⟨q,h3,h4⟩:=ar hv;simp only[runP,h1,h3,hhp];exact qDr ⟨h2,h4⟩ (bin_rel _ _ _ _)
  ·trivial
 case un op x =>
  split
  ·rename_i u hu;obtain⟨p,h1,h2⟩:=ar hu;simp only[runP,h1,hhp];exact qDr h2 (un_rel _ _)
  ·trivial
 case mm mx x y =>
  split
  ·rename_i u v hu hv;obtain⟨p,h1,h2⟩:=ar hu;obtain⟨q,h3,h4⟩:=ar hv;simp only[runP,h1,h3,hhp];exact qDr ⟨h2,h4⟩ (mm_rel _ _ _)
  ·trivial
 case beq neg x y =>
  split
  ·rename_i u v hu hv;obtain⟨p,h1,h2⟩:=ar hu;obtain⟨q,h3,h4⟩:=ar hv;simp only[runP,h1,h3,hhp];exact qDr ⟨h2,h4⟩ (beq_rel _ _ _)
  ·trivial
 case conv raw k x =>
  split
  ·rename_i k' n hu;obtain⟨p,h1,h2⟩:=ar hu;simp only[runP,h1,hhp];exact qDr h2 (fit_rel _ _ _)
  ·trivial
 case alloc e zero =>
  simp only[runP,hhp];exact⟨rfl,rfl,λ_=>trivial⟩
 case box e n x =>
  split
  ·rename_i v hv;obtain⟨p,h1,h2⟩:=ar hv;split
   ·rename_i l hl;simp only[runP,h1,hl,hhp];exact⟨rfl,rfl,λ_=>h2⟩
   ·trivial
  ·trivial
 case build zero parts =>
  split
  ·rename_i l hl;obtain⟨p,h1,h2⟩:=fill_rel (act:=D A) R id hl;simp only[runP,h1,hhp];exact qDk h2
  ·trivial
 case bslice e sz n zero parts =>
  cases ht:etOf zero with
  | none =>
   simp only;split
   ·rename_i l hl;obtain⟨p,h1,h2⟩:=fill_rel (act:=D A) R id hl;split
    ·rename_i v hp' hnew;simp only[runP,ht,h1,hhp,hnew];exact⟨rfl,rfl,λ_=>h2⟩
    ·trivial
   ·trivial
  | some t =>
   simp only;cases hsz:Nat.beq sz t.sz with
   | false=>trivial
   | true =>
    simp only[cnT];split
    ·rename_i l hl;obtain⟨p,h1,h2⟩:=fill_rel (act:=D A) R id hl;split
     ·rename_i vs hvs;split
      ·rename_i m hm;simp only[runP,ht,qDp,hsz,cnT,h1,hvs,hm,hhp];exact⟨rfl,rfl,λ_=>h2⟩
      ·trivial
     ·trivial
    ·trivial
 case load n x =>
  split
  ·rename_i u hu;obtain⟨p,h1,h2⟩:=ar hu;simp only[runP,h1,hhp];exact qDr h2 (load_rel _ _ _)
  ·trivial
 case store n x y =>
  split
  ·rename_i d v hd hv;obtain⟨p,h1,h2⟩:=ar hd;obtain⟨q,h3,h4⟩:=ar hv;split
   ·rename_i l hl;simp only[runP,h1,h3,hl,hhp];exact qDr ⟨h2,h4⟩ (store_rel _ _ _ _)
   ·trivial
  ·trivial
 case faddr off x =>
  split
  ·rename_i u hu;obtain⟨p,h1,h2⟩:=ar hu;simp only[runP,h1,hhp];exact qDr h2 (faddr_rel _ _ _)
  ·trivial
 case field off n x =>
  split
  ·rename_i u hu;obtain⟨p,h1,h2⟩:=ar hu;simp only[runP,h1,hhp];exact field_rel h2 _ _ _
  ·trivial
 case iaddr sz x y =>
  split
  ·rename_i u k i hu hv;obtain⟨p,h1,h2⟩:=ar hu;obtain⟨q,h3,h4⟩:=ar hv;simp only[runP,h1,h3,hhp];exact qDr ⟨h2,h4⟩ (iaddr_rel _ _ _ _)
  ·trivial
 case index x y =>
  split
  ·rename_i u k i hu hv;obtain⟨p,h1,h2⟩:=ar hu;obtain⟨q,h3,h4⟩:=ar hv;simp only[runP,h1,h3,hhp];exact⟨rfl,λhh=>⟨⟨h2,h4⟩,λha=>(hh ha).1⟩⟩
  ·trivial
 case sub sz x lo hi =>
  cases sz with
  | none =>
   simp only[primQ];split
   ·rename_i s hs;obtain⟨p,h1,h2⟩:=ar hs;split
    ·rename_i l h hl hh;obtain⟨q,h3,h4⟩:=bound_rel (act:=D A) R id hl;obtain⟨r,h5,h6⟩:=bound_rel (act:=D A) R id hh;simp only[runP,h1,h3,h5,hhp];exact⟨rfl,λhh=>⟨⟨h2,h4,h6⟩,λha=>(hh ha).1⟩⟩
    ·trivial
   ·trivial
  | some sz =>
   simp only[primQ];split
   ·rename_i s hs;obtain⟨p,h1,h2⟩:=ar hs;split
    ·rename_i n hn;split
     ·rename_i l h hl hh;obtain⟨q,h3,h4⟩:=bound_rel (act:=D A) R id hl;obtain⟨r,h5,h6⟩:=bound_rel (act:=D A) R id hh;simp only[runP,h1,hhp,hn,h3,h5];exact qDr ⟨h2,h4,h6⟩ (sub_rel _ _ _ _ _)
     ·trivial
    ·trivial
   ·trivial
 case lenS x =>
  split
  ·rename_i v hv;obtain⟨p,h1,h2⟩:=ar hv;simp only[runP,h1,hhp];exact qDk h2
  ·trivial
 case len x =>
  split
  ·rename_i s hs;obtain⟨p,h1,h2⟩:=ar hs;split
   ·rename_i n hn;simp only[runP,h1,hhp,hn];exact qDk h2
   ·trivial
  ·trivial
 case append e sz bytes zero x y =>
  split
  ·rename_i u v hu hv;obtain⟨p,h1,h2⟩:=ar hu;obtain⟨q,h3,h4⟩:=ar hv;simp only[runP,h1,h3,hhp];exact qDr ⟨h2,h4⟩ (append_rel _ _ _ _ _ _ _)
  ·trivial
 case extract x i =>
  split
  ·rename_i l hl;obtain⟨p,h1,h2⟩:=ar hl;split
   ·rename_i y hy;simp only[runP,h1,hy,hhp];exact qDk h2
   ·trivial
  ·trivial
 case call f xs=>trivial
 case callL f xs=>trivial
 case callV x xs=>trivial
 case callW fs x xs=>trivial
 case panic x=>trivial
theorem read_old(hk:Hold a S.kn)(hsl:∀i G v,getQ S.sl i=some (G,v)->Hold a G->∃Z,a.tmps[i]?=some (v.den Z)):Read (qDq S a) S (Hold a):=by
 have key:∀ {A:GL} {j:Nat} {cb:Bool},argQ S A (.t j)=some (.c (.o (.val (.bool cb))))->Hold a A->a.tmps[j]?=some (.bool cb):=λ{A j cb} hc hA=>by
  simp only[argQ] at hc;split at hc
  ·rename_i G u hg;cases hs:subG A S.kn G with
   | false=>rw[hs] at hc;simp at hc
   | true =>
    rw[hs] at hc;simp only[cnT,snJ] at hc;subst hc;obtain⟨Z,hr⟩:=hsl j G _ hg (subG_hold hA hk hs);exact hr
  ·cases hc
 refine⟨rfl,λhact h=>argQ_rel hk hact h,λ{A j cb b} hc hA hb=>Hold.cons (by rw[key hc hA,hb]) hA,λ{A j cb b} hm hc=>⟨λhA=>?_,λk hk'=>?_⟩⟩
 ·have h1:=key hc hA;have h2:=hk _ (qEk hm);simp only at h2;rw[h1] at h2;simpa using h2
 ·simp only[qDq,qEj,hk',Option.map_none]
end
end Go.Eng
