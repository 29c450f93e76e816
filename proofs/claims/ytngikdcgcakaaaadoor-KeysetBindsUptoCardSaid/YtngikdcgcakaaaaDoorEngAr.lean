import Derived.Lib.AppendStr
import Derived.Lib.Builder
import Derived.Lib.UnsafeStr
import Derived.Laws.BytesString
import Derived.Laws.MakeOwn
import Derived.RowKit3
import Derived.ChangeKeysEq
import Derived.Laws.StructEq
import Derived.Laws.IdiomCopy
import Derived.Laws.IdiomStrings
import Derived.Test.YtngikdcgcakaaaaDoorEngT
set_option linter.unusedSimpArgs false
set_option linter.unusedVariables false
namespace Go.Eng
section
variable {E:Env} {Z:Nat->Value} {S:St} {a:Act} {o:Oper} {act:Prop}
theorem bytesI_map:∀(l:List Int) (r:BA),(l.foldl (λr n=>r.push (UInt8.ofNat n.toNat)) r).data=r.data++(l.map λn=>UInt8.ofNat n.toNat).toArray
 | [],r=>by simp
 | x::l,r=>by
  rw[List.foldl_cons,bytesI_map l];simp[ByteArray.push]
theorem bytesI_eq(l:List Int):bytesI l=⟨(l.map λn=>UInt8.ofNat n.toNat).toArray⟩:=by
 have:=bytesI_map l ByteArray.empty;unfold bytesI;cases h:l.foldl (λr n=>r.push (UInt8.ofNat n.toNat)) ByteArray.empty with
 | mk d =>
  rw[h] at this;simp only[ByteArray.empty,ByteArray.emptyWithCapacity] at this;congr 1
  rw[this];exact Array.empty_append
theorem row_list{X:Nat->Prop}{w0 w:World}{hp:List SB}(h:HpSat X w0 w Z hp){hh:Nat}{l:List Int}(hsb:(∃e,hp[hh]?=some (.row .u8 e l))\/hp[hh]?=some (.view .u8 l)) :
  (∃cap,Z hh=.slice none l.length cap/\l=[])\/∃ad cap,Z hh=.slice (some ad) l.length cap/\∀j u,(l.map (Value.int .u8))[j]?=some u->w.cell? (ad.add j)=some u:=by
 have e:l.flatMap (ET.enc .u8)=l.map (Value.int .u8):=by
  have:∀l:List Int,l.flatMap (ET.enc .u8)=l.map (Value.int .u8):=by
   intro l;induction l with
   | nil=>rfl
   | cons x l ih=>simp only[List.flatMap_cons,List.map_cons,ih];rfl
  exact this l
 rcases hsb with⟨t,hsb⟩ | hsb
 ·obtain⟨h1,_⟩:=h.sat hh _ hsb;rcases h1.2 with⟨hv,h0⟩ | ⟨g,cap,cur,hv,_⟩
  ·have:l=[]:=List.eq_nil_of_length_eq_zero h0;exact .inl ⟨0,by rw[hv,this];rfl,this⟩
  ·refine .inr ⟨_,cap,hv,λj u hu=>?_⟩;have:=World.ownsRow.cells h1 (g:=g) (by rw[hv];rfl) j u;rw[show List.flatMap (ET.enc .u8) l=l.map (Value.int .u8) from e] at this;exact this hu
 ·obtain⟨ad,cap,hv,hc,h1⟩:=h.sat hh _ hsb;rw[show List.flatMap (ET.enc .u8) l=l.map (Value.int .u8) from e] at h1;cases ad with
  | none =>
   refine .inl ⟨cap,hv,?_⟩;cases l with
   | nil=>rfl
   | cons x l =>
    obtain⟨ad,had,_⟩:=h1 0 (.int .u8 x) rfl;cases had
  | some ad =>
   refine .inr ⟨ad,cap,hv,λj u hu=>?_⟩;obtain⟨ad',had,h2,_⟩:=h1 j u hu;cases had;exact h2
theorem qB0{v:SV}{ps:List Prop}(hlt:AllP ps->v.lt S.hp.length)(h:AllP ps->∀w0,Cls E Z S.hp w0->∀w,(execOp a.eval o).run E.P w=.ok (.value (v.den Z)) w):OpOK E Z S a o (RQ.toR (.still ps v)):=qAe hlt h
theorem quiet1{v:SV}{ps:List Prop}(hlt:AllP ps->v.lt S.hp.length)(h:AllP ps->∀w,Cls E Z S.hp w->(execOp a.eval o).run E.P w=.ok (.value (v.den Z)) w):OpOK E Z S a o (RQ.toR (.quiet ps v)):=qBf hlt h
theorem find_noEsc{fn:Func}(h:fn.name = "internal/abi.NoEscape")(h2:fn.origin=fn.name\/fn.origin = ""):Extern.findNext fn=none/\Extern.find fn=some Extern.AbiNoEscape.same:=by
 have e1:Extern.allNextRows.lookup "internal/abi.NoEscape" = none:=by rfl
 have e2:Extern.allNextRows.lookup "" = none:=by rfl
 have e3:Extern.allGenericRows.lookup "internal/abi.NoEscape" = none:=by rfl
 have e4:Extern.allTypedRows.lookup "internal/abi.NoEscape" = none:=by rfl
 have e5:Extern.allRows.lookup "internal/abi.NoEscape" = some Extern.AbiNoEscape.same:=by rfl
 refine⟨?_,?_⟩
 ·unfold Extern.findNext;rcases h2 with h2 | h2 <;> rw[h2,h] <;> simp[e1,e2]
 ·unfold Extern.find;rw[h];simp[e3,e4,e5]
theorem find_cmp{fn:Func}(h:fn.name = "internal/bytealg.abigen_runtime_cmpstring")(h2:fn.origin=fn.name\/fn.origin = ""):Extern.findNext fn=none/\Extern.find fn=some Extern.BytealgCompare.compare:=by
 have e1:Extern.allNextRows.lookup "internal/bytealg.abigen_runtime_cmpstring" = none:=by rfl
 have e2:Extern.allNextRows.lookup "" = none:=by rfl
 have e3:Extern.allGenericRows.lookup "internal/bytealg.abigen_runtime_cmpstring" = none:=by rfl
 have e4:Extern.allTypedRows.lookup "internal/bytealg.abigen_runtime_cmpstring" = none:=by rfl
 have e5:Extern.allRows.lookup "internal/bytealg.abigen_runtime_cmpstring" = some Extern.BytealgCompare.compare:=by rfl
 refine⟨?_,?_⟩
 ·unfold Extern.findNext;rcases h2 with h2 | h2 <;> rw[h2,h] <;> simp[e1,e2]
 ·unfold Extern.find;rw[h];simp[e3,e4,e5]
theorem find_idx{fn:Func}(h:fn.name = "internal/bytealg.IndexByteString")(h2:fn.origin=fn.name\/fn.origin = ""):Extern.findNext fn=none/\Extern.find fn=some Extern.BytealgIndexByte.indexByte:=by
 have e1:Extern.allNextRows.lookup "internal/bytealg.IndexByteString" = none:=by rfl
 have e2:Extern.allNextRows.lookup "" = none:=by rfl
 have e3:Extern.allGenericRows.lookup "internal/bytealg.IndexByteString" = none:=by rfl
 have e4:Extern.allTypedRows.lookup "internal/bytealg.IndexByteString" = none:=by rfl
 have e5:Extern.allRows.lookup "internal/bytealg.IndexByteString" = some Extern.BytealgIndexByte.indexByte:=by rfl
 refine⟨?_,?_⟩
 ·unfold Extern.findNext;rcases h2 with h2 | h2 <;> rw[h2,h] <;> simp[e1,e2]
 ·unfold Extern.find;rw[h];simp[e3,e4,e5]
theorem find_f32{fn:Func}(h:fn.name = "math.Float32bits")(h2:fn.origin=fn.name\/fn.origin = ""):Extern.findNext fn=none/\Extern.find fn=some Extern.MathFloatBits.float32bits:=by
 have e1:Extern.allNextRows.lookup "math.Float32bits" = none:=by rfl
 have e2:Extern.allNextRows.lookup "" = none:=by rfl
 have e3:Extern.allGenericRows.lookup "math.Float32bits" = none:=by rfl
 have e4:Extern.allTypedRows.lookup "math.Float32bits" = none:=by rfl
 have e5:Extern.allRows.lookup "math.Float32bits" = some Extern.MathFloatBits.float32bits:=by rfl
 refine⟨?_,?_⟩
 ·unfold Extern.findNext;rcases h2 with h2 | h2 <;> rw[h2,h] <;> simp[e1,e2]
 ·unfold Extern.find;rw[h];simp[e3,e4,e5]
theorem run_extern{f:Nat}{fn:Func}{c:Call}{e:Array Value->Sem Value}{vs:List Value}(hf:E.P.funcs[f]?=some fn)(hb:fn.body=none)(hn:fn.name ≠ "runtime.NumGoroutine")(h1:Extern.findNext fn=none)(h2:Extern.find fn=some e)
  (hc:c.callee=.value (.func f)) (hvs:c.args.toList.map a.eval=vs) (ho:o.op=.call c) (w:World):(execOp a.eval o).run E.P w=((e vs.toArray).run E.P w).andThen λv w'=>.ok (.value v) w':=by
 have hmap:c.args.map a.eval=vs.toArray:=by
  rw[<-hvs];apply Array.toList_inj.1;rw[Array.toList_map]
 unfold execOp;simp only[ho,resolve,hc,hmap,Act.eval,Deferred.ofValue,Sem.run_bind,Sem.run_pure,Result.andThen_ok,invoke,Array.empty_append,Array.append_empty,callFunc,run_program,hf];simp[hn,hb,h1,h2,Sem.run_bind]
theorem nilck_ok{x:Operand}{v:SV}(hx:a.eval x=v.den Z)(hl:v.lt S.hp.length)(ho:o.op=.nilCheck x):OpOK E Z S a o (extQ S.hp .nilck [v]).toR:=by
 cases v with
 | tup l=>trivial
 | c y =>
  cases y with
  | agg l=>trivial
  | o s =>
   cases s with
   | val u=>trivial
   | own h=>trivial
   | opt c h off=>trivial
   | bsl k=>trivial
   | prj k i j=>trivial
   | ar h off n i=>trivial
   | asl h off n lo len=>trivial
   | pel k i sz off =>
    simp only[extQ];split
    ·rename_i ks e l hsb;refine qB0 (λ_=>hl) λhi w0 hw w=>?_
     obtain⟨u,rs,hv,hb⟩:=hw.1.sat k _ hsb;obtain⟨ad,n,c,r,h1,_⟩:=qEw hb hi.1 (NT.dft ks);have e2:(SV.c (.o (.pel k i sz off))).den Z=.pointer (some (ad.add (i*sz+off))):=by
      show qBb (baseV (Z k)) _=_;rw[hv,qAq rs hb.one,h1];rfl
     have e1:a.eval x=.pointer (some (ad.add (i*sz+off))):=by rw[hx,e2]
     unfold execOp;simp only[ho,e1,e2];rfl
    ·trivial
   | hd h off =>
    simp only[extQ];split
    ·rename_i e l hsb;refine qB0 (λ_=>hl) λ_ w0 hw w=>?_
     obtain⟨b,hv,_⟩:=hw.1.sat h _ hsb;have e1:a.eval x=.pointer (some ⟨b,off,none⟩):=by rw[hx,SV.den,SC.den,S0.den,hv,qAi]
     have e2:(SV.c (.o (.hd h off))).den Z=.pointer (some ⟨b,off,none⟩):=by rw[<-hx,e1]
     unfold execOp;simp only[ho,e1,e2];rfl
    ·trivial
   | el h i sz off =>
    simp only[extQ];have key:∀(t:ET) (l:List t.T),((∃e,S.hp[h]?=some (.row t e l))\/S.hp[h]?=some (.view t l))->OpOK E Z S a o (RQ.toR (.still [i<l.length] (.c (.o (.el h i sz off))))):=λt l hsb=>by
     refine qB0 (λ_=>hl) λhi w0 hw w=>?_
     obtain⟨ad,n,c,hv,_⟩:=qEa hw.1 hsb hi.1;have e1:a.eval x=.pointer (some (ad.add (i*sz+off))):=by rw[hx,SV.den,SC.den,S0.den,hv];rfl
     have e2:(SV.c (.o (.el h i sz off))).den Z=.pointer (some (ad.add (i*sz+off))):=by rw[<-hx,e1]
     unfold execOp;simp only[ho,e1,e2];rfl
    split
    ·rename_i t e l hsb;exact key t l (.inl ⟨e,hsb⟩)
    ·rename_i t l hsb;exact key t l (.inr hsb)
    ·trivial
theorem zeroRow{tt:ET}{zero:List Value}{z:tt.T}(hz:tt.dec zero=some z)(n:Nat):(List.replicate n z).flatMap tt.enc=(List.replicate n zero).flatten:=by
 induction n with
 | zero=>rfl
 | succ n ih=>rw[List.replicate_succ,List.replicate_succ,List.flatMap_cons,List.flatten_cons,ih,ET.enc_dec hz]
theorem nbeqS{i j:Nat}(h:Nat.beq i j=true):i=j:=by simpa using h
theorem newrow_ok{ps:List Prop}{tt:ET}{e:Nat}{m:List tt.T}(h:AllP ps->∀w,Cls E Z S.hp w->∃n cap cur,(execOp a.eval o).run E.P w=.ok (.value (.slice (some ⟨w.heap.size,0,none⟩) n cap)) (w.alloc (.cells cur e))/\n=m.length/\m.length<=cap/\cap<=maxLen/\cur.size=cap*tt.sz/\cur.toList.take (m.length*tt.sz)=m.flatMap tt.enc) :
  OpOK E Z S a o (RQ.toR (.ok ps (.c (.o (.own S.hp.length))) (S.hp++[.row tt e m]))):=by
 intro hp;refine⟨by simp[SV.lt,SC.lt,S0.lt],by simp,λw hw K Q hK=>?_⟩;obtain⟨n,cap,cur,hr,rfl,h1,h2,h3,h4⟩:=h hp w hw;obtain⟨Z',hag,hnew,hsat⟩:=hw.1.alloc hw.2 (.cells cur e) (.row tt e m) (.slice (some ⟨w.heap.size,0,none⟩) m.length cap) rfl
  (λZ' hag hn=>⟨new_row (qAm tt.enc_len m) h1 h2 h3 h4,λb hb=>by
   simp only[Value.ownBlock,snJ] at hb;subst hb;exact .inl hw.2.size⟩) trivial trivial
 have:=hK Z' _ hag ⟨hsat,hw.2.alloc _⟩;simp only[SV.den,SC.den,S0.den,hnew] at this;unfold Oper.wp;rw[hr];exact this
theorem mkslice_ok{t e bytes:Nat}{i:TypeInfo}{zero:List Value}{x y:Operand}{v u:SV}(hu:E.P.underlying t=some (.slice e))(hi:E.P.info? e=some i)(hz:qBj E.P e=some zero)(hzl:zero.length=i.size)(h0:0<i.size)(hby:i.bytes=bytes)
  (hx:a.eval x=v.den Z) (hy:a.eval y=u.den Z) (ho:o.op=.makeSlice t x y):OpOK E Z S a o (extQ S.hp (.mkslice e i.size bytes zero) [v,u]).toR:=by
 obtain⟨i',zv,h1,h2,rfl⟩:=zero_of hz;have hii:i'=i:=by rw[hi] at h1;exact(Option.some.inj h1).symm
 subst hii;unfold extQ;split <;> rename_i heq1 heq2 <;> first | (cases heq1;done) | trivial | skip
 rename_i k n k' m;cases heq1;cases heq2;cases htt:etOf zv.cells.toList with
 | none=>trivial
 | some tt =>
  simp only;cases hsz:Nat.beq i'.size tt.sz with
  | false=>trivial
  | true =>
   have hsz':i'.size=tt.sz:=nbeqS hsz;simp only[cnT];cases hzz:tt.dec zv.cells.toList with
   | none=>trivial
   | some z =>
    refine newrow_ok λhp w hw=>?_
    obtain⟨⟨p1,p2,p3,p4⟩,_⟩:=hp;have hb:(i'.bytes:Int)*m<=281474976710656:=by rw[hby,Int.mul_comm];omega
    have hr:=run_make (P:=E.P) w t e i' zv hu hi h2 k k' n m p1 p2 hb p3;refine⟨n.toNat,m.toNat,madeCells zv.cells (m.toNat*i'.size),?_,by simp,by simp;omega,by simp only[maxLen];omega,by rw[size_madeCells,hsz'],?_⟩
    ·unfold execOp;simp only[ho,hx,hy,SV.den,SC.den,S0.den,Sem.run_bind,hr,Result.andThen_ok,Sem.run_pure]
    ·have hm:madeCells zv.cells (m.toNat*i'.size)=(List.replicate m.toNat zv.cells.toList).flatten.toArray:=by
      have:=zeros_eq zv.cells.toList (by rw[hzl];exact h0) m.toNat;rw[hzl] at this;simpa[madeCells] using this
     rw[hm,List.length_replicate,zeroRow hzz];have hsplit:List.replicate m.toNat zv.cells.toList=List.replicate n.toNat zv.cells.toList++List.replicate (m.toNat - n.toNat) zv.cells.toList:=by
      rw[List.replicate_append_replicate];congr 1
      omega
     simp only[];rw[hsplit,List.flatten_append,List.take_append_of_le_length,List.take_of_length_le]
     ·simp[List.length_flatten,hzl,hsz']
     ·simp[List.length_flatten,hzl,hsz']
theorem plain_nil{ps:List (Nat × Operand)}(h:qB3 ps=some []):ps=[]:=by
 cases ps with
 | nil=>rfl
 | cons x r =>
  obtain⟨i,x⟩:=x;simp only[qB3] at h;split at h
  ·cases h
  ·cases h
theorem bslice0_ok{t e:Nat}{i:TypeInfo}{z:List Value}{ps:Array (Nat × Operand)}{act:Prop}(hu:E.P.underlying t=some (.slice e))(hi:E.P.info? e=some i)(hps:qB3 ps.toList=some [])(hfl:flatZ z=true)
  (ho:o.op=.buildSlice t 0 ps) {J:Nat->Option Con}:OpOK E Z S a o (runP J S act (.bslice e i.size 0 z [])):=by
 have hp0:ps = #[]:=by
  have:=plain_nil hps;exact Array.toList_inj.1 (by simpa using this)
 subst hp0;simp only[runP];split
 ·rename_i tt htt;cases hsz:(i.size == tt.sz) with
  | false=>trivial
  | true =>
   simp only[cnT,List.map_nil,List.replicate_zero,List.flatten_nil,fillL,vals,decs];have:=newrow_ok (E:=E) (Z:=Z) (S:=S) (a:=a) (o:=o) (ps:=[]) (tt:=tt) (e:=e) (m:=[]) (λ_ w hw=>⟨0,0,#[],by
    unfold execOp;have hb:¬((0:Nat) > 2 ^ 24):=by simp
    have h00:0*i.size=0:=Nat.zero_mul _;have hf:∀(f:Nat->Option (Nat × Nat)) (x:Array Value),Instr.fill f x (Array.map (λx=>match x with | (i,x)=>(i,a.eval x)) (#[]:Array (Nat × Operand))).toList=some x:=λf x=>by
     simp[Instr.fill]
    simp only[ho,Instr.buildSlice,Sem.run_bind,run_underlying hu,Result.andThen_ok,sizeOf,typeInfo,run_program,hi,Sem.run_pure,hb,h00,if_false,if_true,hf];rw[show Array.range 0 = #[] from rfl,Array.map_empty];rfl,rfl,Nat.le_refl _,by simp[maxLen],by simp,by simp⟩)
   intro hp;exact this trivial
 ·rename_i hz;exfalso;unfold etOf at hz;unfold flatZ at hfl;split at hfl
  all_goals first | (simp at hfl;done) | (simp at hz;done)
theorem part_list{X:Nat->Prop}{w0 w:World}{hp:List SB}(h:HpSat X w0 w Z hp){hh k lo n:Nat}{l:List Int}(hpt:hp[hh]?=some (.part k lo n 1))(hsb:(∃e,hp[k]?=some (.row .u8 e l))\/hp[k]?=some (.view .u8 l))(hle:lo+n<=l.length) :
  (∃cap,Z hh=.slice none ((l.drop lo).take n).length cap/\(l.drop lo).take n=[])\/∃ad cap,Z hh=.slice (some ad) ((l.drop lo).take n).length cap/\∀j u,(((l.drop lo).take n).map (Value.int .u8))[j]?=some u->w.cell? (ad.add j)=some u:=by
 obtain⟨ad,len,cap,ad',hu,hv,hc,had,_⟩:=(h.sat hh _ hpt).1 (Nat.succ_pos _);have hlen:((l.drop lo).take n).length=n:=by rw[List.length_take,List.length_drop];omega
 rw[hlen,hv];cases ad' with
 | none =>
  refine .inl ⟨_,rfl,?_⟩;rcases Nat.eq_zero_or_pos n with h0 | h0
  ·rw[h0];exact List.take_zero
  ·obtain⟨x,_,hx⟩:=had (by omega);cases hx
 | some a =>
  refine .inr ⟨a,_,rfl,λj u hj=>?_⟩;have hjn:j<n:=by
   have:=(List.getElem?_eq_some_iff.1 hj).1;rwa [List.length_map,hlen] at this
  obtain⟨x,hx,hx2⟩:=had (by omega);simp only[snJ] at hx2;subst hx2;rcases row_list h hsb with⟨cap',e1,e2⟩ | ⟨ad2,cap',e1,e2⟩
  ·rw[e2] at hle;simp only[List.length_nil] at hle;omega
  ·rw[hu,hx] at e1;simp only[Value.slice.injEq,snJ] at e1;rw[e1.1,add_add];refine e2 _ _ ?_;rw[List.getElem?_map,List.getElem?_take,if_pos hjn,List.getElem?_drop] at hj;rw[List.getElem?_map,Nat.mul_one];exact hj
theorem fro_ok{s:Nat}{e:Nat}{x:Operand}{v:SV}(h1:E.P.underlying s=some (.slice e))(h2:E.P.underlying e=some (.int .u8))(hx:a.eval x=v.den Z)(ho:o.op=.convert s s x):OpOK E Z S a o (extQ S.hp .fro [v]).toR:=by
 unfold extQ;split <;> rename_i heq1 heq2 <;> first | (cases heq1;done) | trivial | skip
 cases heq2;rename_i h;split
 ·rename_i e' l hsb;intro hp;have hpos:0<l.length:=hp.1;have hlt:h<S.hp.length:=(List.getElem?_eq_some_iff.1 hsb).1;refine⟨by simpa[SV.lt,SC.lt,S0.lt] using hlt,by simp,λw hw K Q hK=>?_⟩;obtain⟨h1',hex⟩:=hw.1.sat h _ hsb;rcases h1'.2 with⟨_,h0⟩ | ⟨g,cap,cur,hv,hbz,hg,hnc,hcm,hcs,htake⟩
  ·omega
  ·have hpv:Z h=.slice (some ⟨g,0,none⟩) l.length cap:=hv;have e1:a.eval x=.slice (some ⟨g,0,none⟩) l.length cap:=by rw[hx,SV.den,SC.den,S0.den,hpv]
   have hsh:w.shape? g=some (e',cur.size):=by simp[World.shape?,hg]
   have hrun:(execOp a.eval o).run E.P w=.ok (.value (.slice (some ⟨g,0,none⟩) l.length cap)) (w.freeze { block:=g,off:=cur.size } 1):=by
    unfold execOp;simp only[ho,e1];simp[convert,run_underlying h1,run_underlying h2,markStringish,hsh]
   have hother:∀k,k≠g->Same w (w.freeze { block:=g,off:=cur.size } 1) k:=λk hk=>by
    unfold Same World.freeze;rw[if_neg (by decide)];simp only[Array.getElem?_modify];rw[if_neg (λh=>hk h.symm)]
   have hself:(w.freeze { block:=g,off:=cur.size } 1).heap[g]?=some (.cells cur e' (cur.size,cur.size+1)):=by
    unfold World.freeze;rw[if_neg (by decide)];simp only[Array.getElem?_modify,if_true,hg,Option.map_some];simp
   have hsz:(w.freeze { block:=g,off:=cur.size } 1).heap.size=w.heap.size:=by
    unfold World.freeze;split
    ·rfl
    ·simp
   have hos:(w.freeze { block:=g,off:=cur.size } 1).os=w.os/\(w.freeze { block:=g,off:=cur.size } 1).output=w.output:=by
    unfold World.freeze;split <;> exact⟨rfl,rfl⟩
   have hexg:Excl E.X E.w0 g:=hex g (by rw[hpv];rfl);have hvw:∀k,k<E.w0.heap.size->¬E.X k->Same w (w.freeze { block:=g,off:=cur.size } 1) k:=λk h1 h2=>hother k λhk=>by
    subst hk;rcases hexg with h | h
    ·omega
    ·exact h2 h
   have hcls:Cls E Z (S.hp.set h (.view .u8 l)) (w.freeze { block:=g,off:=cur.size } 1):=by
    refine⟨hw.1.turn h _ (.view .u8 l) hsb (λe=>by cases e) hvw (λk hk=>hother k λhkg=>hw.1.thaw hsb rfl (by rw[hpv];exact List.mem_singleton.2 rfl) (hkg ▸ hk)) (λj sb k hj hsbj hxj hk=>hother k λhkg=>?_) ?_ trivial,hw.2.keep hos.1 hos.2 (by rw[hsz];exact Nat.le_refl _) hvw⟩
    ·subst hkg;exact hw.1.apart j h sb _ k hj hsbj hsb hxj rfl hk (by rw[hpv];exact List.mem_singleton.2 rfl)
    ·refine⟨_,cap,hpv,hnc,λj u hu=>⟨_,rfl,?_,.inr ⟨cur,e',cur.size,hself⟩⟩⟩;have hcell:=World.ownsRow.cells h1' (g:=g) (by rw[hpv];rfl) j u hu;have hadd:((⟨g,0,none⟩:Addr).add j)=⟨g,j,none⟩:=qAw g j;rw[hadd] at hcell ⊢;rw[<-hcell];simp[World.cell?,hself,hg]
   have:=hK Z _ (λ_ _=>rfl) hcls;unfold Oper.wp;rw[hrun];rw[SV.den,SC.den,S0.den,hpv] at this;exact this
 ·trivial
theorem toStr_ok{s d:Nat}{e:Nat}{x:Operand}{v:SV}(h1:E.P.underlying s=some (.slice e))(h2:E.P.underlying e=some (.int .u8))(h3:E.P.underlying d=some .string)(hx:a.eval x=v.den Z)(ho:o.op=.convert s d x):OpOK E Z S a o (extQ S.hp .toStr [v]).toR:=by
 have hrun:∀w ad n c,v.den Z=.slice ad n c->(execOp a.eval o).run E.P w=((Conv.bytesToString (.slice ad n c)).run E.P w).andThen λv w'=>.ok (.value v) w':=λw ad n c hv=>by
  unfold execOp;simp[ho,hx,hv,convert,run_underlying h1,run_underlying h2,run_underlying h3]
 have mainP:∀(h k lo n:Nat) (l:List Int),v=.c (.o (.own h))->S.hp[h]?=some (.part k lo n 1)->((∃t,S.hp[k]?=some (.row .u8 t l))\/S.hp[k]?=some (.view .u8 l))->OpOK E Z S a o (RQ.toR (.quiet [lo+n<=l.length] (.c (.o (.val (.string (bytesI ((l.drop lo).take n)))))))):=λh k lo n l hv hpt hsb=>by
  refine quiet1 (λ_=>trivial) λhps w hw=>?_
  subst hv;rcases part_list hw.1 hpt hsb hps.1 with⟨cap,e1,e2⟩ | ⟨ad,cap,e1,e2⟩
  ·rw[hrun w _ _ _ e1,e2];rfl
  ·rw[hrun w _ _ _ e1];have hl:=run_loadCells_list (P:=E.P) w ad (((l.drop lo).take n).map (Value.int .u8)) e2;rw[List.length_map] at hl;rw[run_bytesToString w ad ((l.drop lo).take n).length cap ((l.drop lo).take n) hl];rfl
 have main:∀(h:Nat) (l:List Int),v=.c (.o (.own h))->((∃t,S.hp[h]?=some (.row .u8 t l))\/S.hp[h]?=some (.view .u8 l))->OpOK E Z S a o (RQ.toR (.quiet [] (.c (.o (.val (.string (bytesI l))))))):=λh l hv hsb=>by
  refine quiet1 (λ_=>trivial) λ_ w hw=>?_
  subst hv;rcases row_list hw.1 hsb with⟨cap,e1,e2⟩ | ⟨ad,cap,e1,e2⟩
  ·rw[hrun w _ _ _ e1];subst e2;rfl
  ·rw[hrun w _ _ _ e1];have hl:=run_loadCells_list (P:=E.P) w ad (l.map (Value.int .u8)) e2;rw[List.length_map] at hl;rw[run_bytesToString w ad l.length cap l hl];rfl
 unfold extQ;split <;> rename_i heq1 heq2 <;> first | (cases heq1;done) | trivial | skip
 ·rename_i h;cases heq2;split
  ·rename_i t l hsb;exact main h l rfl (.inl ⟨t,hsb⟩)
  ·rename_i l hsb;exact main h l rfl (.inr hsb)
  ·rename_i k lo n hsb;split
   ·rename_i t l hk;exact mainP h k lo n l rfl hsb (.inl ⟨t,hk⟩)
   ·rename_i l hk;exact mainP h k lo n l rfl hsb (.inr hk)
   ·trivial
  ·trivial
 ·cases heq2;refine qB0 (λ_=>trivial) λ_ w0 _ w=>?_
  rw[hrun w _ _ _ rfl];rfl
theorem run_eqP{P:Program}(w:World){t te:TypeId}{j:TypeInfo}(hp:P.underlying t=some (.pointer te))(hte:P.info? te=some j) :
  (∀a,(Op.equal t (.pointer (some a)) (.pointer (some a))).run P w=.ok true w)/\(∀a,(Op.equal t (.pointer (some a)) (.pointer none)).run P w=.ok false w) /\
  (∀a,(Op.equal t (.pointer none) (.pointer (some a))).run P w=.ok false w)/\(Op.equal t (.pointer none) (.pointer none)).run P w=.ok true w:=by
 refine⟨λa=>?_,λa=>?_,λa=>?_,?_⟩
 ·have:∀d,(Op.equalIn (d+1) t (.pointer (some a)) (.pointer (some a))).run P w=.ok true w:=λd=>by
   simp[Op.equalIn,run_underlying hp,sizeOf,typeInfo,hte,run_sameAddr_same]
  exact this 9999
 ·have:∀d,(Op.equalIn (d+1) t (.pointer (some a)) (.pointer none)).run P w=.ok false w:=λd=>by
   simp[Op.equalIn,run_underlying hp,sizeOf,typeInfo,hte]
  exact this 9999
 ·have:∀d,(Op.equalIn (d+1) t (.pointer none) (.pointer (some a))).run P w=.ok false w:=λd=>by
   simp[Op.equalIn,run_underlying hp,sizeOf,typeInfo,hte]
  exact this 9999
 ·have:∀d,(Op.equalIn (d+1) t (.pointer none) (.pointer none)).run P w=.ok true w:=λd=>by
   simp[Op.equalIn,run_underlying hp,sizeOf,typeInfo,hte]
  exact this 9999
theorem ptrSame_spec{X:Nat->Prop}{w0 w:World}{hp:List SB}(h:HpSat X w0 w Z hp){u v:S0}{b:Bool}(hb:ptrSame u v=some b)(hl:u.lt hp.length)(hl2:v.lt hp.length)(hrow:∀hh off,u=.hd hh off\/v=.hd hh off->∃b,Z hh=.pointer (some ⟨b,0,none⟩))(hopt:∀c hh off,u=.opt c hh off->∃b,Z hh=.pointer (some ⟨b,0,none⟩)) :
  ∃x y,u.den Z=.pointer x/\v.den Z=.pointer y/\((∃a,x=some a/\y=some a/\b=true)\/(∃a,x=some a/\y=none/\b=false)\/(∃a,x=none/\y=some a/\b=false)\/(x=none/\y=none/\b=true)):=by
 unfold ptrSame at hb;split at hb
 ·rename_i h1 o1 h2 o2;cases hq:Nat.beq h1 h2 with
  | false=>rw[hq] at hb;simp at hb
  | true =>
   rw[hq] at hb;simp only[cnT] at hb;cases hq2:Nat.beq o1 o2 with
   | false=>rw[hq2] at hb;simp at hb
   | true =>
    rw[hq2] at hb;simp only[cnT,snJ] at hb;have e1:=nbeqS hq;have e2:=nbeqS hq2;subst e1 e2;obtain⟨b1,hv⟩:=hrow h1 o1 (.inl rfl);refine⟨some ⟨b1,o1,none⟩,some ⟨b1,o1,none⟩,by rw[S0.den,hv,qAi],by rw[S0.den,hv,qAi],.inl ⟨_,rfl,rfl,hb.symm⟩⟩
 ·rename_i h1 o1;simp only[snJ] at hb;obtain⟨b1,hv⟩:=hrow h1 o1 (.inl rfl);exact⟨some ⟨b1,o1,none⟩,none,by rw[S0.den,hv,qAi],rfl,.inr (.inl ⟨_,rfl,rfl,hb.symm⟩)⟩
 ·rename_i h1 o1;simp only[snJ] at hb;obtain⟨b1,hv⟩:=hrow h1 o1 (.inr rfl);exact⟨none,some ⟨b1,o1,none⟩,rfl,by rw[S0.den,hv,qAi],.inr (.inr (.inl ⟨_,rfl,rfl,hb.symm⟩))⟩
 ·simp only[snJ] at hb;exact⟨none,none,rfl,rfl,.inr (.inr (.inr ⟨rfl,rfl,hb.symm⟩))⟩
 ·rename_i c h1 o1 h2 o2;cases hq:Nat.beq h1 h2 with
  | false=>rw[hq] at hb;simp at hb
  | true =>
   rw[hq] at hb;simp only[cnT] at hb;cases hq2:Nat.beq o1 o2 with
   | false=>rw[hq2] at hb;simp at hb
   | true =>
    rw[hq2] at hb;simp only[cnT,snJ] at hb;have e1:=nbeqS hq;have e2:=nbeqS hq2;subst e1 e2 hb;obtain⟨b1,hv⟩:=hopt c h1 o1 rfl;cases c with
    | true=>exact⟨some ⟨b1,o1,none⟩,some ⟨b1,o1,none⟩,by rw[S0.den,hv,qAi];rfl,by rw[S0.den,hv,qAi],.inl ⟨_,rfl,rfl,rfl⟩⟩
    | false=>exact⟨none,some ⟨b1,o1,none⟩,rfl,by rw[S0.den,hv,qAi],.inr (.inr (.inl ⟨_,rfl,rfl,rfl⟩))⟩
 ·rename_i c h1 o1;simp only[snJ] at hb;subst hb;obtain⟨b1,hv⟩:=hopt c h1 o1 rfl;cases c with
  | true=>exact⟨some ⟨b1,o1,none⟩,none,by rw[S0.den,hv,qAi];rfl,rfl,.inr (.inl ⟨_,rfl,rfl,rfl⟩)⟩
  | false=>exact⟨none,none,rfl,rfl,.inr (.inr (.inr ⟨rfl,rfl,rfl⟩))⟩
 ·cases hb
theorem ptrEq_ok{t te ty:Nat}{x y:Operand}{j:TypeInfo}{neg:Bool}{v u:SV}(hp:E.P.underlying t=some (.pointer te))(hte:E.P.info? te=some j)(hx:a.eval x=v.den Z)(hy:a.eval y=u.den Z)(hl:v.lt S.hp.length)(hl2:u.lt S.hp.length)(ho:o.op=.binOp (bif neg then .neq else .eql) t x y ty):OpOK E Z S a o (extQ S.hp (.ptrEq neg) [v,u]).toR:=by
 unfold extQ;split <;> rename_i heq1 heq2 <;> first | (cases heq1;done) | trivial | skip
 rename_i n p q;cases heq1;cases heq2;split
 ·rename_i b hb;split
  ·rename_i hck;refine qB0 (λ_=>trivial) λ_ w0 hw w=>?_
   obtain⟨px,py,d1,d2,hcase⟩:=ptrSame_spec hw.1 hb hl hl2 (λhh off hor=>by
    have hc:∃e l,S.hp[hh]?=some (.cells e l):=by
     simp only[Bool.and_eq_true] at hck;rcases hor with rfl | rfl
     ·exact cellsB_spec hck.1
     ·exact cellsB_spec hck.2
    obtain⟨e,l,hsb⟩:=hc;obtain⟨b,hv,_⟩:=hw.1.sat hh _ hsb;exact⟨b,hv⟩) (λc hh off hor=>by
    subst hor;simp only[Bool.and_eq_true] at hck;obtain⟨e,l,hsb⟩:=cellsB_opt hck.1;obtain⟨b,hv,_⟩:=hw.1.sat hh _ hsb;exact⟨b,hv⟩)
   obtain⟨q1,q2,q3,q4⟩:=run_eqP (P:=E.P) w hp hte;have e1:a.eval x=.pointer px:=by rw[hx];exact d1
   have e2:a.eval y=.pointer py:=by rw[hy];exact d2
   unfold execOp;simp only[ho,e1,e2];rcases hcase with⟨ad,rfl,rfl,rfl⟩ | ⟨ad,rfl,rfl,rfl⟩ | ⟨ad,rfl,rfl,rfl⟩ | ⟨rfl,rfl,rfl⟩ <;> cases neg <;> simp[eqGuard,binOp,q1,q2,q3,q4,SV.den,SC.den,S0.den]
  ·trivial
 ·trivial
theorem ekOf_spec{P:Program}{t:TypeId}{k:EK}(h:ekOf P t=some k):P.plainKey t=true/\(match k with
  | .int q=>P.underlying t=some (.int q)
  | .bool=>P.underlying t=some .bool
  | .str=>P.underlying t=some .string):=by
 unfold ekOf at h;split at h
 ·rename_i q hu;simp only[snJ] at h;subst h;exact⟨by simp[Program.plainKey,hu],hu⟩
 ·rename_i hu;simp only[snJ] at h;subst h;exact⟨by simp[Program.plainKey,hu],hu⟩
 ·rename_i hu;simp only[snJ] at h;subst h;exact⟨by simp[Program.plainKey,hu],hu⟩
 ·cases h
theorem toList_beq(x y:BA):(x.toList == y.toList)=decide (x=y):=by
 rw[ByteArray.toList_eq,ByteArray.toList_eq];by_cases h:x=y
 ·rw[deT h,h];exact beq_self_eq_true _
 ·rw[deF h];refine beq_eq_false_iff_ne.2 λe=>h ?_
  cases x;cases y;congr 1
  exact Array.toList_inj.1 e
theorem eqCells_int{q:IntKind}{r:List EK}{l m:List S0}{b:Bool}(h:qAx (.int q::r) l m=some b):∃x y l' m' b1,l=.val (.int q x)::l'/\m=.val (.int q y)::m'/\qAx r l' m'=some b1/\b=(decide (x=y) && b1):=by
 cases l with
 | nil=>simp[qAx] at h
 | cons x l' =>
  cases m with
  | nil=>simp[qAx] at h
  | cons y m' =>
   cases x <;> try (simp[qAx] at h;done)
   rename_i v;cases v <;> try (simp[qAx] at h;done)
   cases y <;> try (simp[qAx] at h;done)
   rename_i u;cases u <;> try (simp[qAx] at h;done)
   rename_i k1 x k2 y;simp only[qAx] at h;by_cases h1:k1=q
   ·by_cases h2:k2=q
    ·subst h1 h2;simp only[decide_true,cnT] at h;split at h
     ·rename_i b1 hb;simp only[snJ] at h;exact⟨x,y,l',m',b1,rfl,rfl,hb,h.symm⟩
     ·cases h
    ·simp[h1,h2] at h
   ·simp[h1] at h
theorem eqCells_bool{r:List EK}{l m:List S0}{b:Bool}(h:qAx (.bool::r) l m=some b):∃x y l' m' b1,l=.val (.bool x)::l'/\m=.val (.bool y)::m'/\qAx r l' m'=some b1/\b=((x == y) && b1):=by
 cases l with
 | nil=>simp[qAx] at h
 | cons x l' =>
  cases m with
  | nil=>simp[qAx] at h
  | cons y m' =>
   cases x <;> try (simp[qAx] at h;done)
   rename_i v;cases v <;> try (simp[qAx] at h;done)
   cases y <;> try (simp[qAx] at h;done)
   rename_i u;cases u <;> try (simp[qAx] at h;done)
   rename_i x y;simp only[qAx] at h;split at h
   ·rename_i b1 hb;simp only[snJ] at h;exact⟨x,y,l',m',b1,rfl,rfl,hb,h.symm⟩
   ·cases h
theorem eqCells_str{r:List EK}{l m:List S0}{b:Bool}(h:qAx (.str::r) l m=some b):∃x y l' m' b1,l=.val (.string x)::l'/\m=.val (.string y)::m'/\qAx r l' m'=some b1/\b=(decide (x=y) && b1):=by
 cases l with
 | nil=>simp[qAx] at h
 | cons x l' =>
  cases m with
  | nil=>simp[qAx] at h
  | cons y m' =>
   cases x <;> try (simp[qAx] at h;done)
   rename_i v;cases v <;> try (simp[qAx] at h;done)
   cases y <;> try (simp[qAx] at h;done)
   rename_i u;cases u <;> try (simp[qAx] at h;done)
   rename_i x y;simp only[qAx] at h;split at h
   ·rename_i b1 hb;simp only[snJ] at h;exact⟨x,y,l',m',b1,rfl,rfl,hb,h.symm⟩
   ·cases h
theorem eqCells_run{P:Program}(w:World)(d:Nat)(xs ys:Array Value):∀(ks:List EK) (i:Nat) (fs:List Field) (l m:List S0) (b:Bool),flatEq P i fs=some ks->qAx ks l m=some b ->
  (∀j,(l.map (S0.den Z))[j]?=none\/xs[i+j]?=(l.map (S0.den Z))[j]?)->(∀j,(m.map (S0.den Z))[j]?=none\/ys[i+j]?=(m.map (S0.den Z))[j]?)->(Op.eqFields (d+1) xs ys fs).run P w=.ok b w
 | ks,i,[],l,m,b,hf,he,hx,hy=>by
  simp only[flatEq,snJ] at hf;subst hf;cases l <;> cases m <;> simp[qAx] at he
  subst he;simp[Op.eqFields]
 | ks,i,f::fs,l,m,b,hf,he,hx,hy=>by
  simp only[flatEq] at hf;split at hf
  ·rename_i hn;split at hf
   ·rename_i k r hk hr;simp only[snJ] at hf;subst hf;obtain⟨hp,hu⟩:=ekOf_spec hk;have tail:∀ {x:S0} {l:List S0} {xs:Array Value},(∀j,((x::l).map (S0.den Z))[j]?=none\/xs[i+j]?=((x::l).map (S0.den Z))[j]?)->xs[f.offset]?=some (x.den Z)/\∀j,(l.map (S0.den Z))[j]?=none\/xs[i+1+j]?=(l.map (S0.den Z))[j]?:=λh=>by
     refine⟨?_,λj=>?_⟩
     ·rcases h 0 with h0 | h0
      ·simp at h0
      ·rw[hn.2];simpa using h0
     ·have:=h (j+1);simp only[List.map_cons,List.getElem?_cons_succ] at this;rwa [show i+(j+1)=i+1+j by omega] at this
    have go:∀ {x y:S0} {l' m':List S0} {b0 b1:Bool},l=x::l'->m=y::m'->(Op.equalIn (d+1) f.type (x.den Z) (y.den Z)).run P w=.ok b0 w->qAx r l' m'=some b1->b=(b0 && b1)->(Op.eqFields (d+1) xs ys (f::fs)).run P w=.ok b w:=by
     rintro x y l' m' b0 b1 rfl rfl h0 h1 rfl
     obtain⟨x1,x2⟩:=tail hx;obtain⟨y1,y2⟩:=tail hy;have ih:=eqCells_run w d xs ys r (i+1) fs l' m' b1 hr h1 x2 y2;simp only[Op.eqFields,hn.1,ne_eq,not_false_eq_true,if_true,Sem.run_bind,run_part_plain w hp x1,run_part_plain w hp y1,h0,Result.andThen_ok];cases b0
     ·simp
     ·simpa using ih
    cases k with
    | int q =>
     obtain⟨x,y,l',m',b1,e1,e2,h2,h3⟩:=eqCells_int he;exact go e1 e2 (run_equalIn_int w d f.type _ _ x y hu) h2 h3
    | bool =>
     obtain⟨x,y,l',m',b1,e1,e2,h2,h3⟩:=eqCells_bool he;exact go e1 e2 (run_equalIn_bool w d f.type x y hu) h2 h3
    | str =>
     obtain⟨x,y,l',m',b1,e1,e2,h2,h3⟩:=eqCells_str he;exact go e1 e2 (run_equalIn_string w d f.type x y hu) h2 (by rw[h3,toList_beq])
   ·cases hf
  ·cases hf
theorem aidx_ok{t n e n2 e2:Nat}{ti:TypeInfo}{x y:Operand}{v u:SV}(hu:E.P.underlying t=some (.array n e))(hi:E.P.info? e=some ti)(he:E.P.underlying e=some (.array n2 e2))(hx:a.eval x=v.den Z)(hy:a.eval y=u.den Z)
  (ho:o.op=.index t x y):OpOK E Z S a o (extQ S.hp (.aidx ti.size n) [v,u]).toR:=by
 unfold extQ;split <;> rename_i heq1 heq2 <;> first | (cases heq1;done) | trivial | skip
 rename_i sz m l kk i;cases heq1;cases heq2;split
 ·rename_i k hk;split
  ·rename_i cs hcs;cases hlen:Nat.beq cs.length (n*ti.size) with
   | false=>trivial
   | true =>
    have hlen:=Nat.eq_of_beq_eq_true hlen;refine qB0 (λ_=>?_) λhp w0 hw w=>?_
    ·intro z hz;simp only[List.mem_map] at hz;obtain⟨j,_,rfl⟩:=hz;trivial
    ·have hp:=hp.1;have e1:a.eval x=.agg (l.map (S0.den Z)).toArray:=hx;have e2:a.eval y=.int kk i:=hy;have hag:(isAgg e).run E.P w=.ok true w:=by simp[isAgg,run_underlying he]
     have hle:i.toNat*ti.size+ti.size<=n*ti.size:=by
      rw[<-Nat.succ_mul];exact Nat.mul_le_mul_right _ (by omega)
     have hcells:((l.map (S0.den Z)).toArray.extract (i.toNat*ti.size) (i.toNat*ti.size+ti.size))=(((List.range ti.size).map λj=>S0.val (.int k (cs.getD (i.toNat*ti.size+j) 0))).map (S0.den Z)).toArray:=by
      rw[intsOf_den hcs];apply Array.ext
      ·simp;omega
      ·intro j h1 h2;have hj:j<ti.size:=by simpa using h2
       have hlt:i.toNat*ti.size+j<cs.length:=by omega
       simp[List.getD_eq_getElem?_getD,List.getElem?_eq_getElem hlt,S0.den]
     have hsz:∀w,(sizeOf e).run E.P w=.ok ti.size w:=λw=>by simp[sizeOf,typeInfo,hi]
     have hrun:(Instr.index t (.agg (l.map (S0.den Z)).toArray) (.int kk i)).run E.P w=.ok (.agg ((l.map (S0.den Z)).toArray.extract (i.toNat*ti.size) (i.toNat*ti.size+ti.size))) w:=by
      simp[Instr.index,asIntOf,run_underlying hu,if_pos hp,hsz,part,hag]
     unfold execOp;simp only[ho,e1,e2];simp only[Sem.run_bind,hrun,Result.andThen_ok,hcells];rfl
  ·trivial
 ·trivial
theorem aggEq_ok{t ty:Nat}{fs:Array Field}{ks:List EK}{x y:Operand}{neg:Bool}{v u:SV}(hu:E.P.underlying t=some (.struct fs))(hst:structEq E.P t fs=some ks)(hx:a.eval x=v.den Z)(hy:a.eval y=u.den Z)(ho:o.op=.binOp (bif neg then .neq else .eql) t x y ty):OpOK E Z S a o (extQ S.hp (.aggEq neg ks) [v,u]).toR:=by
 unfold structEq at hst;split at hst
 ·rename_i hc;unfold extQ;split <;> rename_i heq1 heq2 <;> first | (cases heq1;done) | trivial | skip
  rename_i n k l m;cases heq1;cases heq2;split
  ·rename_i b hb;refine qB0 (λ_=>trivial) λ_ w0 hw w=>?_
   have hfs:E.P.fieldsOf t=fs:=by simp[Program.fieldsOf,hu]
   have key:(Op.equalIn 10000 t (.agg (l.map (S0.den Z)).toArray) (.agg (m.map (S0.den Z)).toArray)).run E.P w=.ok b w:=by
    rw[run_equalIn_struct w 9999 t _ _ (by rw[hfs];exact hu) hc.1,hfs];exact eqCells_run (P:=E.P) w 9998 _ _ ks 0 fs.toList l m b hst hb (λj=>.inr (by rw[Nat.zero_add,List.getElem?_toArray])) (λj=>.inr (by rw[Nat.zero_add,List.getElem?_toArray]))
   have e1:a.eval x=.agg (l.map (S0.den Z)).toArray:=hx;have e2:a.eval y=.agg (m.map (S0.den Z)).toArray:=hy;unfold execOp;simp only[ho,e1,e2];cases neg
   ·simp[run_eqGuard_agg w .eql t x y _ _ hc.2,run_eql_struct,key,SV.den,SC.den,S0.den]
   ·simp[run_eqGuard_agg w .neq t x y _ _ hc.2,run_neq_struct,key,SV.den,SC.den,S0.den]
  ·trivial
 ·cases hst
theorem toUns_ok{s d t:Nat}{x:Operand}{v:SV}{i:TypeInfo}(h1:E.P.underlying s=some (.pointer t))(h2:E.P.underlying d=some .unsafePointer)(h3:E.P.info? t=some i)(h4:i.size≠0)(hx:a.eval x=v.den Z)(hl:v.lt S.hp.length)(ho:o.op=.convert s d x):OpOK E Z S a o (extQ S.hp .toUns [v]).toR:=by
 unfold extQ;split <;> rename_i heq1 heq2 <;> first | (cases heq1;done) | trivial | skip
 rename_i h off;cases heq2;split
 ·rename_i e l hsb;cases hb:Nat.blt off l.length with
  | false=>trivial
  | true =>
   simp only[cnT];refine quiet1 (λ_=>hl) λ_ w hw=>?_
   obtain⟨b,hv,hbk,_⟩:=hw.1.sat h _ hsb;have hlt:off<l.length:=by simpa using hb
   have e1:a.eval x=.pointer (some ⟨b,off,none⟩):=by rw[hx,SV.den,SC.den,S0.den,hv,qAi]
   have hr:=Lib.run_to_unsafe (P:=E.P) w (src:=s) (dst:=d) (e:=e) (cells:=l.length) ⟨b,off,none⟩ h1 h2 h3 h4 (by simp[World.shape?,hbk]) hlt;unfold execOp;simp only[ho,e1,Sem.run_bind,hr,Result.andThen_ok,Sem.run_pure];rw[<-hx,e1]
 ·trivial
theorem fromUns_ok{s d u:Nat}{x:Operand}{v:SV}{i:TypeInfo}(h1:E.P.underlying s=some .unsafePointer)(h2:E.P.underlying d=some (.pointer u))(h3:E.P.info? u=some i)(h4:liesAt E.P E.P.depth u (i.size / E.P.cellsOf u) 0 u 1=true)(hx:a.eval x=v.den Z)(hl:v.lt S.hp.length)(ho:o.op=.convert s d x):OpOK E Z S a o (extQ S.hp (.fromUns u i.size) [v]).toR:=by
 unfold extQ;split <;> rename_i heq1 heq2 <;> first | (cases heq1;done) | trivial | skip
 rename_i h;cases heq1;cases heq2;split
 ·rename_i e l hsb;cases hb:Nat.beq e u with
  | false=>trivial
  | true =>
   simp only[cnT];cases hb2:Nat.beq l.length i.size with
   | false=>trivial
   | true =>
    simp only[cnT];have hee:=nbeqS hb;subst hee;have hll:=nbeqS hb2;refine quiet1 (λ_=>hl) λ_ w hw=>?_
    obtain⟨b,hv,hbk,_⟩:=hw.1.sat h _ hsb;have e1:a.eval x=.pointer (some ⟨b,0,none⟩):=by rw[hx,SV.den,SC.den,S0.den,hv,qAi]
    have hr:=Lib.run_from_unsafe (P:=E.P) w (src:=s) (dst:=d) (e:=e) (cells:=l.length) ⟨b,0,none⟩ h1 h2 h3 (by simp[World.shape?,hbk]) (by rw[hll];exact h4);unfold execOp;simp only[ho,e1,Sem.run_bind,hr,Result.andThen_ok,Sem.run_pure];rw[<-hx,e1]
 ·trivial
theorem sdata_ok{c:Call}{t e:Nat}{x:Operand}{v:SV}(h1:E.P.underlying t=some (.slice e))(hc:c.callee=.builtin .unsafeSliceData)(hca:c.args = #[x])(hx:a.eval x=v.den Z)(hl:v.lt S.hp.length)(ho:o.op=.call c):OpOK E Z S a o (extQ S.hp .sdata [v]).toR:=by
 unfold extQ;split <;> rename_i heq1 heq2 <;> first | (cases heq1;done) | trivial | skip
 rename_i h;cases heq2;split
 ·rename_i t' l hsb;refine qB0 (λ_=>hl) λhp w0 hw w=>?_
  obtain⟨h1',_⟩:=hw.1.sat h _ hsb;rcases h1'.2 with⟨_,h0⟩ | ⟨g,cap,cur,hv,_,hg,hnc,_⟩
  ·have:=hp.1;omega
  ·have hcap:cap≠0:=by
    have:=hp.1;omega
   have e1:a.eval x=.slice (some ⟨g,0,none⟩) l.length cap:=by rw[hx,SV.den,SC.den,S0.den,hv]
   unfold execOp;simp[ho,resolve,hc,hca,e1,invoke,builtin,Lib.run_unsafeSliceData_row,hcap,SV.den,SC.den,S0.den,hv,qBb,Addr.add]
 ·trivial
theorem u8_mod(n:Int)(h:0<=n/\n<256):n.toNat % 2 ^ 8=n.toNat:=by omega
theorem ustr_ok{c:Call}{t e it:Nat}{x y:Operand}{v u:SV}(h1:E.P.underlying t=some (.pointer e))(h2:E.P.cellsOf e=1)(hc:c.callee=.builtin .unsafeString)(hca:c.args = #[x,y])(hct:c.argTypes = #[t,it])(hx:a.eval x=v.den Z)(hy:a.eval y=u.den Z)(ho:o.op=.call c):OpOK E Z S a o (extQ S.hp (.ustr e) [v,u]).toR:=by
 unfold extQ;split <;> rename_i heq1 heq2 <;> first | (cases heq1;done) | trivial | skip
 rename_i e' h n;cases heq1;cases heq2;split
 ·rename_i e2 l hsb;cases hee:Nat.beq e e2 with
  | false=>trivial
  | true =>
   have:=nbeqS hee;subst this;simp only[cnT];intro hp;obtain⟨⟨rfl,hpos,hall⟩,_⟩:=hp;refine⟨trivial,by simp,λw hw K Q hK=>?_⟩;obtain⟨h1',hex⟩:=hw.1.sat h _ hsb;rcases h1'.2 with⟨_,h0⟩ | ⟨g,cap,cur,hv,hbz,hg,hnc,hcm,hcs,htake⟩
   ·omega
   ·have hcell:∀j x,(l.map λn=>UInt8.ofNat n.toNat)[j]?=some x->w.cell? ((⟨g,0,none⟩:Addr).add j)=some (.int .u8 x.toNat):=by
     intro j x hjx;rw[List.getElem?_map,Option.map_eq_some_iff] at hjx;obtain⟨n,hn,rfl⟩:=hjx;have hmem:=hall n (List.mem_of_getElem? hn);have e1:l.flatMap (ET.enc .u8)=l.map (Value.int .u8):=by
      have:∀l:List Int,l.flatMap (ET.enc .u8)=l.map (Value.int .u8):=by
       intro l;induction l with
       | nil=>rfl
       | cons x l ih=>simp only[List.flatMap_cons,List.map_cons,ih];rfl
      exact this l
     have:=World.ownsRow.cells h1' (g:=g) (by rw[hv];rfl) j (.int .u8 n) (by
      rw[show List.flatMap (ET.enc .u8) l=l.map (Value.int .u8) from e1,List.getElem?_map,hn];rfl)
     rw[this];have e3:(UInt8.ofNat n.toNat).toNat=n.toNat:=by
      rw[UInt8.toNat_ofNat'];exact u8_mod n hmem
     rw[e3,Int.toNat_of_nonneg hmem.1]
    have hr:=Lib.run_unsafeString_row (P:=E.P) w t it o.type e h1 h2 g cur.size (by simp[World.shape?,hg]) (l.map λn=>UInt8.ofNat n.toNat) (by
     intro hnil;have:l=[]:=by simpa using hnil
     rw[this] at hpos;simp at hpos) (by
     rw[List.length_map,hcs];show l.length<=cap*1;omega) (by rw[List.length_map];simp only[maxLen] at hcm;omega) hcell
    rw[List.length_map] at hr;have hpv:Z h=.slice (some ⟨g,0,none⟩) l.length cap:=hv;have hrun:(execOp a.eval o).run E.P w=.ok (.value (.string (bytesI l))) (w.freeze ⟨g,0,none⟩ l.length):=by
     unfold execOp;simp only[ho,resolve,hc,hca,hct,invoke,builtin,Sem.run_bind,Sem.run_pure,Result.andThen_ok];have e1:a.eval x=.pointer (some ⟨g,0,none⟩):=by rw[hx,SV.den,SC.den,S0.den,hpv];rfl
     have e2:a.eval y=.int .i64 l.length:=by rw[hy];rfl
     simp only[List.map_toArray,List.map_cons,List.map_nil,e1,e2,hr,Result.andThen_ok,bytesI_eq]
    have hother:∀k,k≠g->Same w (w.freeze ⟨g,0,none⟩ l.length) k:=λk hk=>by
     unfold Same World.freeze;split
     ·rfl
     ·simp only[Array.getElem?_modify];rw[if_neg (λh=>hk h.symm)]
    have hsz:(w.freeze ⟨g,0,none⟩ l.length).heap.size=w.heap.size:=by
     unfold World.freeze;split
     ·rfl
     ·simp
    have hos:(w.freeze ⟨g,0,none⟩ l.length).os=w.os/\(w.freeze ⟨g,0,none⟩ l.length).tape=w.tape/\(w.freeze ⟨g,0,none⟩ l.length).output=w.output:=by
     unfold World.freeze;split <;> exact⟨rfl,rfl,rfl⟩
    have hexg:Excl E.X E.w0 g:=hex g (by rw[hpv];rfl);have hvw:∀k,k<E.w0.heap.size->¬E.X k->Same w (w.freeze ⟨g,0,none⟩ l.length) k:=λk h1 h2=>hother k λhk=>by
     subst hk;rcases hexg with h | h
     ·omega
     ·exact h2 h
    have hcls:Cls E Z (S.hp.set h .dead) (w.freeze ⟨g,0,none⟩ l.length):=by
     refine⟨hw.1.turn h _ .dead hsb (λe=>by cases e) hvw (λk hk=>hother k λhkg=>hw.1.thaw hsb rfl (by rw[hpv];exact List.mem_singleton.2 rfl) (hkg ▸ hk)) (λj sb k hj hsbj hxj hk=>hother k λhkg=>?_) trivial trivial,hw.2.keep hos.1 hos.2.2 (by rw[hsz];exact Nat.le_refl _) hvw⟩;subst hkg;exact hw.1.apart j h sb _ k hj hsbj hsb hxj rfl hk (by rw[hpv];exact List.mem_singleton.2 rfl)
    have:=hK Z _ (λ_ _=>rfl) hcls;unfold Oper.wp;rw[hrun];exact this
 ·trivial
theorem noEsc_ok{f:Nat}{fn:Func}{c:Call}{x:Operand}{v:SV}(hf:E.P.funcs[f]?=some fn)(hb:fn.body=none)(hname:fn.name = "internal/abi.NoEscape")(ho2:fn.origin=fn.name\/fn.origin = "")(hc:c.callee=.value (.func f))(hca:c.args.toList=[x])(hx:a.eval x=v.den Z)(hl:v.lt S.hp.length)(ho:o.op=.call c):OpOK E Z S a o (extQ S.hp .noEsc [v]).toR:=by
 unfold extQ;split <;> rename_i heq1 heq2 <;> first | (cases heq1;done) | trivial | skip
 cases heq2;obtain⟨f1,f2⟩:=find_noEsc hname ho2;refine qB0 (λ_=>hl) λ_ w0 _ w=>?_
 rw[run_extern hf hb (by rw[hname];decide) f1 f2 hc (by rw[hca,List.map_cons,List.map_nil]) ho w];rw[hx];rfl
theorem cmpStr_ok{f:Nat}{fn:Func}{c:Call}{x y:Operand}{v u:SV}(hf:E.P.funcs[f]?=some fn)(hb:fn.body=none)(hname:fn.name = "internal/bytealg.abigen_runtime_cmpstring")(ho2:fn.origin=fn.name\/fn.origin = "")(hc:c.callee=.value (.func f))(hca:c.args.toList=[x,y])(hx:a.eval x=v.den Z)(hy:a.eval y=u.den Z)(ho:o.op=.call c):OpOK E Z S a o (extQ S.hp .cmpStr [v,u]).toR:=by
 unfold extQ;split <;> rename_i heq1 heq2 <;> first | (cases heq1;done) | trivial | skip
 cases heq2;obtain⟨f1,f2⟩:=find_cmp hname ho2;refine qB0 (λ_=>trivial) λ_ w0 _ w=>?_
 rw[run_extern hf hb (by rw[hname];decide) f1 f2 hc (by rw[hca,List.map_cons,List.map_cons,List.map_nil]) ho w];rw[hx,hy];simp only[SV.den,SC.den,S0.den];rw[Lib.run_compareString];rfl
theorem idxByte_ok{f:Nat}{fn:Func}{c:Call}{x y:Operand}{v u:SV}(hf:E.P.funcs[f]?=some fn)(hb:fn.body=none)(hname:fn.name = "internal/bytealg.IndexByteString")(ho2:fn.origin=fn.name\/fn.origin = "")(hc:c.callee=.value (.func f))(hca:c.args.toList=[x,y])(hx:a.eval x=v.den Z)(hy:a.eval y=u.den Z)(ho:o.op=.call c):OpOK E Z S a o (extQ S.hp .idxByte [v,u]).toR:=by
 unfold extQ;split <;> rename_i heq1 heq2 <;> first | (cases heq1;done) | trivial | skip
 cases heq2;obtain⟨f1,f2⟩:=find_idx hname ho2;refine qB0 (λ_=>trivial) λ_ w0 _ w=>?_
 rw[run_extern hf hb (by rw[hname];decide) f1 f2 hc (by rw[hca,List.map_cons,List.map_cons,List.map_nil]) ho w];rw[hx,hy];simp only[SV.den,SC.den,S0.den];rw[Lib.run_indexByteString];rfl
theorem f32bits_ok{f:Nat}{fn:Func}{c:Call}{x:Operand}{v:SV}(hf:E.P.funcs[f]?=some fn)(hb:fn.body=none)(hname:fn.name = "math.Float32bits")(ho2:fn.origin=fn.name\/fn.origin = "")(hc:c.callee=.value (.func f))(hca:c.args.toList=[x])(hx:a.eval x=v.den Z)(ho:o.op=.call c):OpOK E Z S a o (extQ S.hp .f32bits [v]).toR:=by
 unfold extQ;split <;> rename_i heq1 heq2 <;> first | (cases heq1;done) | trivial | skip
 cases heq2;obtain⟨f1,f2⟩:=find_f32 hname ho2;refine qB0 (λ_=>trivial) λ_ w0 _ w=>?_
 rw[run_extern hf hb (by rw[hname];decide) f1 f2 hc (by rw[hca,List.map_cons,List.map_nil]) ho w];rw[hx];rfl
theorem nameMap_spec{P:Program}{t:Nat}(h:qEt P t=true):∃k e i,P.underlying t=some (.map k e)/\P.underlying k=some .string/\P.underlying e=some (.int .i64)/\P.info? e=some i/\i.zero=some (.int .i64 0):=by
 unfold qEt at h;split at h
 ·rename_i k e hu;split at h
  ·rename_i h1 h2;split at h
   ·rename_i i hi;split at h
    ·rename_i n hz;have:=of_decide_eq_true h;subst this;exact⟨k,e,i,hu,h1,h2,hi,hz⟩
    ·cases h
   ·cases h
  ·cases h
 ·cases h
theorem mapOf_spec{X:Nat->Prop}{w0 w:World}{hp:List SB}(h:HpSat X w0 w Z hp){x:S0}{ps:List Prop}{m:MapC}(hx:mapOfQ hp x=some (ps,m))(hp':AllP ps):qEr X w0 w (x.den Z) m:=by
 unfold mapOfQ at hx;split at hx
 ·simp only[snJ,Prod.mk.injEq] at hx;obtain⟨_,rfl⟩:=hx;rfl
 ·rename_i hh;split at hx
  ·rename_i m' hsb;simp only[snJ,Prod.mk.injEq] at hx;obtain⟨_,rfl⟩:=hx;exact h.sat hh _ hsb
  ·cases hx
 ·rename_i k i j;split at hx
  ·rename_i ks e l hsb;split at hx
   ·rename_i m' hm;simp only[snJ,Prod.mk.injEq] at hx;obtain⟨rfl,rfl⟩:=hx;obtain⟨u,rs,hv,hb⟩:=h.sat k _ hsb;obtain⟨r,hr,hok⟩:=hb.refs.at (NT.dft ks) hp'.1;obtain⟨v,hj,hma⟩:=qCz hm hok;show qEr X w0 w (projV (Z k) i j) m';rw[hv,projV_bag u hr hj hma.one];exact hma
   ·cases hx
  ·cases hx
 ·cases hx
theorem mkmap_ok{t:Nat}(ho:o.op=.makeMap t none):OpOK E Z S a o (extQ S.hp .mkmap []).toR:=by
 show OpOK E Z S a o (.ok (AllP []) (.c (.o (.own S.hp.length))) (S.hp++[.map (some [])]));intro _;refine⟨by simp[SV.lt,SC.lt,S0.lt],by simp,λw hw K Q hK=>?_⟩;obtain⟨Z',hag,hnew,hsat⟩:=hw.1.alloc hw.2 (.map #[] 0) (.map (some [])) (.map (some w.heap.size)) rfl
  (λZ' hag hn=>⟨w.heap.size,#[],0,rfl,heap_alloc_new w _,rfl,.inl hw.2.size⟩) trivial trivial
 have:=hK Z' _ hag ⟨hsat,hw.2.alloc _⟩;simp only[SV.den,SC.den,S0.den,hnew] at this;unfold Oper.wp execOp;simp only[ho,Option.map_none,Sem.run_bind,RowKit.run_makeMap,Result.andThen_ok,Sem.run_pure];exact this
theorem run_lookup_at{P:Program}{w:World}{t:Nat}(h:qEt P t=true){X:Nat->Prop}{w0:World}{v:Value}{m:MapC}(hm:qEr X w0 w v m)(s:BA):(Instr.lookup t v (.string s) false).run P w=.ok (.int .i64 (mget m s)) w:=by
 obtain⟨k,e,i,h1,h2,h3,h4,h5⟩:=nameMap_spec h;cases m with
 | none =>
  rw[show v=_ from hm];simp[Instr.lookup,run_underlying h1,MapKept.run_checkKey h2 (k:=.string s) trivial,Instr.findKey,run_underlying h2,Instr.findNow,qEo h4 h5,mget]
 | some m =>
  obtain⟨b,es,c,hv,hb,he,_⟩:=hm;rw[hv];rcases findNow_ents he s 0 with⟨f1,f2,_⟩ | ⟨n,j,e0,f1,f2,_⟩
  ·simp[Instr.lookup,run_underlying h1,MapKept.run_getObj_map hb,MapKept.run_checkKey h2 (k:=.string s) trivial,Instr.findKey,run_underlying h2,f2,qEo h4 h5,mget,f1]
  ·simp[Instr.lookup,run_underlying h1,MapKept.run_getObj_map hb,MapKept.run_checkKey h2 (k:=.string s) trivial,Instr.findKey,run_underlying h2,f2,mget,f1]
theorem mget_ok{t:Nat}{x y:Operand}{v u:SV}(hnm:qEt E.P t=true)(hx:a.eval x=v.den Z)(hy:a.eval y=u.den Z)(ho:o.op=.lookup t x y false):OpOK E Z S a o (extQ S.hp .mget [v,u]).toR:=by
 unfold extQ;split <;> rename_i heq1 heq2 <;> first | (cases heq1;done) | trivial | skip
 cases heq2;split
 ·rename_i x0 s _ ps m hm;refine quiet1 (λ_=>trivial) λhp w hw=>?_
  have hma:=mapOf_spec hw.1 hm hp;have e1:a.eval x=x0.den Z:=hx;have e2:a.eval y=.string s:=hy;unfold execOp;simp only[ho,e1,e2,Sem.run_bind,run_lookup_at hnm hma,Result.andThen_ok,Sem.run_pure];rfl
 ·trivial
theorem run_eqMap{P:Program}{t k e:Nat}{w:World}(hu:P.underlying t=some (.map k e))(v:Option Nat):(Op.equal t (.map v) (.map none)).run P w=.ok v.isNone w:=by
 have:∀d,(Op.equalIn (d+1) t (.map v) (.map none)).run P w=.ok v.isNone w:=λd=>by
  cases v <;> simp[Op.equalIn,run_underlying hu]
 exact this 9999
theorem mnil_ok{t k e:Nat}{neg:Bool}{x y:Operand}{v:SV}(hu:E.P.underlying t=some (.map k e))(hx:a.eval x=v.den Z)(hy:a.eval y=.map none){ty:Nat}(ho:o.op=.binOp (bif neg then .neq else .eql) t x y ty):OpOK E Z S a o (extQ S.hp (.mnil neg) [v]).toR:=by
 unfold extQ;split <;> rename_i heq1 heq2 <;> first | (cases heq1;done) | trivial | skip
 cases heq2;cases heq1;split
 ·rename_i x0 _ ps m hm;refine qB0 (λ_=>trivial) λhp w0 hw w=>?_
  have hma:=mapOf_spec hw.1 hm hp;cases m with
  | none =>
   have hv:x0.den Z=.map none:=hma;have hx':a.eval x=.map none:=by rw[hx];exact hv
   cases neg <;> (unfold execOp;simp[ho,hx',hy,eqGuard,binOp,run_eqMap hu,SV.den,SC.den,S0.den])
  | some m =>
   obtain⟨b,es,c,hv,_⟩:=hma;have hx':a.eval x=.map (some b):=by rw[hx];exact hv
   cases neg <;> (unfold execOp;simp[ho,hx',hy,eqGuard,binOp,run_eqMap hu,SV.den,SC.den,S0.den])
 ·trivial
theorem mkif_ok{t:Nat}{fs:Array Field}{x:Operand}{v:SV}(hu:E.P.underlying t=some (.struct fs))(hx:a.eval x=v.den Z)(ho:o.op=.makeInterface t x):OpOK E Z S a o (extQ S.hp (.mkif t) [v]).toR:=by
 unfold extQ;split <;> rename_i heq1 heq2 <;> first | (cases heq1;done) | trivial | skip
 cases heq2;cases heq1;split
 ·rename_i l _ vs hvs;refine qB0 (λ_=>trivial) λhp w0 hw w=>?_
  have hx':a.eval x=.agg vs.toArray:=by
   rw[hx];show Value.agg (l.map (S0.den Z)).toArray=_;rw[plainL_den hvs]
  unfold execOp;simp[ho,hx',Instr.makeInterface,run_underlying hu,SV.den,SC.den,S0.den]
 ·trivial
theorem run_eqSlice{P:Program}{t e:Nat}{w:World}(hu:P.underlying t=some (.slice e))(a:Option Addr)(n c:Nat):(Op.equal t (.slice a n c) (.slice none 0 0)).run P w=.ok a.isNone w:=by
 have:∀d,(Op.equalIn (d+1) t (.slice a n c) (.slice none 0 0)).run P w=.ok a.isNone w:=λd=>by
  cases a <;> simp[Op.equalIn,run_underlying hu]
 exact this 9999
theorem snil_ok{t e:Nat}{neg:Bool}{x y:Operand}{v:SV}(hu:E.P.underlying t=some (.slice e))(hx:a.eval x=v.den Z)(hy:a.eval y=.slice none 0 0){ty:Nat}(ho:o.op=.binOp (bif neg then .neq else .eql) t x y ty):OpOK E Z S a o (extQ S.hp (.snil neg) [v]).toR:=by
 have key:∀(w:World) (ad:Addr) (n c:Nat),v.den Z=.slice (some ad) n c->(execOp a.eval o).run E.P w=.ok (.value (.bool neg)) w:=λw ad n c hv=>by
  have hx':a.eval x=.slice (some ad) n c:=by rw[hx];exact hv
  cases neg <;> (unfold execOp;simp[ho,hx',hy,eqGuard,binOp,run_eqSlice hu])
 unfold extQ;split <;> rename_i heq1 heq2 <;> first | (cases heq1;done) | trivial | skip
 ·cases heq2;cases heq1;split
  ·rename_i h0 _ tt e0 l hsb;refine qB0 (λ_=>trivial) λhp w0 hw w=>?_
   obtain⟨h1,_⟩:=hw.1.sat _ _ hsb;rcases h1.2 with⟨hv,hn⟩ | ⟨g,cap,cur,hv,_⟩
   ·have:=hp.1;omega
   ·rw[key w _ _ _ hv];rfl
  ·rename_i h0 _ tt l hsb;refine qB0 (λ_=>trivial) λhp w0 hw w=>?_
   obtain⟨ad,cap,hv,_,hc⟩:=hw.1.sat _ _ hsb;have hl:0<l.length:=hp.1;have hpos:=tt.sz_pos;have hlen:0<(l.flatMap tt.enc).length:=by
    rw[qAm tt.enc_len];exact Nat.mul_pos hl hpos
   obtain⟨a0,ha0,_⟩:=hc 0 _ (List.getElem?_eq_getElem hlen);rw[ha0] at hv;rw[key w _ _ _ hv];rfl
  ·trivial
 ·cases heq2;cases heq1;refine qB0 (λ_=>trivial) λhp w0 hw w=>?_
  have hx':a.eval x=.slice none 0 0:=hx;cases neg <;> (unfold execOp;simp[ho,hx',hy,eqGuard,binOp,run_eqSlice hu,SV.den,SC.den,S0.den])
open Go.ChangeMaps (setBlock) in
theorem run_update_at{P:Program}{w:World}{t b c:Nat}{es:Array MapEntry}{m:List (BA × Int)}(h:qEt P t=true)(hb:w.heap[b]?=some (.map es c))(he:entsOK es m)(s:BA)(v:Int) :
  ∃es' c',(Instr.mapUpdate t (.map (some b)) (.string s) (.int .i64 v)).run P w=.ok () (setBlock w b (.map es' c'))/\entsOK es' (mset m s v):=by
 obtain⟨k,e,i,h1,h2,h3,h4,h5⟩:=nameMap_spec h;have hss:(s == s)=true:=by rw[toList_beq'];exact deT rfl
 rcases findNow_ents he s 0 with⟨f1,f2,f3⟩ | ⟨n,j,e0,f1,f2,f3,f4,f5⟩
 ·refine⟨es.push ⟨.string s,.int .i64 v,c⟩,c+1,?_,?_⟩
  ·simp[Instr.mapUpdate,run_underlying h1,MapKept.run_getObj_map hb,MapKept.run_checkKey h2 (k:=.string s) trivial,Instr.findKey,run_underlying h2,f2,MapKept.run_setObj_map _ hb,setBlock]
  ·unfold entsOK at he ⊢;rw[f3,Array.toList_push,List.map_append,he,List.map_append];rfl
 ·have hj:es[j]?=some e0:=by simpa using f3
  refine⟨es.modify j λe=>{ e with key:=.string s,val:=.int .i64 v },c,?_,?_⟩
  ·simp[Instr.mapUpdate,run_underlying h1,MapKept.run_getObj_map hb,MapKept.run_checkKey h2 (k:=.string s) trivial,Instr.findKey,run_underlying h2,f2,hj,f4,Instr.keyThatStays,Instr.sameBits,hss,MapKept.run_setObj_map _ hb,setBlock]
  ·unfold entsOK at he ⊢;rw[f5];apply List.ext_getElem?;intro q;rw[List.getElem?_map,List.getElem?_map,Array.getElem?_toList,Array.getElem?_modify,List.getElem?_set];have hq:=congrArg (λl=>l[q]?) he;simp only[List.getElem?_map,Array.getElem?_toList] at hq;by_cases hjq:j=q
   ·subst hjq;have hm:j<m.length:=by
     rcases Nat.lt_or_ge j m.length with h' | h'
     ·exact h'
     ·rw[List.getElem?_eq_none h',hj] at hq;simp at hq
    simp[hj,hm]
   ·rw[if_neg hjq,if_neg hjq];exact hq
open Go.ChangeMaps (setBlock heap_setBlock_same) in
theorem mput_ok{t:Nat}{x y z:Operand}{v u q:SV}(hnm:qEt E.P t=true)(hx:a.eval x=v.den Z)(hy:a.eval y=u.den Z)(hz:a.eval z=q.den Z)(ho:o.op=.mapUpdate t x y z):OpOK E Z S a o (extQ S.hp .mput [v,u,q]).toR:=by
 unfold extQ;split <;> rename_i heq1 heq2 <;> first | (cases heq1;done) | trivial | skip
 cases heq2;rename_i x0 s n;have e2:a.eval y=.string s:=hy;have e3:a.eval z=.int .i64 n:=hz;have core:∀ {w:World} {b c:Nat} {es:Array MapEntry} {m:List (BA × Int)},a.eval x=.map (some b)->w.heap[b]?=some (.map es c)->entsOK es m ->
   ∃es' c',(execOp a.eval o).run E.P w=.ok .skip (setBlock w b (.map es' c'))/\entsOK es' (mset m s n):=by
  intro w b c es m hxv hb he;obtain⟨es',c',hr,he'⟩:=run_update_at hnm hb he s n;refine⟨es',c',?_,he'⟩;unfold execOp;simp only[ho,hxv,e2,e3,Sem.run_bind,hr,Result.andThen_ok,Sem.run_pure]
 have same:∀(w:World) (b:Nat) (ob:Obj) (k:Nat),k≠b->Same w (setBlock w b ob) k:=λw b ob k hk=>by
  show(w.heap.setIfInBounds b ob)[k]?=w.heap[k]?;exact Array.getElem?_setIfInBounds_ne (Ne.symm hk)
 have stay:∀ {w:World} {b:Nat} (ob:Obj),Excl E.X E.w0 b->Stays E.X E.w0 w->Stays E.X E.w0 (setBlock w b ob):=λ{w b} ob hex hf =>
  hf.keep rfl rfl (by simp[setBlock]) λk h1 h2=>same w b ob k λe=>by
   subst e;rcases hex with h | h
   ·omega
   ·exact h2 h
 have view:∀ {w:World} {b:Nat} (ob:Obj),Excl E.X E.w0 b->∀k,k<E.w0.heap.size->¬E.X k->Same w (setBlock w b ob) k:=λ{w b} ob hex k h1 h2=>same w b ob k λe=>by
   subst e;rcases hex with h | h
   ·omega
   ·exact h2 h
 unfold mapPutQ;split
 ·rename_i hh;split
  ·rename_i m hsb;refine skip_ok (by simp) λhp w hw=>?_
   cases m with
   | none=>cases hp.1
   | some m =>
    obtain⟨b,es,c,hv,hb,he,hex⟩:=hw.1.sat hh _ hsb;obtain⟨es',c',hr,he'⟩:=core (hx.trans hv) hb he;have hbm:b∈fp (Z hh):=by rw[hv];exact List.mem_singleton.2 rfl
    refine⟨_,hr,hw.1.turn hh _ (.map (mput (some m) s n)) hsb (λ_=>rfl) (view _ hex) (λk hk=>same _ _ _ _ λe=>Froz.no hb (by intros;simp) (e ▸ hk)) (λj sb k hj hjs hx' hk=>same _ _ _ _ λe=>?_) ?_ trivial,stay _ hex hw.2⟩
    ·subst e;exact hw.1.apart j hh sb _ _ hj hjs hsb hx' rfl hk hbm
    ·exact⟨b,es',c',hv,heap_setBlock_same hb _,he',hex⟩
  ·trivial
 ·rename_i k i j;split
  ·rename_i ks e l hsb;split
   ·rename_i m hm;refine skip_ok (by simp) λhp w hw=>?_
    cases m with
    | none=>cases hp.2.1
    | some m =>
     have hil:i<l.length:=hp.1;obtain⟨u0,rs,hv,hbg⟩:=hw.1.sat k _ hsb;obtain⟨r,hr,hok⟩:=hbg.refs.at (NT.dft ks) hil;obtain⟨v0,hj,hma⟩:=qCz hm hok;have hone:=hma.one;obtain⟨b,es,c,hv0,hb,he,hex⟩:=hma;have hden:a.eval x=.map (some b):=by
      rw[hx];show projV (Z k) i j=_;rw[hv,projV_bag u0 hr hj hone,hv0]
     obtain⟨es',c',hrun,he'⟩:=core hden hb he;have hat:qBo rs i j=some v0:=by simp only[qBo,hr,obS,hj]
     have hf0:fp1 v0=some b:=by rw[hv0];rfl
     have hsl:∃ad n c,u0=.slice ad n c:=by obtain⟨_,_,h1⟩:=hbg.slice;exact⟨_,_,_,h1⟩
     have hbm:b∈fp (Z k):=by rw[hv];exact(qCo hsl).2 (.inr ⟨i,j,v0,hat,hf0⟩)
     refine⟨_,hrun,hw.1.turn k _ (.bag ks e (l.set i (nkPut ks (l.getD i (NT.dft ks)) j (mput (some m) s n)))) hsb (λ_=>rfl) (view _ hex) (λk hk=>same _ _ _ _ λe=>Froz.no hb (by intros;simp) (e ▸ hk)) (λj' sb k' hj' hjs hx' hk=>same _ _ _ _ λe=>?_) ?_ trivial,stay _ hex hw.2⟩
     ·subst e;exact hw.1.apart j' k sb _ _ hj' hjs hsb hx' rfl hk hbm
     ·refine⟨u0,rs,hv,⟨?_,hbg.excl,?_,hbg.uniq,hbg.alone,hbg.pos⟩⟩
      ·have hvals:qAs ks (l.set i (nkPut ks (l.getD i (NT.dft ks)) j (mput (some m) s n))) rs=qAs ks l rs:=by
        rw[bagVals_set _ l rs i r hbg.refs.len hr,qD3,bagVals_el (NT.dft ks) l rs i r hbg.refs.len hr];have h7:(i+1)*ks.length=i*ks.length+ks.length:=by rw[Nat.add_mul,Nat.one_mul]
        rw[h7,<-List.drop_drop,List.append_assoc,List.take_append_drop,List.take_append_drop]
       rw[hvals,List.length_set];exact qCj hbg.row λk' hk'=>same _ _ _ _ λe=>hbg.alone i j v0 b hat hf0 (by rw[<-e];exact hk')
      ·refine hbg.refs.turn (λr' hr'=>?_) λi' j' v' hi' hv' k' hk'=>same _ _ _ _ λe=>?_
       ·rw[hr] at hr';cases hr';refine qD2 hm hok (λj' v' hj' hv' k' hk'=>same _ _ _ _ λe=>?_) λv' hv'=>?_
        ·subst e;exact hj' (hbg.uniq i j' i j v' v0 _ (by simp only[qBo,hr,obS,hv']) hat hk' hf0).2
        ·rw[hj] at hv';cases hv';exact⟨b,es',c',hv0,heap_setBlock_same hb _,he',hex⟩
       ·subst e;exact hi' (hbg.uniq i' j' i j v' v0 _ hv' hat hk' hf0).1
   ·trivial
  ·trivial
 ·trivial
section
open Go.Lib
theorem byteElem_spec{P:Program}{e:Nat}(h:byteElem P e=true):∃i,P.info? e=some i/\i.zero=some (.int .u8 0)/\i.size=1/\i.bytes=1:=by
 unfold byteElem at h;split at h
 ·rename_i i hi;split at h
  ·rename_i n hz;simp only[Bool.and_eq_true,decide_eq_true_eq] at h;obtain⟨⟨h1,h2⟩,h3⟩:=h;subst h1;exact⟨i,hi,hz,h2,h3⟩
  ·cases h
 ·cases h
theorem bytesL_cells(s:BA):(qDs s).flatMap (ET.u8.enc)=strCells s:=by
 unfold qDs strCells;rw[List.flatMap_map];simp[ET.enc,List.flatMap_singleton'];induction s.data.toList with
 | nil=>rfl
 | cons x r ih=>simp[ih]
theorem bytesL_len(s:BA):(qDs s).length=s.size:=by
 unfold qDs;rw[List.length_map,Array.length_toList];rfl
theorem run_append_str{P:Program}{w:World}{t u ty e n:Nat}{i:TypeInfo}(ht:P.underlying t=some (.slice e))(hu:P.underlying u=some .string)(hi:P.info? e=some i)(hz:i.zero=some (.int .u8 0))(hsize:i.size=1)(hby:i.bytes=1)
  {v:Value} {xs:List Value} (hown:w.ownsRow 0 e 1 v n xs) (s:BA) (hb:n+s.size<=140737488355328) :
  ∃v' w',(Builtin.append_ #[t,u] ty #[v,.string s]).run P w=.ok v' w'/\w'.ownsRow 0 e 1 v' (n+s.size) (xs++strCells s)/\w.grownBy w' v.ownBlock/\(∃ad n c,v'=.slice ad n c)/\(∀b,v'.ownBlock=some b->v.ownBlock=some b\/w.heap.size<=b):=by
 have h63:n+s.size<=maxLen:=by simp only[maxLen];omega
 obtain⟨v',w',hr,h1,h2,h3⟩:=run_append_own_string (P:=P) w 0 t u ty e i ht hu hi hz hsize hby v n xs hown s h63 hb (Nat.zero_le _);refine⟨v',w',hr,h1,h2,?_,λb hbb=>?_⟩
 ·rcases h1.2 with⟨h,_⟩ | ⟨_,_,_,h,_⟩
  ·exact⟨_,_,_,h⟩
  ·exact⟨_,_,_,h⟩
 ·have hxl:xs.length=n:=by simpa using hown.1
  rcases hown.2 with⟨hv,hn⟩ | ⟨g,cap,cur,hv,hbg,hg,hnc,hcm,hcs,htake⟩
  ·have hown':w.ownsRow w.heap.size e 1 v n xs:=⟨hown.1,.inl ⟨hv,hn⟩⟩;obtain⟨v2,w2,hr2,k1,_,_⟩:=run_append_own_string (P:=P) w w.heap.size t u ty e i ht hu hi hz hsize hby v n xs hown' s h63 hb (Nat.le_refl _);rw[hr] at hr2;simp only[Result.ok.injEq] at hr2;obtain⟨rfl,rfl⟩:=hr2;rcases k1.2 with⟨h,_⟩ | ⟨g,_,_,h,hge,_⟩
   ·rw[h] at hbb;simp[Value.ownBlock] at hbb
   ·rw[h] at hbb;simp only[Value.ownBlock,snJ] at hbb;omega
  ·subst hv;by_cases hroom:n+s.size<=cap
   ·have hcs':cur.size=cap:=by simpa using hcs
    rw[run_append_room_string (P:=P) w t u ty e i ht hu hi hsize g n cap cur hg s hroom (by omega)] at hr;simp only[Result.ok.injEq] at hr;obtain⟨rfl,_⟩:=hr;exact .inl hbb
   ·rw[run_append_grow_string (P:=P) w t u ty e i (.int .u8 0) ht hu hi hz ⟨g,0,none⟩ n cap xs (by rw[hsize];simpa using hxl) (hown.cells (g:=g) rfl) s (by omega) (by omega) (by rw[hby];exact growslice_fits (by omega) (by omega))] at hr;simp only[Result.ok.injEq] at hr;obtain⟨rfl,_⟩:=hr;simp only[Value.ownBlock,snJ] at hbb;omega
theorem appStr_ok{t u e:Nat}{x y:Operand}{v q:SV}(ht:E.P.underlying t=some (.slice e))(hu:E.P.underlying u=some .string)(he:byteElem E.P e=true)(hx:a.eval x=v.den Z)(hy:a.eval y=q.den Z)
  (ho:o.op=.call { callee:=.builtin .append,args := #[x,y],argTypes := #[t,u] }):OpOK E Z S a o (extQ S.hp (.appStr e) [v,q]).toR:=by
 obtain⟨i,hi,hz,hsize,hby⟩:=byteElem_spec he;have hrun:∀w,(execOp a.eval o).run E.P w=((Builtin.append_ #[t,u] o.type #[v.den Z,q.den Z]).run E.P w).andThen λv w'=>.ok (.value v) w':=λw=>by
  unfold execOp;simp[ho,resolve,invoke,builtin,hx,hy]
 unfold extQ;split <;> rename_i heq1 heq2 <;> first | (cases heq1;done) | trivial | skip
 ·cases heq1;cases heq2;rename_i s;intro hp;have hp1:=hp.1;refine⟨by simp[SV.lt,SC.lt,S0.lt],by simp,λw hw K Q hK=>?_⟩;obtain⟨v',w',hr,hown',hgr,href,hblk⟩:=run_append_str (P:=E.P) (w:=w) (ty:=o.type) ht hu hi hz hsize hby (v:=.slice none 0 0) (n:=0) (xs:=[]) (World.ownsRow_nil w 0 e 1) s (by omega);simp only[Nat.zero_add,List.nil_append] at hown';obtain⟨Z',hag,hnew,hcls⟩:=append_core (S:=S) (E:=E) (tt:=.u8) (l:=qDs s) rfl hw.1 hw.2 (by rw[bytesL_len,bytesL_cells];exact hown') hgr href hblk (λb hb=>by simp[Value.ownBlock] at hb) (λb hb=>by simp[Value.ownBlock] at hb) (λb hb=>by simp[Value.ownBlock] at hb);have:=hK _ w' hag hcls;simp only[SV.den,SC.den,S0.den,hnew] at this;unfold Oper.wp;rw[hrun w];simp only[SV.den,SC.den,S0.den,hr,Result.andThen_ok];exact this
 ·cases heq1;cases heq2;rename_i hh s;split
  ·rename_i e' l hsb;cases hee:Nat.beq e e' with
   | false=>trivial
   | true =>
    simp only[cnT];have:e=e':=by simpa using hee
    subst this;intro hp;have hp1:=hp.1;refine⟨by simp[SV.lt,SC.lt,S0.lt],by simp,λw hw K Q hK=>?_⟩;obtain⟨h1',h2'⟩:=hw.1.sat hh _ hsb;obtain⟨v',w',hr,hown',hgr,href,hblk⟩:=run_append_str (P:=E.P) (w:=w) (ty:=o.type) ht hu hi hz hsize hby (v:=Z hh) (n:=l.length) (xs:=l.flatMap ET.u8.enc) h1' s hp1;obtain⟨Z',hag,hnew,hcls⟩:=append_core (S:=S) (E:=E) (tt:=.u8) (l:=l++qDs s) (hp0:=S.hp.set hh .dead) (by simp) (hw.1.kill hh) hw.2 (by rw[List.length_append,bytesL_len,List.flatMap_append,bytesL_cells];exact hown') hgr href hblk h2' (λ_=>qDi h1') (λb hb j sb hj hx' hfp=>by
     by_cases hjh:j=hh
     ·subst hjh;rw[List.getElem?_set_self (List.getElem?_eq_some_iff.1 hsb).1] at hj;cases hj;cases hx'
     ·rw[List.getElem?_set_ne (Ne.symm hjh)] at hj;exact hw.1.apart j hh sb _ b hjh hj hsb hx' rfl hfp (fp_own hb))
    have:=hK _ w' hag hcls;simp only[SV.den,SC.den,S0.den,hnew] at this;unfold Oper.wp;rw[hrun w];simp only[SV.den,SC.den,S0.den,hr,Result.andThen_ok];exact this
  ·trivial
end
theorem pidx_ok{t n e:Nat}{ti:TypeInfo}{x y:Operand}{v u:SV}(hu:E.P.underlying t=some (.array n e))(hi:E.P.info? e=some ti)(hx:a.eval x=v.den Z)(hlv:v.lt S.hp.length)(hy:a.eval y=u.den Z)
  (ho:o.op=.indexAddr t x y):OpOK E Z S a o (extQ S.hp (.pidx n ti.size) [v,u]).toR:=by
 have hsz:∀w,(sizeOf e).run E.P w=.ok ti.size w:=λw=>by simp[sizeOf,typeInfo,hi]
 have run:∀(g off:Nat) (kk:IntKind) (i:Int) (w:World),a.eval x=.pointer (some ⟨g,off,none⟩)->a.eval y=.int kk i->(0<=i/\i<n)->(execOp a.eval o).run E.P w=.ok (.value (.pointer (some ⟨g,off+i.toNat*ti.size,none⟩))) w:=λg off kk i w e1 e2 hp=>by
  have e4:((⟨g,off,none⟩:Addr).add (i.toNat*ti.size))=⟨g,off+i.toNat*ti.size,none⟩:=by rw[<-qAw,add_add,qAw]
  unfold execOp;simp[ho,e1,e2,e4,Instr.indexAt,asIntOf,run_underlying hu,Instr.sureAddr,if_pos hp,hsz]
 unfold extQ;split <;> rename_i heq1 heq2 <;> first | (cases heq1;done) | trivial | skip
 ·rename_i n' sz' h off kk i;cases heq1;cases heq2;split
  ·rename_i e' l hsb;split
   ·rename_i z hz;have h1:ti.size=1:=by
     cases hb:Nat.beq ti.size 1 with
     | false=>rw[hb] at hz;cases hz
     | true=>exact Nat.eq_of_beq_eq_true hb
    refine qB0 (λ_=>hlv) λhp w0 hw w=>?_
    obtain⟨b,hv,_⟩:=hw.1.sat h _ hsb;have e1:a.eval x=.pointer (some ⟨b,off,none⟩):=by rw[hx,SV.den,SC.den,S0.den,hv,qAi]
    rw[run b off kk i w e1 hy hp.1];simp only[SV.den,SC.den,S0.den,hv,qAi,h1,Nat.mul_one]
   ·refine qB0 (λ_=>hlv) λhp w0 hw w=>?_
    obtain⟨b,hv,_⟩:=hw.1.sat h _ hsb;have e1:a.eval x=.pointer (some ⟨b,off,none⟩):=by rw[hx,SV.den,SC.den,S0.den,hv,qAi]
    rw[run b off kk i w e1 hy hp.1];simp only[SV.den,SC.den,S0.den,hv,qAi]
  ·trivial
 ·rename_i n' sz' g off kk i;cases heq1;cases heq2;refine qB0 (λ_=>trivial) λhp w0 hw w=>?_
  exact run g off kk i w hx hy hp.1
theorem asl_ok{t n e:Nat}{ti:TypeInfo}{x:Operand}{v:SV}(hu:E.P.underlying t=some (.array n e))(hi:E.P.info? e=some ti)(hx:a.eval x=v.den Z)(hlv:v.lt S.hp.length)
  (ho:o.op=.slice t x none none none):OpOK E Z S a o (extQ S.hp (.asl n ti.size) [v]).toR:=by
 unfold extQ;split <;> rename_i heq1 heq2 <;> first | (cases heq1;done) | trivial | skip
 rename_i n' sz' h;cases heq1;cases heq2;split
 ·rename_i e' l hsb;cases hlen:Nat.beq l.length (n*ti.size) with
  | false=>trivial
  | true =>
   simp only[cnT];have hh:h<S.hp.length:=hlv;intro _;refine⟨by simp[SV.lt,SC.lt,S0.lt],by simp,λw hw K Q hK=>?_⟩;obtain⟨b,hv,_⟩:=hw.1.sat h _ hsb;have e1:a.eval x=.pointer (some ⟨b,0,none⟩):=by rw[hx,SV.den,SC.den,S0.den,hv,qAi]
   have hsz:∀w,(sizeOf e).run E.P w=.ok ti.size w:=λw=>by simp[sizeOf,typeInfo,hi]
   have hrun:(execOp a.eval o).run E.P w=.ok (.value (.slice (some ⟨b,0,none⟩) n n)) w:=by
    unfold execOp;simp[ho,e1,Instr.sliceAt,Instr.sureAddr,run_underlying hu,Instr.sliceBounds,hsz,qAw]
   obtain⟨Z',hag,hnew,hsat⟩:=hw.1.more (.slc h n ti.size) (.slice (some ⟨b,0,none⟩) n n) trivial (λZ' hag=>⟨b,by rw[hag h hh];exact hv,rfl⟩) (Nat.lt_succ_of_lt hh) (λhx=>by cases hx);have:=hK Z' w hag ⟨hsat,hw.2⟩;simp only[SV.den,SC.den,S0.den,hnew] at this;unfold Oper.wp;rw[hrun];exact this
 ·trivial
theorem oneL_spec{n:Nat}:∀ {l:List SV} {cs:List S0},oneL l=some cs->(∀v∈l,v.lt n)->l.map (SV.den Z)=cs.map (S0.den Z)/\∀x∈cs,x.lt n
 | [],cs,h,_=>by
  simp only[oneL,snJ] at h;subst h;exact⟨rfl,λx hx=>by simp at hx⟩
 | .c (.o x)::r,cs,h,hl=>by
  simp only[oneL,Option.map_eq_some_iff] at h;obtain⟨cs',h1,rfl⟩:=h;obtain⟨h2,h3⟩:=oneL_spec h1 λv hv=>hl v (List.mem_cons_of_mem _ hv)
  refine⟨by simp only[List.map_cons,h2,SV.den,SC.den],λy hy=>?_⟩;rcases List.mem_cons.1 hy with rfl | hy
  ·exact hl (.c (.o y)) List.mem_cons_self
  ·exact h3 y hy
 | .c (.agg x)::r,cs,h,_=>by simp[oneL] at h
 | .tup x::r,cs,h,_=>by simp[oneL] at h
theorem tab_ok{t g:Nat}(hn:qB4 E.P t=some none)(ho:o.op=.load t (.global g)):OpOK E Z S a o (extQ S.hp (.tab g) []).toR:=by
 simp only[extQ];cases htv:tabV g with
 | none=>trivial
 | some x =>
  obtain⟨tt,l⟩:=x;intro _;refine⟨by simp[SV.lt,SC.lt,S0.lt],by simp,λw hw K Q hK=>?_⟩;obtain⟨v,hc,hlt,hX,ad,cap,rfl,hcap,hcells⟩:=tabV_ok hw.1.tab htv;have hc':w.cell? ⟨g,0,none⟩=some (.slice ad l.length cap):=(Same.cell (a:=⟨g,0,none⟩) (hw.2.block g hlt hX)).trans hc;have hv:qBw E.X E.w0 w tt (.slice ad l.length cap) l:=⟨ad,cap,rfl,hcap,λj u hu=>by
   obtain⟨ad',e1,h1,h2,h3⟩:=hcells j u hu;exact⟨ad',e1,(Same.cell (a:=ad'.add j) (by rw[add_block];exact hw.2.block _ h2 h3)).trans h1,.inl ⟨h2,h3⟩⟩⟩
  have hrun:(execOp a.eval o).run E.P w=.ok (.value (.slice ad l.length cap)) w:=by
   unfold execOp;simp only[ho,Act.eval,Instr.loadAt,Instr.sureAddr,Sem.run_bind,Sem.run_pure,Result.andThen_ok,qBz hn hc']
  obtain⟨Z',hag,hnew,hsat⟩:=hw.1.more (.view tt l) (.slice ad l.length cap) trivial (λZ' _=>hv) trivial (λhx=>by cases hx);have:=hK Z' w hag ⟨hsat,hw.2⟩;simp only[SV.den,SC.den,S0.den,hnew] at this;unfold Oper.wp;rw[hrun];exact this
theorem mkfn_ok{f:Nat}{first captured:Array Operand}{l:List SV}(he:(first.toList++captured.toList).map a.eval=l.map (SV.den Z))(hl:∀v∈l,v.lt S.hp.length)
  (ho:o.op=.makeFunc (.func f) first captured):OpOK E Z S a o (extQ S.hp (.mkfn f first.size) l).toR:=by
 have core:∀cs,oneL l=some cs->OpOK E Z S a o (RQ.toR (.ok [] (.c (.o (.own S.hp.length))) (S.hp++[.clo f first.size cs]))):=λcs hcs=>by
  obtain⟨h1,h2⟩:=oneL_spec (Z:=Z) hcs hl;intro _;refine⟨by simp[SV.lt,SC.lt,S0.lt],by simp,λw hw K Q hK=>?_⟩;rw[h1,List.map_append] at he;have hf:first.map a.eval=((cs.take first.size).map (S0.den Z)).toArray:=by
   apply Array.toList_inj.1;rw[Array.toList_map,List.map_take,<-he,List.take_left' (by simp)]
  have hc:captured.map a.eval=((cs.drop first.size).map (S0.den Z)).toArray:=by
   apply Array.toList_inj.1;rw[Array.toList_map,List.map_drop,<-he,List.drop_left' (by simp)]
  have hrun:(execOp a.eval o).run E.P w=.ok (.value (.func (.func f) ((cs.take first.size).map (S0.den Z)).toArray ((cs.drop first.size).map (S0.den Z)).toArray)) w:=by
   unfold execOp;simp only[ho,Instr.makeFunc,hf,hc,Sem.run_bind,Sem.run_pure,Result.andThen_ok]
  obtain⟨Z',hag,hnew,hsat⟩:=hw.1.more (.clo f first.size cs) (.func (.func f) ((cs.take first.size).map (S0.den Z)).toArray ((cs.drop first.size).map (S0.den Z)).toArray) trivial (λZ' hag=>by
   show _=_;rw[show(cs.take first.size).map (S0.den Z')=(cs.take first.size).map (S0.den Z) from List.map_congr_left λy hy=>S0.den_congr hag (h2 y (List.mem_of_mem_take hy)),show(cs.drop first.size).map (S0.den Z')=(cs.drop first.size).map (S0.den Z) from List.map_congr_left λy hy=>S0.den_congr hag (h2 y (List.mem_of_mem_drop hy))])
   (λx hx=>S0.lt_mono (Nat.le_succ _) (h2 x hx)) (λhx=>by cases hx)
  have:=hK Z' w hag ⟨hsat,hw.2⟩;simp only[SV.den,SC.den,S0.den,hnew] at this;unfold Oper.wp;rw[hrun];exact this
 cases l with
 | nil =>
  simp only[List.map_nil,List.map_eq_nil_iff,List.append_eq_nil_iff,Array.toList_eq_nil_iff] at he;obtain⟨rfl,rfl⟩:=he;simp only[extQ];refine qB0 (λ_=>trivial) λhp w0 hw w=>?_
  unfold execOp;simp[ho,Instr.makeFunc,SV.den,SC.den,S0.den]
 | cons x r =>
  simp only[extQ];cases hcs:oneL (x::r) with
  | none=>trivial
  | some cs=>exact core cs hcs
end
section
variable {E:Env} {Z:Nat->Value} {S:St} {a:Act} {o:Oper} {act:Prop}
theorem HpSat.drew{X:Nat->Prop}{w0 w:World}{hp:List SB}(h:HpSat X w0 w Z hp):HpSat X w0 w.drew Z hp :=
 ⟨h.ref,λi sb hi=>SB.sat_keep (h.sat i sb hi) (λ_ _ _=>rfl) (λ_ _=>rfl) (λ_ _ _=>rfl),h.lt,h.apart,h.tab⟩
theorem Stays.drew{X:Nat->Prop}{w w':World}(h:Stays X w w'):Stays X w w'.drew:=⟨h.os,h.output,h.size,h.block⟩
theorem Cls.drew{hp:List SB}{w:World}(h:Cls E Z hp w):Cls E Z hp w.drew:=⟨h.1.drew,h.2.drew⟩
theorem oargE(hs:qCv Z S a)(hact:act){y:Option Operand}{y':Option Arg}(hy:oarg y=some y'){c:Value}{p:Prop}{u:SV}(h:argE S act (y'.getD (.v c))=some (p,u))(hp:p):(y=none/\u=.c (.o (.val c)))\/∃x,y=some x/\a.eval x=u.den Z:=by
 cases y with
 | none =>
  simp only[oarg,snJ] at hy;subst hy;simp only[Option.getD_none,argE,snJ,Prod.mk.injEq] at h;exact .inl ⟨rfl,h.2.symm⟩
 | some x =>
  simp only[oarg,Option.map_eq_some_iff] at hy;obtain⟨z,hz,rfl⟩:=hy;exact .inr ⟨x,rfl,(qAc hs hact hz h hp).1⟩
theorem aix_ok{t n e:Nat}{ti:TypeInfo}{k0:IntKind}{x y:Operand}{v u:SV}(hu:E.P.underlying t=some (.array n e))(hi:E.P.info? e=some ti)(he:E.P.underlying e=some (.int k0))(h1:ti.size=1)(hx:a.eval x=v.den Z)(hy:a.eval y=u.den Z)
  (ho:o.op=.index t x y):OpOK E Z S a o (extQ S.hp (.aix n) [v,u]).toR:=by
 unfold extQ;split <;> rename_i heq1 heq2 <;> first | (cases heq1;done) | trivial | skip
 rename_i m l kk i;cases heq1;cases heq2;split
 ·rename_i k cs hL;cases hlen:Nat.beq l.length n with
  | false=>trivial
  | true =>
   have hlen:=Nat.eq_of_beq_eq_true hlen;refine qB0 (λ_=>trivial) λhp w0 hw w=>?_
   have hp:=hp.1;have e1:a.eval x=.agg (l.map (S0.den Z)).toArray:=hx;have e2:a.eval y=.int kk i:=hy;have hag:(isAgg e).run E.P w=.ok false w:=by simp[isAgg,run_underlying he]
   have hsz:∀w,(sizeOf e).run E.P w=.ok ti.size w:=λw=>by simp[sizeOf,typeInfo,hi]
   have hget:=arL_get (Z:=Z) hL (i:=i.toNat) (by omega);rw[Nat.zero_add] at hget;have hget2:(l.map (S0.den Z)).toArray[i.toNat]?=some (.int k (cs.getD i.toNat 0)):=by simpa using hget
   have hrun:(Instr.index t (.agg (l.map (S0.den Z)).toArray) (.int kk i)).run E.P w=.ok (.int k (cs.getD i.toNat 0)) w:=by
    simp only[Instr.index,asIntOf,Sem.run_bind,Sem.run_pure,Result.andThen_ok,run_underlying hu,if_pos hp,hsz,part,hag,h1,Nat.mul_one,hget2,Bool.false_eq_true,if_false]
   unfold execOp;simp only[ho,e1,e2,Sem.run_bind,hrun,Result.andThen_ok];rfl
 ·trivial
theorem asub_ok{t n e:Nat}{ti:TypeInfo}{x:Operand}{lo hi:Option Operand}{v v2 v3:SV}(hu:E.P.underlying t=some (.array n e))(hi0:E.P.info? e=some ti)(h1:ti.size=1)(hx:a.eval x=v.den Z)(hlv:v.lt S.hp.length)
  (hlo:(lo=none/\v2=.c (.o (.val (.int .i64 0))))\/∃x,lo=some x/\a.eval x=v2.den Z) (hhi:(hi=none/\v3=.c (.o (.val (.int .i64 n))))\/∃x,hi=some x/\a.eval x=v3.den Z)
  (ho:o.op=.slice t x lo hi none):OpOK E Z S a o (extQ S.hp (.asub n) [v,v2,v3]).toR:=by
 unfold extQ;split <;> rename_i heq1 heq2 <;> first | (cases heq1;done) | trivial | skip
 rename_i n' h off k1 l k2 hh;cases heq1;cases heq2;split
 ·rename_i e' cl hsb;refine qB0 (λ_=>hlv) λhp w0 hw w=>?_
  obtain⟨b1,b2,b3⟩:=hp.1;obtain⟨b,hv,_⟩:=hw.1.sat h _ hsb;have e1:a.eval x=.pointer (some ⟨b,off,none⟩):=by rw[hx,SV.den,SC.den,S0.den,hv,qAi]
  have hsz:∀w,(sizeOf e).run E.P w=.ok ti.size w:=λw=>by simp[sizeOf,typeInfo,hi0]
  have q1:(lo=none/\l=0)\/∃x k,lo=some x/\a.eval x=.int k l:=by
   rcases hlo with⟨h1,h2⟩ | ⟨x,h1,h2⟩
   ·cases h2;exact .inl ⟨h1,rfl⟩
   ·exact .inr ⟨x,k1,h1,h2⟩
  have q2:(hi=none/\hh=n)\/∃x k,hi=some x/\a.eval x=.int k hh:=by
   rcases hhi with⟨h1,h2⟩ | ⟨x,h1,h2⟩
   ·cases h2;exact .inl ⟨h1,rfl⟩
   ·exact .inr ⟨x,k2,h1,h2⟩
  have hrun:=run_bounds (P:=E.P) (w:=w) false n n (lo:=lo) (hi:=hi) a.eval q1 q2 b1 b2 b3;have hval:(SV.c (.o (.asl h off n l.toNat (hh.toNat - l.toNat)))).den Z=.slice (some (if n=l.toNat then⟨b,off,none⟩ else(⟨b,off,none⟩:Addr).add (l.toNat*ti.size))) (hh.toNat - l.toNat) (n - l.toNat):=by
   simp only[SV.den,SC.den,S0.den,hv,aslV];by_cases hn:n=l.toNat
   ·rw[if_pos hn,show Nat.beq n l.toNat=true by simpa using hn];simp only[cnT,Nat.add_zero,qAw]
   ·rw[if_neg hn,show Nat.beq n l.toNat=false from by
     cases hb:Nat.beq n l.toNat with
     | false=>rfl
     | true=>exact absurd (Nat.eq_of_beq_eq_true hb) hn]
    simp only[cnF,h1,Nat.mul_one,qAw];rw[<-qAw b off,add_add,qAw]
  unfold execOp;simp only[ho,e1,Instr.sliceAt,Sem.run_bind,run_underlying hu,Result.andThen_ok,Instr.sureAddr,Sem.run_pure,Option.map_none,hrun,hsz,hval]
 ·trivial
theorem splice_mid{cur cs:List Value}{off n lo:Nat}(h2:off+n<=cur.length)(h3:lo+cs.length<=n) :
  cur.take off++((((cur.drop off).take n).take lo++(cs++((cur.drop off).take n).drop (lo+cs.length)))++cur.drop (off+n))=cur.take (off+lo)++cs++cur.drop (off+lo+cs.length):=by
 have e1:cur.take (off+lo)=cur.take off++((cur.drop off).take n).take lo:=by
  rw[List.take_take,Nat.min_eq_left (by omega),List.take_add]
 have e2:cur.drop (off+lo+cs.length)=((cur.drop off).take n).drop (lo+cs.length)++cur.drop (off+n):=by
  rw[List.drop_take,List.drop_drop];have e3:cur.drop (off+n)=(cur.drop (off+(lo+cs.length))).drop (n - (lo+cs.length)):=by
   rw[List.drop_drop];congr 1
   omega
  rw[e3,List.take_append_drop,Nat.add_assoc]
 rw[e1,e2];simp only[List.append_assoc]
theorem copyA_ok{t t' e:Nat}{c:Call}{x y:Operand}{v u:SV}(hu:E.P.underlying t=some (.slice e))(hs1:(E.P.info? e).map (·.size)=some 1)(hc:c.callee=.builtin .copy)(ha:c.args = #[x,y])(ht:c.argTypes = #[t,t'])
  (hx:a.eval x=v.den Z) (hy:a.eval y=u.den Z) (ho:o.op=.call c):OpOK E Z S a o (extQ S.hp .copyA [v,u]).toR:=by
 unfold extQ;split <;> rename_i heq1 heq2 <;> first | (cases heq1;done) | trivial | skip
 rename_i h off n lo len s;cases heq1;cases heq2;split
 ·rename_i e' l cs hA;split
  ·rename_i m hm;obtain⟨hsb,hL⟩:=arAt_spec hA;obtain⟨hcs,hM,hle⟩:=arL_spec (Z:=Z) hL;intro hp;have hso:AllP (srcO S.hp s)/\lo+len<=n:=by
    have:∀(ps:List Prop) (q:Prop),AllP (ps++[q])->AllP ps/\q:=λps q h=>by
     induction ps with
     | nil=>exact⟨trivial,h.1⟩
     | cons p r ih=>exact⟨⟨h.1,(ih h.2).1⟩,(ih h.2).2⟩
    exact this _ _ hp
   obtain⟨hso,hll⟩:=hso;refine⟨trivial,by simp,λw hw K Q hK=>?_⟩;obtain⟨b,hv,hb,hex⟩:=hw.1.sat h _ hsb;obtain⟨ad,cap,hs2,hcell⟩:=src_spec hw.1 hm hso;have hcl:((m:List Int).take len).length=min m.length len:=by rw[List.length_take,Nat.min_comm]
   have hL':(cs.take lo++((m:List Int).take len++cs.drop (lo+min m.length len))).length=n:=by
    rw[List.length_append,List.length_append,List.length_take,hcl,List.length_drop,hcs];omega
   have hnew:(arPut l off n .u8 (cs.take lo++((m:List Int).take len++cs.drop (lo+min m.length len)))).map (S0.den Z)=(l.map (S0.den Z)).take off++((((cs.map (Value.int .u8)).take lo++(((m:List Int).take len).map (Value.int .u8)++(cs.map (Value.int .u8)).drop (lo+min m.length len))))++(l.map (S0.den Z)).drop (off+n)):=by
    rw[arPut_den hL'];simp only[List.map_append,List.map_take,List.map_drop]
   have henc:(m:List Int).flatMap (ET.enc .u8)=(m:List Int).map (Value.int .u8):=by
    have:∀l:List Int,l.flatMap (ET.enc .u8)=l.map (Value.int .u8):=by
     intro l;induction l with
     | nil=>rfl
     | cons x l ih=>simp only[List.flatMap_cons,List.map_cons,ih];rfl
    exact this m
   have hlt:=hw.1.lt h _ hsb;have fin:∀(d:Option Addr) (dc:Nat),a.eval x=.slice d len dc->(∃w',(Builtin.copy_ #[t,t'] o.type #[.slice d len dc,.slice ad m.length cap]).run E.P w=.ok (goInt (min m.length len:Nat)) w'/\w'=w.setRow b ((arPut l off n .u8 (cs.take lo++((m:List Int).take len++cs.drop (lo+min m.length len)))).map (S0.den Z)).toArray)->Oper.wp E.P o a w K Q:=by
    rintro d dc hdx ⟨w',hr,rfl⟩
    have:=hK Z _ (λ_ _=>rfl) ⟨hw.1.setRow (.cells e' (arPut l off n .u8 (cs.take lo++((m:List Int).take len++cs.drop (lo+min m.length len))))) hsb rfl (by rw[hv];rfl) ⟨b,hv,setRow_heap w b _ _ e' _ hb,hex⟩ (arPut_lt hlt),hw.2.setRow hex _⟩;have hmap:c.args.map a.eval = #[.slice d len dc,.slice ad m.length cap]:=by rw[ha];simp[hdx,hy,SV.den,SC.den,hs2]
    have hbc:∀ats ty cs args,builtin .copy ats ty cs args=(do pure (Next.value (<-Builtin.copy_ ats ty args))):=λ_ _ _ _=>rfl
    have hrun:(execOp a.eval o).run E.P w=.ok (.value (goInt (min m.length len:Nat))) (w.setRow b ((arPut l off n .u8 (cs.take lo++((m:List Int).take len++cs.drop (lo+min m.length len)))).map (S0.den Z)).toArray):=by
     unfold execOp;simp only[ho,resolve,hc,hmap,ht,Sem.run_bind,Sem.run_pure,Result.andThen_ok,invoke,hbc,hr]
    unfold Oper.wp;rw[hrun];exact this
   have hxd:a.eval x=aslV (.pointer (some ⟨b,0,none⟩)) off n lo len:=by rw[hx,SV.den,SC.den,S0.den,hv]
   rcases Nat.eq_zero_or_pos (min m.length len) with h0 | h0
   ·
    have hr:=run_copy_none (P:=E.P) w t t' o.type e (some ((⟨b,0,none⟩:Addr).add (off+bif Nat.beq n lo then 0 else lo))) ad len (n - lo) m.length cap hu hs1 (by show min m.length len=0;exact h0);refine fin _ _ hxd ⟨_,by rw[h0];exact hr,?_⟩;have ht0:(m:List Int).take len=[]:=List.eq_nil_of_length_eq_zero (by rw[hcl];exact h0);have hsame:(arPut l off n .u8 (cs.take lo++((m:List Int).take len++cs.drop (lo+min m.length len)))).map (S0.den Z)=l.map (S0.den Z):=by
     rw[hnew,ht0,h0,List.map_nil,List.nil_append,Nat.add_zero,List.take_append_drop,<-hM,<-List.drop_drop,List.take_append_drop,List.take_append_drop]
    rw[hsame,setRow_self w b _ _ _ hb]
   ·have hne:Nat.beq n lo=false:=by
     cases hb:Nat.beq n lo with
     | false=>rfl
     | true=>have:=Nat.eq_of_beq_eq_true hb;omega
    have hle:=hle (by omega);obtain⟨a0,rfl⟩:∃a0,ad=some a0:=by
     cases ad with
     | some a0=>exact⟨a0,rfl⟩
     | none =>
      exfalso;have hml:0<m.length:=by omega
      obtain⟨a0,h1,_⟩:=hcell 0 (.int .u8 (List.getD (m:List Int) 0 0)) (by
       rw[henc,List.getElem?_map,List.getD_eq_getElem?_getD];rw[List.getElem?_eq_getElem (show 0<List.length (m:List Int) from hml)];rfl)
      cases h1
    simp only[aslV,hne,cnF,qAw] at hxd;have hcur:((l.map (S0.den Z)).toArray).size=l.length:=by simp
    have hr:=run_copy_row E.P w t t' o.type e b (off+lo) len (n - lo) a0 m.length cap _ e' (((m:List Int).take len).map (Value.int .u8)) hu hs1 hb (by rw[List.length_map,hcl]) (λj v hj=>by
     obtain⟨a1,h1,h2⟩:=hcell j v (by
      rw[henc];rw[List.map_take,List.getElem?_take] at hj;split at hj
      ·exact hj
      ·cases hj)
     cases h1;exact h2) (by rw[List.length_map,hcl,hcur];omega) (λv hv=>by
     obtain⟨z,_,rfl⟩:=List.mem_map.1 hv;rfl)
    refine fin _ _ hxd ⟨_,by rw[List.length_map,hcl] at hr;exact hr,?_⟩;rw[hnew,<-hM];have:=splice_mid (cur:=l.map (S0.den Z)) (cs:=((m:List Int).take len).map (Value.int .u8)) (off:=off) (n:=n) (lo:=lo) (by rw[List.length_map];exact hle) (by rw[List.length_map,hcl];omega);rw[List.length_map,hcl] at this;rw[this]
  ·trivial
 ·trivial
theorem toBytes_ok{t d e:Nat}{x:Operand}{v:SV}(hs:E.P.underlying t=some .string)(hd:E.P.underlying d=some (.slice e))(he:E.P.underlying e=some (.int .u8))(hx:a.eval x=v.den Z)(ho:o.op=.convert t d x):OpOK E Z S a o (extQ S.hp (.toBytes e) [v]).toR:=by
 unfold extQ;split <;> rename_i heq1 heq2 <;> first | (cases heq1;done) | trivial | skip
 rename_i e' s;cases heq1;cases heq2;intro _;refine⟨by simp[SV.lt,SC.lt,S0.lt],by simp,λw hw K Q hK=>?_⟩;have hr:=run_bytes_of_string (P:=E.P) w t d e s hs hd he;have e1:a.eval x=.string s:=hx;have hrun:(execOp a.eval o).run E.P w=.ok (.value (.slice (some ⟨w.heap.size,0,none⟩) s.size (grownCap w s.size 0 e))) (w.drew.alloc (.cells (bytesRow s (grownCap w s.size 0 e)) e ((bytesRow s (grownCap w s.size 0 e)).size,(bytesRow s (grownCap w s.size 0 e)).size+1))):=by
  unfold execOp;simp only[ho,e1,Sem.run_bind,hr,Result.andThen_ok,Sem.run_pure]
 have hd:=hw.drew;obtain⟨Z',hag,hnew,hsat⟩:=hd.1.alloc hd.2 (.cells (bytesRow s (grownCap w s.size 0 e)) e ((bytesRow s (grownCap w s.size 0 e)).size,(bytesRow s (grownCap w s.size 0 e)).size+1)) (.view .u8 (qDs s)) (.slice (some ⟨w.heap.size,0,none⟩) s.size (grownCap w s.size 0 e)) rfl
  (λZ' _ _=>by
   have hl:(qDs s).length=s.size:=by
    unfold qDs;rw[List.length_map,Array.length_toList];rfl
   show qBw _ _ _ ET.u8 _ (qDs s);have henc:(qDs s).flatMap (ET.enc .u8)=(qDs s).map (Value.int .u8):=by
    have:∀l:List Int,l.flatMap (ET.enc .u8)=l.map (Value.int .u8):=by
     intro l;induction l with
     | nil=>rfl
     | cons x l ih=>simp only[List.flatMap_cons,List.map_cons,ih];rfl
    exact this _
   refine⟨_,_,by rw[hl],(by rw[hl];exact grownCap_ge _ _ _ _),λj u hj=>⟨_,rfl,?_,.inr ⟨bytesRow s (grownCap w s.size 0 e),e,(bytesRow s (grownCap w s.size 0 e)).size,by show(w.heap.push _)[w.heap.size]?=_;simp⟩⟩⟩;rw[henc] at hj;have hjs:j<s.data.size:=by
    have:=(List.getElem?_eq_some_iff.1 hj).1;rw[List.length_map,hl] at this;exact this
   rw[qAw];refine(World.cell?_alloc_mark w.drew _ e _ j).trans ?_;rw[bytesRow_at s _ j hjs,<-hj];unfold qDs;rw[List.map_map,List.getElem?_map,Array.getElem?_toList,Array.getElem?_eq_getElem hjs];rfl) trivial trivial
 have:=hK Z' _ hag ⟨hsat,hd.2.alloc _⟩;simp only[SV.den,SC.den,S0.den,hnew] at this;unfold Oper.wp;rw[hrun];exact this
theorem sub3_ok{t e:Nat}{ti:TypeInfo}{x mx:Operand}{lo:Option Operand}{hi:Operand}{v v2 v3 v4:SV}(hu:E.P.underlying t=some (.slice e))(hti:E.P.info? e=some ti)(hx:a.eval x=v.den Z)
  (hlo:(lo=none/\v2=.c (.o (.val (.int .i64 0))))\/∃x,lo=some x/\a.eval x=v2.den Z) (hhi:a.eval hi=v3.den Z) (hmx:a.eval mx=v4.den Z)
  (ho:o.op=.slice t x lo (some hi) (some mx)):OpOK E Z S a o (extQ S.hp (.sub3 ti.size) [v,v2,v3,v4]).toR:=by
 unfold extQ;split <;> rename_i heq1 heq2 <;> first | (cases heq1;done) | trivial | skip
 rename_i sz hh k1 l k2 h k3 m;cases heq1;cases heq2;split
 ·rename_i tt e' l0 hsb;cases hsz:Nat.beq ti.size tt.sz with
  | false=>trivial
  | true =>
   simp only[cnT];intro hp;obtain⟨b0,b1,b2,b3⟩:=hp.1;subst b0;refine⟨by simp[SV.lt,SC.lt,S0.lt],by simp,λw hw K Q hK=>?_⟩;obtain⟨h1,h2⟩:=hw.1.sat hh _ hsb;have hsize:∀w,(sizeOf e).run E.P w=.ok ti.size w:=λw=>by simp[sizeOf,typeInfo,hti]
   have hlen:(S.hp.set hh SB.dead).length=S.hp.length:=by simp
   have hkill:=hw.1.kill hh;rcases h1.2 with⟨hv,hn0⟩ | ⟨g,cap,cur,hv,hbz,hg,hnc,hcm,hcs,htake⟩
   ·have hrun:(execOp a.eval o).run E.P w=.ok (.value (.slice none 0 0)) w:=by
     have e1:a.eval x=.slice none 0 0:=by rw[hx,SV.den,SC.den,S0.den,hv]
     have q3:a.eval hi=.int k2 h:=hhi;have q4:a.eval mx=.int k3 m:=hmx;obtain rfl:m=0:=by omega
     obtain rfl:h=0:=by omega
     have r4:(Instr.sliceBound (.int k3 0) 0 .slice3Acap).run E.P w=.ok 0 w:=qB7 (by omega) (by omega);have r3:(Instr.sliceBound (.int k2 0) 0 .slice3B).run E.P w=.ok 0 w:=qB7 (by omega) (by omega);have r2:∀k,(Instr.sliceBound (.int k 0) 0 .slice3C).run E.P w=.ok 0 w:=λk=>qB7 (by omega) (by omega)
     rcases hlo with⟨rfl,_⟩ | ⟨x2,rfl,hx2⟩
     ·unfold execOp;simp only[ho,e1,q3,q4,Instr.sliceAt,Sem.run_bind,run_underlying hu,Result.andThen_ok,Instr.slice,Option.map_some,Option.map_none,Instr.sliceBounds,if_true,r4,r3,Sem.run_pure,hsize,Nat.sub_zero]
     ·have q2:a.eval x2=.int k1 0:=hx2;unfold execOp;simp only[ho,e1,q2,q3,q4,Instr.sliceAt,Sem.run_bind,run_underlying hu,Result.andThen_ok,Instr.slice,Option.map_some,Option.isSome_some,Instr.sliceBounds,if_true,r4,r3,r2,Sem.run_pure,hsize,Nat.sub_zero,Option.map_none,if_true]
    have h00:l0=[]:=List.eq_nil_of_length_eq_zero hn0;obtain⟨Z',hag,hnew,hsat⟩:=hkill.more (.vrow tt (l0.take h.toNat)) (.slice none 0 0) trivial (λZ' _=>.inl ⟨0,rfl,by rw[h00];simp⟩) trivial (λ_ b' hb'=>by simp[fp,fp1] at hb');rw[hlen] at hag hnew;have:=hK Z' w hag ⟨hsat,hw.2⟩;simp only[SV.den,SC.den,S0.den,hnew] at this;unfold Oper.wp;rw[hrun];exact this
   ·have hrun:(execOp a.eval o).run E.P w=.ok (.value (.slice (some ⟨g,0,none⟩) h.toNat m.toNat)) w:=by
     have e1:a.eval x=.slice (some ⟨g,0,none⟩) l0.length cap:=by rw[hx,SV.den,SC.den,S0.den,hv]
     have q3:a.eval hi=.int k2 h:=hhi;have q4:a.eval mx=.int k3 m:=hmx;have r4:(Instr.sliceBound (.int k3 m) cap .slice3Acap).run E.P w=.ok m.toNat w:=qB7 (by omega) (by omega);have r3:(Instr.sliceBound (.int k2 h) m.toNat .slice3B).run E.P w=.ok h.toNat w:=qB7 b1 (by omega);have r2:∀k,(Instr.sliceBound (.int k 0) h.toNat .slice3C).run E.P w=.ok 0 w:=λk=>qB7 (by omega) (by omega)
     have hz:(if m.toNat=0 then some (⟨g,0,none⟩:Addr) else some ((⟨g,0,none⟩:Addr).add (0*ti.size)))=some ⟨g,0,none⟩:=by split <;> simp[Addr.add]
     rcases hlo with⟨rfl,_⟩ | ⟨x2,rfl,hx2⟩
     ·unfold execOp;simp only[ho,e1,q3,q4,Instr.sliceAt,Sem.run_bind,run_underlying hu,Result.andThen_ok,Instr.slice,Option.map_some,Option.map_none,Instr.sliceBounds,if_true,r4,r3,Sem.run_pure,hsize,Nat.sub_zero,hz]
     ·have q2:a.eval x2=.int k1 0:=hx2;unfold execOp;simp only[ho,e1,q2,q3,q4,Instr.sliceAt,Sem.run_bind,run_underlying hu,Result.andThen_ok,Instr.slice,Option.map_some,Option.isSome_some,Instr.sliceBounds,if_true,r4,r3,r2,Sem.run_pure,hsize,Nat.sub_zero,hz]
    have hhn:h.toNat<=l0.length:=by omega
    have hgm:g∈fp (Z hh):=by rw[hv];exact List.mem_singleton.2 rfl
    obtain⟨q1,q2,q3⟩:=hw.1.fp_lt3 hsb rfl hgm;obtain⟨Z',hag,hnew,hsat⟩:=hkill.more (.vrow tt (l0.take h.toNat)) (.slice (some ⟨g,0,none⟩) h.toNat m.toNat) trivial (λZ' _=>.inr ⟨g,m.toNat,by rw[List.length_take,Nat.min_eq_left hhn],by rw[List.length_take];omega,(λj u hu=>by
     have hc:=World.ownsRow.cells h1 (g:=g) (by rw[hv];rfl) j u (by
      rw[qDg tt.enc_len,List.getElem?_take] at hu;split at hu
      ·exact hu
      ·cases hu)
     rwa [qAw] at hc),q1,q2,q3⟩) trivial (λ_ b' hb' i sb' hi hx' hf=>by
      simp only[fp,fp1,Option.toList_some,List.mem_singleton] at hb';rw[hb'] at hf;by_cases hih:hh=i
      ·subst hih;rw[List.getElem?_set_self (by exact(List.getElem?_eq_some_iff.1 hsb).1)] at hi;cases hi;cases hx'
      ·rw[List.getElem?_set_ne hih] at hi;exact hw.1.apart i hh sb' _ g (Ne.symm hih) hi hsb hx' rfl hf hgm)
    rw[hlen] at hag hnew;have:=hK Z' w hag ⟨hsat,hw.2⟩;simp only[SV.den,SC.den,S0.den,hnew] at this;unfold Oper.wp;rw[hrun];exact this
 ·trivial
end
end Go.Eng
