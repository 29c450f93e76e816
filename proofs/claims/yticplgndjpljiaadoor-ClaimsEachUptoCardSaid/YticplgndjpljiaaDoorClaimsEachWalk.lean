/-
  ClaimsEach: its call returns true.
-/
import Derived.Lib.LaidU8
import Derived.Shelf.Lay
import Derived.Ground.NamesProg
import Derived.Test.YticplgndjpljiaaDoorOpenV
import Derived.Test.YticplgndjpljiaaDoorEngO
import Derived.Test.YticplgndjpljiaaDoorProg
import Derived.Test.YticplgndjpljiaaDoorRows
namespace Go.Proofs.YticplgndjpljiaaDoor
open Go.RowKit Go.ChangeShapes Go.WideShapes Go.Deep Go.Eng
set_option linter.unusedVariables false
set_option maxRecDepth 100000
section
variable {H:Type} {enc:TypeId × Value→H} {W:World} {sp:Nat→Bool} {held:Bool} {r:Reach} {b0:Nat}
theorem bulk_str {B:Nat} {s:ByteArray} (h:Rows.uptoBulk (H:=H) (.lit (.string s.data.toList))≤B):s.size≤B:=by
 simp only [Rows.uptoBulk,Array.length_toList] at h
 have:s.size=s.data.size:=rfl
 omega
theorem qEq {fuel:Nat} {c0 c1:Value} {y:DataW H × List MemPlace} (h:DataW.trod enc Tryd.prog W 0 sp held fuel 49 [c0,c1]=some y) :
  ∃(b:Bool) (a:Int),[c0,c1]=[.bool b,.int .i64 a]∧(-9223372036854775808≤a∧a≤9223372036854775807):=by
 obtain ⟨xs,n,_,hx,_,hlen,hg⟩:=DataW.trod_struct Tryd.underlying49 h
 match xs,hlen with
 | [y0,y1],_ =>
  have g0:DataW.trod enc Tryd.prog W 0 sp held n 4 [c0]=some y0:=by simpa [show Tryd.prog.cellsOf 4=1 by kernel_rfl] using hg 0 _ rfl
  have g1:DataW.trod enc Tryd.prog W 0 sp held n 2 [c1]=some y1:=by simpa [show Tryd.prog.cellsOf 2=1 by kernel_rfl] using hg 1 _ rfl
  obtain ⟨b,e0,_⟩:=DataW.trod_bool Tryd.underlying4 g0
  obtain ⟨a,e1,_,i1⟩:=DataW.trod_int Tryd.underlying2 g1
  simp only [List.cons.injEq,and_true] at e0 e1
  subst e0 e1
  exact ⟨b,a,rfl,Go.Eng.i64_of_wf i1⟩
theorem openVS_policy {B:Nat} {v:Value} {d:DataW H} {p:List MemPlace} (hv:Value.okWide Tryd.prog W r b0 31 v) (h:DataW.Trod enc Tryd.prog W 0 sp held 31 v d p) (hz:Rows.uptoBulk d≤B) :
  ∃(algsV:Value) (algs:List ByteArray) (iss:ByteArray) (hasIss:Bool) (aud:ByteArray) (hasAud:Bool) (typ:ByteArray) (hasTyp:Bool) (leeway:Int) (needV:Value) (need:List ByteArray),v=.agg #[algsV,.string iss,.bool hasIss,.string aud,.bool hasAud,.string typ,.bool hasTyp,.int .i64 leeway,needV] ∧
   (qCr noX W W .str algsV algs∧(∀s∈algs,s.size≤B)∧algs.length≤B)∧iss.size≤B∧aud.size≤B∧typ.size≤B∧(-9223372036854775808≤leeway∧leeway≤9223372036854775807)∧(qCr noX W W .str needV need∧(∀s∈need,s.size≤B)∧need.length≤B):=by
 obtain ⟨cs,rfl,hsz⟩:=okWide_struct Tryd.underlying31 hv
 obtain ⟨l⟩:=cs
 have hC:Tryd.prog.cellsOf 31=9:=by kernel_rfl
 match l,hsz.trans hC with
 | [c0,c1,c2,c3,c4,c5,c6,c7,c8],_ =>
  obtain ⟨fuel,hf⟩:=h
  obtain ⟨xs,n,_,hx,_,hlen,hg⟩:=DataW.trod_struct Tryd.underlying31 hf
  match xs,hlen with
  | [y0,y1,y2,y3,y4,y5,y6,y7,y8],_ =>
   simp only [Prod.mk.injEq,List.map_cons,List.map_nil] at hx
   obtain ⟨rfl,_⟩:=hx
   simp only [Rows.uptoBulk,Rows.uptoBulkAll] at hz
   have g0:DataW.trod enc Tryd.prog W 0 sp held n 29 [c0]=some y0:=by simpa [show Tryd.prog.cellsOf 29=1 by kernel_rfl,Value.cells] using hg 0 _ rfl
   have z0:Rows.uptoBulk y0.1≤B:=by omega
   have g1:DataW.trod enc Tryd.prog W 0 sp held n 9 [c1]=some y1:=by simpa [show Tryd.prog.cellsOf 9=1 by kernel_rfl,Value.cells] using hg 1 _ rfl
   have z1:Rows.uptoBulk y1.1≤B:=by omega
   have g2:DataW.trod enc Tryd.prog W 0 sp held n 4 [c2]=some y2:=by simpa [show Tryd.prog.cellsOf 4=1 by kernel_rfl,Value.cells] using hg 2 _ rfl
   have z2:Rows.uptoBulk y2.1≤B:=by omega
   have g3:DataW.trod enc Tryd.prog W 0 sp held n 9 [c3]=some y3:=by simpa [show Tryd.prog.cellsOf 9=1 by kernel_rfl,Value.cells] using hg 3 _ rfl
   have z3:Rows.uptoBulk y3.1≤B:=by omega
   have g4:DataW.trod enc Tryd.prog W 0 sp held n 4 [c4]=some y4:=by simpa [show Tryd.prog.cellsOf 4=1 by kernel_rfl,Value.cells] using hg 4 _ rfl
   have z4:Rows.uptoBulk y4.1≤B:=by omega
   have g5:DataW.trod enc Tryd.prog W 0 sp held n 9 [c5]=some y5:=by simpa [show Tryd.prog.cellsOf 9=1 by kernel_rfl,Value.cells] using hg 5 _ rfl
   have z5:Rows.uptoBulk y5.1≤B:=by omega
   have g6:DataW.trod enc Tryd.prog W 0 sp held n 4 [c6]=some y6:=by simpa [show Tryd.prog.cellsOf 4=1 by kernel_rfl,Value.cells] using hg 6 _ rfl
   have z6:Rows.uptoBulk y6.1≤B:=by omega
   have g7:DataW.trod enc Tryd.prog W 0 sp held n 2 [c7]=some y7:=by simpa [show Tryd.prog.cellsOf 2=1 by kernel_rfl,Value.cells] using hg 7 _ rfl
   have z7:Rows.uptoBulk y7.1≤B:=by omega
   have g8:DataW.trod enc Tryd.prog W 0 sp held n 29 [c8]=some y8:=by simpa [show Tryd.prog.cellsOf 29=1 by kernel_rfl,Value.cells] using hg 8 _ rfl
   have z8:Rows.uptoBulk y8.1≤B:=by omega
   clear hz hg
   obtain ⟨algsV,algs,e0,i0⟩:=qEo g0 z0
   simp only [List.cons.injEq,and_true] at e0
   subst e0
   obtain ⟨iss,e1,rfl,i1⟩:=DataW.trod_string Tryd.underlying9 g1
   simp only [List.cons.injEq,and_true] at e1
   subst e1
   obtain ⟨hasIss,e2,rfl⟩:=DataW.trod_bool Tryd.underlying4 g2
   simp only [List.cons.injEq,and_true] at e2
   subst e2
   obtain ⟨aud,e3,rfl,i3⟩:=DataW.trod_string Tryd.underlying9 g3
   simp only [List.cons.injEq,and_true] at e3
   subst e3
   obtain ⟨hasAud,e4,rfl⟩:=DataW.trod_bool Tryd.underlying4 g4
   simp only [List.cons.injEq,and_true] at e4
   subst e4
   obtain ⟨typ,e5,rfl,i5⟩:=DataW.trod_string Tryd.underlying9 g5
   simp only [List.cons.injEq,and_true] at e5
   subst e5
   obtain ⟨hasTyp,e6,rfl⟩:=DataW.trod_bool Tryd.underlying4 g6
   simp only [List.cons.injEq,and_true] at e6
   subst e6
   obtain ⟨leeway,e7,rfl,i7⟩:=DataW.trod_int Tryd.underlying2 g7
   simp only [List.cons.injEq,and_true] at e7
   subst e7
   obtain ⟨needV,need,e8,i8⟩:=qEo g8 z8
   simp only [List.cons.injEq,and_true] at e8
   subst e8
   exact ⟨_,algs,iss,hasIss,aud,hasAud,typ,hasTyp,leeway,_,need,rfl,i0,bulk_str z1,bulk_str z3,bulk_str z5,Go.Eng.i64_of_wf i7,i8⟩
theorem openVS_claims {B:Nat} {v:Value} {d:DataW H} {p:List MemPlace} (hv:Value.okWide Tryd.prog W r b0 51 v) (h:DataW.Trod enc Tryd.prog W 0 sp held 51 v d p) (hz:Rows.uptoBulk d≤B) :
  ∃(valueV:Value) (value:List Eng.Node) (iss:ByteArray) (hasIss:Bool) (sub:ByteArray) (hasSub:Bool) (audV:Value) (aud:List ByteArray) (hasAud:Bool) (jti:ByteArray) (hasJti:Bool) (expH:Bool) (exp:Int) (nbfH:Bool) (nbf:Int) (iatH:Bool) (iat:Int),v=.agg #[valueV,.string iss,.bool hasIss,.string sub,.bool hasSub,audV,.bool hasAud,.string jti,.bool hasJti,.bool expH,.int .i64 exp,.bool nbfH,.int .i64 nbf,.bool iatH,.int .i64 iat] ∧
   (qCr noX W W .node valueV value∧(∀n∈value,NodeB B n)∧value.length≤B)∧iss.size≤B∧sub.size≤B∧(qCr noX W W .str audV aud∧(∀s∈aud,s.size≤B)∧aud.length≤B)∧jti.size≤B∧(-9223372036854775808≤exp∧exp≤9223372036854775807)∧(-9223372036854775808≤nbf∧nbf≤9223372036854775807)∧(-9223372036854775808≤iat∧iat≤9223372036854775807):=by
 obtain ⟨cs,rfl,hsz⟩:=okWide_struct Tryd.underlying51 hv
 obtain ⟨l⟩:=cs
 have hC:Tryd.prog.cellsOf 51=15:=by kernel_rfl
 match l,hsz.trans hC with
 | [c0,c1,c2,c3,c4,c5,c6,c7,c8,c9,c10,c11,c12,c13,c14],_ =>
  obtain ⟨fuel,hf⟩:=h
  obtain ⟨xs,n,_,hx,_,hlen,hg⟩:=DataW.trod_struct Tryd.underlying51 hf
  match xs,hlen with
  | [y0,y1,y2,y3,y4,y5,y6,y7,y8,y9,y10,y11],_ =>
   simp only [Prod.mk.injEq,List.map_cons,List.map_nil] at hx
   obtain ⟨rfl,_⟩:=hx
   simp only [Rows.uptoBulk,Rows.uptoBulkAll] at hz
   have g0:DataW.trod enc Tryd.prog W 0 sp held n 40 [c0]=some y0:=by simpa [show Tryd.prog.cellsOf 40=1 by kernel_rfl,Value.cells] using hg 0 _ rfl
   have z0:Rows.uptoBulk y0.1≤B:=by omega
   have g1:DataW.trod enc Tryd.prog W 0 sp held n 9 [c1]=some y1:=by simpa [show Tryd.prog.cellsOf 9=1 by kernel_rfl,Value.cells] using hg 1 _ rfl
   have z1:Rows.uptoBulk y1.1≤B:=by omega
   have g2:DataW.trod enc Tryd.prog W 0 sp held n 4 [c2]=some y2:=by simpa [show Tryd.prog.cellsOf 4=1 by kernel_rfl,Value.cells] using hg 2 _ rfl
   have z2:Rows.uptoBulk y2.1≤B:=by omega
   have g3:DataW.trod enc Tryd.prog W 0 sp held n 9 [c3]=some y3:=by simpa [show Tryd.prog.cellsOf 9=1 by kernel_rfl,Value.cells] using hg 3 _ rfl
   have z3:Rows.uptoBulk y3.1≤B:=by omega
   have g4:DataW.trod enc Tryd.prog W 0 sp held n 4 [c4]=some y4:=by simpa [show Tryd.prog.cellsOf 4=1 by kernel_rfl,Value.cells] using hg 4 _ rfl
   have z4:Rows.uptoBulk y4.1≤B:=by omega
   have g5:DataW.trod enc Tryd.prog W 0 sp held n 29 [c5]=some y5:=by simpa [show Tryd.prog.cellsOf 29=1 by kernel_rfl,Value.cells] using hg 5 _ rfl
   have z5:Rows.uptoBulk y5.1≤B:=by omega
   have g6:DataW.trod enc Tryd.prog W 0 sp held n 4 [c6]=some y6:=by simpa [show Tryd.prog.cellsOf 4=1 by kernel_rfl,Value.cells] using hg 6 _ rfl
   have z6:Rows.uptoBulk y6.1≤B:=by omega
   have g7:DataW.trod enc Tryd.prog W 0 sp held n 9 [c7]=some y7:=by simpa [show Tryd.prog.cellsOf 9=1 by kernel_rfl,Value.cells] using hg 7 _ rfl
   have z7:Rows.uptoBulk y7.1≤B:=by omega
   have g8:DataW.trod enc Tryd.prog W 0 sp held n 4 [c8]=some y8:=by simpa [show Tryd.prog.cellsOf 4=1 by kernel_rfl,Value.cells] using hg 8 _ rfl
   have z8:Rows.uptoBulk y8.1≤B:=by omega
   have g9:DataW.trod enc Tryd.prog W 0 sp held n 49 [c9,c10]=some y9:=by simpa [show Tryd.prog.cellsOf 49=2 by kernel_rfl,Value.cells] using hg 9 _ rfl
   have z9:Rows.uptoBulk y9.1≤B:=by omega
   have g10:DataW.trod enc Tryd.prog W 0 sp held n 49 [c11,c12]=some y10:=by simpa [show Tryd.prog.cellsOf 49=2 by kernel_rfl,Value.cells] using hg 10 _ rfl
   have z10:Rows.uptoBulk y10.1≤B:=by omega
   have g11:DataW.trod enc Tryd.prog W 0 sp held n 49 [c13,c14]=some y11:=by simpa [show Tryd.prog.cellsOf 49=2 by kernel_rfl,Value.cells] using hg 11 _ rfl
   have z11:Rows.uptoBulk y11.1≤B:=by omega
   clear hz hg
   obtain ⟨valueV,value,e0,i0⟩:=openV_nodes_cells g0 z0
   simp only [List.cons.injEq,and_true] at e0
   subst e0
   obtain ⟨iss,e1,rfl,i1⟩:=DataW.trod_string Tryd.underlying9 g1
   simp only [List.cons.injEq,and_true] at e1
   subst e1
   obtain ⟨hasIss,e2,rfl⟩:=DataW.trod_bool Tryd.underlying4 g2
   simp only [List.cons.injEq,and_true] at e2
   subst e2
   obtain ⟨sub,e3,rfl,i3⟩:=DataW.trod_string Tryd.underlying9 g3
   simp only [List.cons.injEq,and_true] at e3
   subst e3
   obtain ⟨hasSub,e4,rfl⟩:=DataW.trod_bool Tryd.underlying4 g4
   simp only [List.cons.injEq,and_true] at e4
   subst e4
   obtain ⟨audV,aud,e5,i5⟩:=qEo g5 z5
   simp only [List.cons.injEq,and_true] at e5
   subst e5
   obtain ⟨hasAud,e6,rfl⟩:=DataW.trod_bool Tryd.underlying4 g6
   simp only [List.cons.injEq,and_true] at e6
   subst e6
   obtain ⟨jti,e7,rfl,i7⟩:=DataW.trod_string Tryd.underlying9 g7
   simp only [List.cons.injEq,and_true] at e7
   subst e7
   obtain ⟨hasJti,e8,rfl⟩:=DataW.trod_bool Tryd.underlying4 g8
   simp only [List.cons.injEq,and_true] at e8
   subst e8
   obtain ⟨expH,exp,e9,i9⟩:=qEq g9
   simp only [List.cons.injEq,and_true] at e9
   obtain ⟨rfl,rfl⟩:=e9
   obtain ⟨nbfH,nbf,e10,i10⟩:=qEq g10
   simp only [List.cons.injEq,and_true] at e10
   obtain ⟨rfl,rfl⟩:=e10
   obtain ⟨iatH,iat,e11,i11⟩:=qEq g11
   simp only [List.cons.injEq,and_true] at e11
   obtain ⟨rfl,rfl⟩:=e11
   exact ⟨_,value,iss,hasIss,sub,hasSub,_,aud,hasAud,jti,hasJti,expH,exp,nbfH,nbf,iatH,iat,rfl,i0,bulk_str z1,bulk_str z3,i5,bulk_str z7,i9,i10,i11⟩
end
end Go.Proofs.YticplgndjpljiaaDoor
namespace Go.Proofs
open Go.Shelf
shelf_lay Lays.n260 Nm 260 at Tryd as Tryd.laysSlow
end Go.Proofs
namespace Go.Proofs.YticplgndjpljiaaDoor
open Go.Eng Go.Shelf
set_option linter.unusedVariables false
theorem first_data:(Rows.laid_unicode_utf8_first:DataW Unit)=Lib.firstData:=by kernel_rfl
theorem accept_data:(Rows.laid_unicode_utf8_acceptRanges:DataW Unit)=Lib.acceptData:=by kernel_rfl
theorem utf8_tabs {W:World} (h3:Lib.VarReads Tryd.prog W "unicode/utf8.first" Rows.laid_unicode_utf8_first) (h4:Lib.VarReads Tryd.prog W "unicode/utf8.acceptRanges" Rows.laid_unicode_utf8_acceptRanges):tabOK noX W:=by
 rw [first_data] at h3
 rw [accept_data] at h4
 exact ⟨utf8Tabs_of_reads Tryd.laysSlow ⟨by kernel_rfl,by kernel_rfl,by kernel_rfl,by kernel_rfl,by kernel_rfl,by kernel_rfl,by kernel_rfl⟩ h3 h4,fun h=>h,fun h=>h⟩
end Go.Proofs.YticplgndjpljiaaDoor
namespace Go.Proofs.YticplgndjpljiaaDoor
open Go.Eng
set_option linter.unusedVariables false
set_option linter.unusedSimpArgs false
theorem claimsEach_tabs {W:World} (h:laidMetH Tryd.prog Rows.claimsEachUptoRow.laid W):tabOK noX W:=by
 have h':laidMet Tryd.prog Rows.claimsEachUptoRow.laid W:=h
 exact utf8_tabs (Lib.laidMet.reads h' (List.mem_cons_of_mem _ List.mem_cons_self)) (Lib.laidMet.reads h' List.mem_cons_self)
theorem claimsEach_walk (valueV:Value) (value:List Eng.Node) (iss:ByteArray) (hasIss:Bool) (sub:ByteArray) (hasSub:Bool) (audV:Value) (aud:List ByteArray) (hasAud:Bool) (jti:ByteArray) (hasJti:Bool) (expH:Bool) (exp:Int) (nbfH:Bool) (nbf:Int) (iatH:Bool) (iat:Int)
  (algsV:Value) (algs:List ByteArray) (piss:ByteArray) (phasIss:Bool) (paud:ByteArray) (phasAud:Bool) (typ:ByteArray) (hasTyp:Bool) (leeway:Int) (needV:Value) (need:List ByteArray) (W:World)
  (h0:qCr noX W W .node valueV value∧(∀n∈value,NodeB 1048576 n)∧value.length≤1048576) (h1:iss.size≤1048576) (h2:sub.size≤1048576) (h3:qCr noX W W .str audV aud∧(∀s∈aud,s.size≤1048576)∧aud.length≤1048576) (h4:jti.size≤1048576)
  (h5 : -9223372036854775808≤exp∧exp≤9223372036854775807) (h6 : -9223372036854775808≤nbf∧nbf≤9223372036854775807) (h7 : -9223372036854775808≤iat∧iat≤9223372036854775807)
  (h8:qCr noX W W .str algsV algs∧(∀s∈algs,s.size≤1048576)∧algs.length≤1048576) (h9:piss.size≤1048576) (h10:paud.size≤1048576) (h11:typ.size≤1048576) (h12 : -9223372036854775808≤leeway∧leeway≤9223372036854775807)
  (h13:qCr noX W W .str needV need∧(∀s∈need,s.size≤1048576)∧need.length≤1048576) (hT:tabOK noX W) :
  Calls Tryd.prog 10 #[.agg #[valueV,.string iss,.bool hasIss,.string sub,.bool hasSub,audV,.bool hasAud,.string jti,.bool hasJti,.bool expH,.int .i64 exp,.bool nbfH,.int .i64 nbf,.bool iatH,.int .i64 iat],
    .agg #[algsV,.string piss,.bool phasIss,.string paud,.bool phasAud,.string typ,.bool hasTyp,.int .i64 leeway,needV]] W fun e w'=>e=.returned (.bool true)∧LowB W w':=by
 refine callV zbl_val
  (args:=[.c (.agg [.own 0,.val (.string iss),.val (.bool hasIss),.val (.string sub),.val (.bool hasSub),.own 1,.val (.bool hasAud),.val (.string jti),.val (.bool hasJti),.val (.bool expH),.val (.int .i64 exp),.val (.bool nbfH),.val (.int .i64 nbf),.val (.bool iatH),.val (.int .i64 iat)]),
   .c (.agg [.own 2,.val (.string piss),.val (.bool phasIss),.val (.string paud),.val (.bool phasAud),.val (.string typ),.val (.bool hasTyp),.val (.int .i64 leeway),.own 3])])
  (hp:=[.view .node value,.view .str aud,.view .str algs,.view .str need]) (hp':=[.view .node value,.view .str aud,.view .str algs,.view .str need]) (v:=.c (.o (.val (.bool true)))) ?_ ?_ rfl W
  (views_sat (vs:=[valueV,audV,algsV,needV]) ⟨h0.1,h3.1,h8.1,h13.1,tV⟩ hT) _ rfl
 ·show ((zbl_s ⟨value,iss,hasIss,sub,hasSub,aud,hasAud,jti,hasJti,⟨expH,exp⟩,⟨nbfH,nbf⟩,⟨iatH,iat⟩⟩ ⟨algs,piss,phasIss,paud,phasAud,typ,hasTyp,leeway,need⟩).bind fun r=>some ((.c (.o (.val (.bool r))),[.view .node value,.view .str aud,.view .str algs,.view .str need]):SV × List SB))=_
  rw [claimsEach_plain (c:=⟨value,iss,hasIss,sub,hasSub,aud,hasAud,jti,hasJti,⟨expH,exp⟩,⟨nbfH,nbf⟩,⟨iatH,iat⟩⟩) (p:=⟨algs,piss,phasIss,paud,phasAud,typ,hasTyp,leeway,need⟩) ⟨by show value.length≤_; omega,fun n hn=>⟨by have:=(h0.2.1 n hn).key; omega,by have:=(h0.2.1 n hn).text; omega,(h0.2.1 n hn).kids⟩⟩ (by show aud.length≤_; omega) (by show need.length≤_; omega)]
  rfl
 ·intro x hx
  simp only [List.mem_cons,List.not_mem_nil,or_false] at hx
  rcases hx with rfl | rfl
  ·intro y hy
   simp only [List.mem_cons,List.not_mem_nil,or_false] at hy
   rcases hy with rfl | rfl | rfl | rfl | rfl | rfl | rfl | rfl | rfl | rfl | rfl | rfl | rfl | rfl | rfl <;> first | trivial | (show _<4; omega)
  ·intro y hy
   simp only [List.mem_cons,List.not_mem_nil,or_false] at hy
   rcases hy with rfl | rfl | rfl | rfl | rfl | rfl | rfl | rfl | rfl <;> first | trivial | (show _<4; omega)
end Go.Proofs.YticplgndjpljiaaDoor
