/-
  ClaimsSaid: its call returns true.
-/
import Derived.Below
import Derived.Carry
import Derived.Lib.LaidU8
import Derived.Shelf.Lay
import Derived.Ground.NamesProg
import Derived.Test.YticplgndjpljiaaDoorJD
import Derived.Test.YticplgndjpljiaaDoorEngN
import Derived.Test.YticplgndjpljiaaDoorEngO
import Derived.Test.YticplgndjpljiaaDoorProg
import Derived.Test.YticplgndjpljiaaDoorRows
namespace Go.Proofs.YticplgndjpljiaaDoor
open Go.Eng
set_option linter.unusedVariables false
set_option linter.unusedSimpArgs false
section
variable {l:List Eng.Node} {L:List Nat} (hO:Obj l L)
include hO
theorem p_str1 (key:ByteArray):zbq_s l key=some (txtO l (qAq l key L),(qAq l key L).isSome,okO (strB l) (qAq l key L)):=by
 unfold zbq_s
 rw [(hO.mem key).1,obS]
 cases hf:qAq l key L with
 | none=>rfl
 | some p =>
  have hlt:=(hO.find_lt hf).1
  rw [memI_some,deF (by omega),cnF,qAb (by omega),qAb (by omega),qAb (by omega),qAb (by omega),qAb (by omega),qAb (by omega)]
  rfl
theorem p_whole1 (key:ByteArray):zbr_s l key=some (timO l (qAq l key L),okO (timB l) (qAq l key L)):=by
 unfold zbr_s
 rw [(hO.mem key).1,obS]
 cases hf:qAq l key L with
 | none=>rfl
 | some p =>
  have hlt:=(hO.find_lt hf).1
  rw [memI_some,deF (by omega),cnF,qAb (by omega),qAb (by omega),qAb (by omega),qAb (by omega),qAb (by omega),qAb (by omega),qAb (fun _=>by omega),qAb (fun _=>by omega),qAb (fun _=>by omega)]
  rfl
end
theorem said_p1 {l:List Eng.Node} (hl:l.length≤2000000) {L:List Nat} (hL:L.length≤2000000) (hin:∀q∈L,q<l.length) :
  ∀(post pre:List Nat) (A:List ByteArray) (b:Bool),L=pre++post→A.length=pre.length→zbl_p1 b (pre.length:Int) l A (upN L)=some (b && post.all (strB l),A++post.map (tX l))
 | [],pre,A,b,h,hA=>by
  unfold zbl_p1
  refine qAi ?_
  unfold qFi
  dsimp only
  rw [qEi,deF (by rw [h,List.append_nil]; omega),cnF]
  simp
 | p::post,pre,A,b,h,hA=>by
  have hlen:L.length=pre.length+(post.length+1):=by rw [h,List.length_append,List.length_cons]
  have hp:=hin p (by rw [h]; exact List.mem_append_right _ List.mem_cons_self)
  have hat:(upN L).getD pre.length (ET.dft .i64)=(p:Int):=by rw [h]; exact upN_at pre post p
  have ih:=said_p1 hl hL hin post (pre++[p]) (A++[tX l p]) (b && strB l p) (by rw [h]; simp) (by simp [hA])
  rw [List.all_cons,←Bool.and_assoc,show A++(p::post).map (tX l)=(A++[tX l p])++post.map (tX l) by simp,←ih]
  unfold zbl_p1
  rw [qAr (y:=((b && strB l p),(((pre++[p]).length:Nat):Int),A++[tX l p]))]
  unfold qFi
  dsimp only
  rw [qEi,deT (by omega),cnT,qAb (fun _=>by omega),Int.toNat_natCast,qAb (fun _=>by omega),hat,Int.toNat_natCast,qAb (fun _=>by omega),qAb (fun _=>by omega),qAb (fun _=>by omega),qAb (by omega),qAb (by omega),qAb (by omega),qAb (by omega),qAb (by omega),qAb (by rw [List.length_singleton]; omega)]
  refine (qAb (by unfold qAc; omega) _).trans ?_
  rw [List.length_append]
  rfl
theorem p_parse_obj {t:ByteArray} {l:List Eng.Node} {L:List Nat} (hp:parseR t=(l,0,0)) (h7:(l.getD 0 (ET.dft .node)).kind=7) (hO:Obj l L) (hkd:∀n∈l,1≤n.kind∧n.kind≤7) (hL:L.length≤2000000):zad_s t=some (if allO l L=true then (fullC l L,0) else (noC,131)):=by
 have hlt:=hO.ne
 have hlp:=claims_loop hO hkd hL L [] rfl
 have hlp':zad_p0 ((upN L).length:Int) 0 l ⟨#[]⟩ false ⟨#[]⟩ false false ⟨#[]⟩ false false 0 false 0 false 0 (upN L) [] []=some (if L.all (goodB l)=true then .inr (tupC (cOf l L)) else .inl (131,⟨#[]⟩,false,⟨#[]⟩,false,false,⟨#[]⟩,false,false,0,false,0,false,0,[],[])):=hlp
 unfold zad_s
 rw [p_Parse,obS,hp]
 dsimp only
 rw [deT rfl,Bool.not_true,cnF,qAb (by omega),qAb (by omega),qAb (by omega)]
 rw [show Int.toNat 0=0 from rfl,deT h7,Bool.not_true,cnF,hO.kids,obS,hlp',obS,all_good hO.uniq]
 cases allO l L <;> rfl
theorem texts_none (l:List ByteArray) (hl:l.length≤4000000):∃b,zbp_s l []=some b:=by
 cases l with
 | nil=>exact ⟨true,texts_self [] (by decide)⟩
 | cons x r =>
  refine ⟨false,?_⟩
  unfold zbp_s
  rw [deF (by rw [List.length_cons,List.length_nil]; omega),Bool.not_false,cnT]
theorem nodes_none (l:List Eng.Node) (hl:l.length≤3000000):∃b,zbo_s l []=some b:=by
 cases l with
 | nil=>exact ⟨true,nodes_self [] (by decide)⟩
 | cons x r =>
  refine ⟨false,?_⟩
  unfold zbo_s
  rw [deF (by rw [List.length_cons,List.length_nil]; omega),Bool.not_false,cnT]
theorem same_none (c:qHc) (h1:c.value.length≤3000000) (h2:c.aud.length≤3000000):∃b,zbn_s c noC=some b:=by
 obtain ⟨b1,e1⟩:=texts_none c.aud (by omega)
 obtain ⟨b2,e2⟩:=nodes_none c.value h1
 unfold zbn_s
 have e1':zbp_s c.aud noC.aud=some b1:=e1
 have e2':zbo_s c.value noC.value=some b2:=e2
 rw [e1',e2']
 generalize ((((decide (c.iss=noC.iss)) && (c.hasIss == noC.hasIss)) && (decide (c.sub=noC.sub))) && (c.hasSub == noC.hasSub))=x
 cases x with
 | false=>exact ⟨false,rfl⟩
 | true =>
  rw [cnT,obS]
  generalize ((((((b1 && (c.hasAud == noC.hasAud)) && (decide (c.jti=noC.jti))) && (c.hasJti == noC.hasJti)) && ((c.exp_.has == noC.exp_.has) && (decide (c.exp_.at_=noC.exp_.at_) && true))) && ((c.nbf.has == noC.nbf.has) && (decide (c.nbf.at_=noC.nbf.at_) && true))) && ((c.iat.has == noC.iat.has) && (decide (c.iat.at_=noC.iat.at_) && true)))=y
  cases y with
  | false=>exact ⟨false,rfl⟩
  | true=>exact ⟨b2,rfl⟩
theorem said_p0 {l:List Eng.Node} {L:List Nat} (hl:l.length≤2000000) {x7:Bool} {k:Int} {A:List ByteArray} (e:Int) (none_:Bool) (c:qHc)
  (hr:(c,e)=if allO l L=true then (fullC l L,0) else (noC,131)) (hn:c=noC→none_=true)
  (h7:x7=okO (audB l) (qAq l nAud L)) (hk:decide ((0:Int)≤k)=(qAq l nAud L).isSome) (hA:x7=true→A=audO l (qAq l nAud L)) (hAl:(audO l (qAq l nAud L)).length≤2000000) :
  zbl_p0 e none_ (txtO l (qAq l nIss L)) (qAq l nIss L).isSome (okO (strB l) (qAq l nIss L)) (txtO l (qAq l nSub L)) (qAq l nSub L).isSome (okO (strB l) (qAq l nSub L)) (txtO l (qAq l nJti L)) (qAq l nJti L).isSome (okO (strB l) (qAq l nJti L)) (okO (timB l) (qAq l nExp L)) (okO (timB l) (qAq l nNbf L)) (okO (timB l) (qAq l nIat L)) x7 k c.iss c.hasIss c.sub c.hasSub c.hasAud c.jti c.hasJti c.exp_.has c.exp_.at_ c.nbf.has c.nbf.at_ c.iat.has c.iat.at_ l (timO l (qAq l nExp L)).has (timO l (qAq l nExp L)).at_ (timO l (qAq l nNbf L)).has (timO l (qAq l nNbf L)).at_ (timO l (qAq l nIat L)).has (timO l (qAq l nIat L)).at_ A c.value c.aud=some true:=by
 have hflag:(((((((!okO (strB l) (qAq l nIss L)) || (!okO (strB l) (qAq l nSub L))) || (!okO (strB l) (qAq l nJti L))) || (!okO (timB l) (qAq l nExp L))) || (!okO (timB l) (qAq l nNbf L))) || (!okO (timB l) (qAq l nIat L))) || (!x7))=!allO l L:=by
  rw [h7]
  unfold allO
  generalize okO (strB l) (qAq l nIss L)=a
  generalize okO (strB l) (qAq l nSub L)=b
  generalize okO (strB l) (qAq l nJti L)=c
  generalize okO (timB l) (qAq l nExp L)=d
  generalize okO (timB l) (qAq l nNbf L)=e
  generalize okO (timB l) (qAq l nIat L)=f
  generalize okO (audB l) (qAq l nAud L)=g
  cases a <;> cases b <;> cases c <;> cases d <;> cases e <;> cases f <;> cases g <;> rfl
 unfold zbl_p0
 rw [hflag]
 cases hall:allO l L with
 | false =>
  rw [hall,if_neg (by decide)] at hr
  obtain ⟨rfl,rfl⟩:=Prod.mk.inj hr
  rw [hn rfl]
  rfl
 | true =>
  rw [hall,if_pos rfl] at hr
  obtain ⟨rfl,rfl⟩:=Prod.mk.inj hr
  have hx:x7=true:=by
   rw [h7]
   unfold allO at hall
   simp only [Bool.and_eq_true] at hall
   exact hall.1.1.1.2
  rw [hA hx,hk,Bool.not_true,cnF,deT rfl,Bool.not_true,cnF]
  have e1:zbo_s (fullC l L).value l=some true:=nodes_self l (by omega)
  have e2:zbp_s (fullC l L).aud (audO l (qAq l nAud L))=some true:=texts_self (audO l (qAq l nAud L)) (by omega)
  rw [e1,obS,e2]
  unfold fullC cOf
  dsimp only
  simp only [decide_true,beq_self_eq_true,Bool.not_true,Bool.or_self,Bool.and_self,cnF,cnT]
  rfl
theorem claimsSaid_plain (t:ByteArray):zbl_s t=some true:=by
 have hself:zbn_s noC noC=some true:=claims_self noC (by decide) (by decide)
 unfold zbl_s
 rw [awake_is,obS,Bool.not_true,cnF]
 rcases parseR_cases t with ⟨l,h1,hs,h2,hne,hll,hT,hz⟩ | ⟨c,b,h1,hc⟩
 ·have hlt:0<l.length:=List.length_pos_iff.2 hne
  by_cases h7:(l.getD 0 (ET.dft .node)).kind=7
  ·have hok:OkL l:=⟨by omega,fun n hn=>(hz n hn).okN (by omega)⟩
   obtain ⟨L,hO⟩:=obj_read hs h2 hok hT h7 fun d a b h=>oneS_tree hok d true a b h
   have hkd:∀n∈l,1≤n.kind∧n.kind≤7:=fun n hn=>(hz n hn).2.2.2.2
   have h0:=sub_of hok hT
   have hLl:L.length≤2000000:=by
    have e1:=hO.kids
    have e2:=h0.j
    rw [show ((0:Nat):Int)=0 from rfl] at e2
    rw [e1] at e2
    have e3:(upN L).length=(upN (subP l 0)).length:=congrArg List.length (Option.some.inj e2)
    rw [qEi,qEi] at e3
    have:=h0.len
    omega
   have hpp:=p_parse_obj h1 h7 hO hkd hLl
   have hAl:(audO l (qAq l nAud L)).length≤2000000:=by
    cases hf:qAq l nAud L with
    | none=>show 0≤_; omega
    | some p =>
     have hp:=(hO.find_lt hf).2
     by_cases h6:(l.getD p (ET.dft .node)).kind=6
     ·rw [audO_six h6,List.length_map]; exact hp.len
     ·rw [audO_else h6]; show 1≤_; omega
   obtain ⟨c,e,hce⟩:∃c e,(c,e)=if allO l L=true then (fullC l L,(0:Int)) else (noC,131):=⟨_,_,rfl⟩
   rw [←hce] at hpp
   have hsz:c.value.length≤3000000∧c.aud.length≤3000000:=by
    cases hall:allO l L with
    | true =>
     rw [hall,if_pos rfl] at hce
     obtain ⟨rfl,rfl⟩:=Prod.mk.inj hce
     exact ⟨by show l.length≤_; omega,by show (audO l (qAq l nAud L)).length≤_; omega⟩
    | false =>
     rw [hall,if_neg (by decide)] at hce
     obtain ⟨rfl,rfl⟩:=Prod.mk.inj hce
     exact ⟨by decide,by decide⟩
   obtain ⟨bn,hbn⟩:=same_none c hsz.1 hsz.2
   have hn:c=noC→bn=true:=fun h=>by rw [h,hself] at hbn; exact (Option.some.inj hbn).symm
   have hbn':zbn_s c (⟨[],(⟨#[]⟩:ByteArray),false,(⟨#[]⟩:ByteArray),false,[],false,(⟨#[]⟩:ByteArray),false,(⟨false,(0:Int)⟩:qHf),(⟨false,(0:Int)⟩:qHf),(⟨false,(0:Int)⟩:qHf)⟩:qHc)=some bn:=hbn
   rw [hpp,obS,p_Parse,obS,h1]
   dsimp only
   rw [hbn',obS,deT rfl,Bool.not_true,cnF,qAb (by omega),qAb (by omega),qAb (by omega),show Int.toNat 0=0 from rfl,deT h7,Bool.not_true,cnF]
   have t1:=p_str1 hO nIss
   have t2:=p_str1 hO nSub
   have t3:=p_str1 hO nJti
   have t4:=(hO.mem nAud).1
   have t5:=p_whole1 hO nExp
   have t6:=p_whole1 hO nNbf
   have t7:=p_whole1 hO nIat
   show ((zbq_s l nIss).bind fun r82=>(zbq_s l nSub).bind fun r83=>(zbq_s l nJti).bind fun r84=>(zbr_s l nExp).bind fun r85=>(zbr_s l nNbf).bind fun r86=>(zbr_s l nIat).bind fun r87=>(zao_s l 0 nAud).bind _)=_
   rw [t1,obS,t2,obS,t3,obS,t5,obS,t6,obS,t7,obS,t4,obS]
   cases hf:qAq l nAud L with
   | none =>
    have hfin:=said_p0 (l:=l) (L:=L) (by omega) (x7:=true) (k := -1) (A:=[]) e bn c hce hn (by rw [hf]; rfl) (by rw [hf]; rfl) (fun _=>by rw [hf]; rfl) hAl
    show (gd _ (gd _ (gd _ (bif (false && _) then _ else bif false then _ else _))))=_
    rw [qAb (fun h=>by cases h),qAb (fun h=>by cases h),qAb (fun h=>by cases h),Bool.false_and,cnF,cnF]
    rw [show memI none = -1 from rfl]
    dsimp only
    rw [hfin]
    rfl
   | some p =>
    obtain ⟨hpl,hp⟩:=hO.find_lt hf
    rw [memI_some]
    rw [deT (show (0:Int)≤(p:Int) by omega),qAb (fun _=>by omega),qAb (fun _=>by omega),qAb (fun _=>by omega),Bool.true_and,cnT,Int.toNat_natCast]
    by_cases h5:(l.getD p (ET.dft .node)).kind=5
    ·have h6:¬(l.getD p (ET.dft .node)).kind=6:=by omega
     have hb:audB l p=true:=by unfold audB; rw [if_neg h6]; exact deT h5
     have hfin:=said_p0 (l:=l) (L:=L) (by omega) (x7:=true) (k:=(p:Int)) (A:=[(l.getD p (ET.dft .node)).text]) e bn c hce hn (by rw [hf]; exact hb.symm) (by rw [hf,deT (show (0:Int)≤(p:Int) by omega)]; rfl) (fun _=>by rw [hf,audO_else h6]; rfl) hAl
     rw [deT h5,cnT,qAb (by omega),qAb (by omega),qAb (by omega),qAb (by rw [List.length_singleton]; omega)]
     dsimp only
     rw [hfin]
     rfl
    ·rw [deF h5,cnF,qAb (by omega),qAb (by omega),qAb (by omega),hp.j,obS]
     have hlp:=said_p1 (l:=l) (by omega) hp.len hp.inn (subP l p) [] [] (decide ((l.getD p (ET.dft .node)).kind=6)) rfl rfl
     rw [show ((([]:List Nat).length:Nat):Int)=0 from rfl] at hlp
     rw [hlp,obS]
     have hfin:=said_p0 (l:=l) (L:=L) (by omega) (x7:=(decide ((l.getD p (ET.dft .node)).kind=6) && (subP l p).all (strB l))) (k:=(p:Int)) (A:=[]++(subP l p).map (tX l)) e bn c hce hn (by
      rw [hf]
      show _=audB l p
      unfold audB
      by_cases h6:(l.getD p (ET.dft .node)).kind=6
      ·rw [if_pos h6,deT h6,Bool.true_and]
      ·rw [if_neg h6,deF h6,Bool.false_and]
       exact (deF h5).symm) (by rw [hf,deT (show (0:Int)≤(p:Int) by omega)]; rfl) (fun h=>by
      rw [Bool.and_eq_true,decide_eq_true_eq] at h
      rw [hf,audO_six h.1]
      rfl) hAl
     dsimp only
     rw [hfin]
     rfl
  ·have hpp:zad_s t=some (noC,130):=by
    unfold zad_s
    rw [p_Parse,obS,h1]
    dsimp only
    rw [deT rfl,Bool.not_true,cnF,qAb (by omega),qAb (by omega),qAb (by omega),show Int.toNat 0=0 from rfl,deF h7,Bool.not_false,cnT]
    rfl
   rw [hpp,obS,p_Parse,obS,h1]
   show ((zbn_s noC noC).bind _)=_
   rw [hself,obS]
   dsimp only
   rw [deT rfl,Bool.not_true,cnF,qAb (by omega),qAb (by omega),qAb (by omega),show Int.toNat 0=0 from rfl,deF h7,Bool.not_false,cnT]
   rfl
 ·have hpp:zad_s t=some (noC,c):=by
   unfold zad_s
   rw [p_Parse,obS,h1]
   dsimp only
   rw [deF hc,Bool.not_false,cnT]
   rfl
  rw [hpp,obS,p_Parse,obS,h1]
  show ((zbn_s noC noC).bind _)=_
  rw [hself,obS]
  dsimp only
  rw [deF hc,Bool.not_false,cnT,deT rfl]
  rfl
end Go.Proofs.YticplgndjpljiaaDoor
namespace Go.Eng
open Go.RowKit
set_option linter.unusedVariables false
theorem reach_of {x:Nat} (h:decide (x≤reachBytes)=true):x≤140737488351232:=by
 have h2:=of_decide_eq_true h
 exact h2
theorem size_of_weights {H:Type} {P:Program} {T:TypeId} {s:ByteArray} (h:∀x∈(DataW.lit (.string s.data.toList):DataW H).weights P T,x≤140737488351232):s.size≤140737488351232:=by
 have h2:=h s.data.toList.length (by simp only [DataW.weights]; exact List.mem_singleton.2 rfl)
 rw [Array.length_toList] at h2
 exact h2
structure LowB (w w':World):Prop where
 os:w'.os=w.os
 output:w'.output=w.output
 size:w.heap.size≤w'.heap.size
 block:∀k,k<w.heap.size→w'.heap[k]?=w.heap[k]?
theorem lowB_of_stays {w w':World} (h:Stays (fun _=>False) w w'):LowB w w':=⟨h.os,h.output,h.size,fun k hk=>h.block k hk id⟩
theorem LowB.frame {W w':World} (h:LowB W w') (may:MemPlace→Prop):W.keptBut w' may:=by
 refine ⟨h.os,h.output,fun i hi=>?_⟩
 rw [h.block i hi]
 split <;> simp_all
theorem LowB.same {W w':World} (h:LowB W w') {p:MemPlace} (hp:p.block<W.heap.size):W.sameAt w' p:=by
 cases p with
 | cell b o=>exact World.cell?_of_block (w:=W) (h.block b hp)
 | map b=>exact h.block b hp
theorem LowB.trod {H:Type} {enc:TypeId × Value→H} {P:Program} {t:TypeId} (hl:laidOutB P=true) (hr:P.readableRec t=true) (hrow:t<P.types.size) {W W':World} {v:Value} {d:DataW H} {ps:List MemPlace}
  (h:DataW.Trod enc P W 0 (fun _=>true) true t v d ps) (hb:LowB W W') (hlt:∀x∈ps,x.block<W.heap.size) :
  DataW.Trod enc P W' 0 (fun b=>decide (b<W.heap.size)) true t v d ps :=
 WideElems.Trod_stays hl hr hrow h (fun x hx=>hb.same (hlt x hx)) (fun x hx=>by simpa using hlt x hx)
theorem callS {P:Program} {f:Nat} {C:CS} (h:qAn P f C) {args:List SV} {v:SV} (hc:C args [] (SV × List SB) (fun v hp'=>some (v,hp'))=some (v,[])) (hs:args.all SV.shut=true) (hv:v.shut=true) (w:World) (ht:tabOK noX w) (vs:List Value) (hvs:args.map (SV.den fun _=>undef)=vs) :
  Calls P f vs.toArray w fun e w'=>e=.returned (v.den fun _=>undef)∧LowB w w':=by
 have:=h.2 args [] v [] hc (fun v hv=>SV.shut_lt (List.all_eq_true.1 hs v hv) _) noX w (fun _=>undef) (HpSat.nil _ _ ht _)
 rw [hvs] at this
 exact this.mono fun e w' ⟨ρ',_,_,a,_,_,b⟩=>⟨by rw [a,SV.shut_den hv ρ' fun _=>undef],lowB_of_stays b⟩
end Go.Eng
namespace Go.Proofs
open Go.Shelf
shelf_lay Lays.n260 Nm 260 at Tryd as Tryd.laysSlow
end Go.Proofs
namespace Go.Proofs.YticplgndjpljiaaDoor
open Go.Eng Go.Shelf
set_option linter.unusedVariables false
theorem first_data:(Rows.laid_unicode_utf8_first:DataW Unit)=Lib.firstData:=by kernel_rfl
theorem accept_data:(Rows.laid_unicode_utf8_acceptRanges:DataW Unit)=Lib.acceptData:=by kernel_rfl
theorem utf8_tabs {W:World} (h3:Lib.VarReads Tryd.prog W "unicode/utf8.first" Rows.laid_unicode_utf8_first) (h4:Lib.VarReads Tryd.prog W "unicode/utf8.acceptRanges" Rows.laid_unicode_utf8_acceptRanges):tabOK noX W:=by
 rw [first_data] at h3
 rw [accept_data] at h4
 exact ⟨utf8Tabs_of_reads Tryd.laysSlow ⟨by kernel_rfl,by kernel_rfl,by kernel_rfl,by kernel_rfl,by kernel_rfl,by kernel_rfl,by kernel_rfl⟩ h3 h4,fun h=>h,fun h=>h⟩
end Go.Proofs.YticplgndjpljiaaDoor
namespace Go.Proofs.YticplgndjpljiaaDoor
open Go.Eng
set_option linter.unusedVariables false
set_option linter.unusedSimpArgs false
theorem claimsSaid_tabs {W:World} (h:laidMetH Tryd.prog Rows.claimsSaidRow.laid W):tabOK noX W:=by
 have h':laidMet Tryd.prog Rows.claimsSaidRow.laid W:=h
 exact utf8_tabs (Lib.laidMet.reads h' (List.mem_cons_of_mem _ List.mem_cons_self)) (Lib.laidMet.reads h' List.mem_cons_self)
theorem claimsSaid_walk (s0:ByteArray) (W:World) (h0:s0.size≤140737488351232) (hT:tabOK noX W):Calls Tryd.prog 9 #[.string s0] W fun e w'=>e=.returned (.bool true)∧LowB W w':=by
 refine callS zbl_val (args:=[.c (.o (.val (.string s0)))]) (v:=.c (.o (.val (.bool true)))) ?_ rfl rfl W hT [.string s0] rfl
 show ((zbl_s s0).bind fun r=>some ((.c (.o (.val (.bool r))),[]):SV × List SB))=_
 rw [claimsSaid_plain s0]
 rfl
end Go.Proofs.YticplgndjpljiaaDoor
