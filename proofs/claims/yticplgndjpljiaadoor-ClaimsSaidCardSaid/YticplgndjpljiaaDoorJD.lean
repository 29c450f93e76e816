/-
  Functions as the engine reads them (printed by gen.py).
-/
import Derived.Test.YticplgndjpljiaaDoorPClock
import Derived.Test.YticplgndjpljiaaDoorEngO
import Derived.Test.YticplgndjpljiaaDoorProg
import Derived.Test.YticplgndjpljiaaDoorPShape
import Derived.Test.YticplgndjpljiaaDoorGC
import Derived.Test.YticplgndjpljiaaDoorPShaped
import Derived.Test.YticplgndjpljiaaDoorJP
import Derived.Test.YticplgndjpljiaaDoorPLexQ
import Derived.Test.YticplgndjpljiaaDoorJW
namespace Go.Proofs.YticplgndjpljiaaDoor
open Go.Eng
set_option linter.unusedVariables false
set_option linter.unusedSimpArgs false
theorem getD_str {l:List ByteArray} {i:Nat} (h:i<l.length):l.getD i (ET.dft .str)=l[i]:=by simp [List.getD,h]
theorem index_loop (v:ByteArray) (l:List ByteArray) (hl:l.length≤3000000):∀(j i:Nat),i+j=l.length →
  (∃k:Nat,zbt_p0 v (l.length:Int) (i:Int) l=some (.inl (k:Int))∧v∈l.drop i)∨(zbt_p0 v (l.length:Int) (i:Int) l=some (.inr ())∧¬v∈l.drop i)
 | 0,i,h=>by
  refine .inr ⟨?_,?_⟩
  ·unfold zbt_p0
   refine qAi ?_
   unfold qDn
   rw [deF (by omega),cnF]
  ·rw [List.drop_eq_nil_of_le (by omega)]
   exact fun h=>by cases h
 | j+1,i,h=>by
  have hi:i<l.length:=by omega
  have hd:l.drop i=l[i]::l.drop (i+1):=List.drop_eq_getElem_cons hi
  by_cases he:v=l[i]
  ·refine .inl ⟨i,?_,?_⟩
   ·unfold zbt_p0
    refine qAi ?_
    unfold qDn
    rw [deT (by omega),cnT,qAb (by omega),qAb (by omega),Int.toNat_natCast,getD_str hi,deT he,cnT]
   ·rw [hd,he]; exact List.mem_cons_self
  ·have hst:qDn v (l.length:Int) (i:Int) l=some (.inl ((i+1:Nat):Int)):=by
    unfold qDn
    rw [deT (by omega),cnT,qAb (by omega),qAb (by omega),Int.toNat_natCast,getD_str hi,deF he,cnF]
    exact qAb (by unfold qAc; omega) _
   have hm:v∈l.drop i↔v∈l.drop (i+1):=by rw [hd,List.mem_cons]; simp [he]
   have ih:=index_loop v l hl j (i+1) (by omega)
   rw [hm]
   unfold zbt_p0 at ih ⊢
   rw [qAr hst]
   exact ih
noncomputable def inB (l:List ByteArray) (v:ByteArray):Bool:=(zbs_s l v).getD false
theorem contains_is (l:List ByteArray) (hl:l.length≤3000000) (v:ByteArray):zbs_s l v=some (inB l v)∧(inB l v=true↔v∈l):=by
 have h:=index_loop v l hl l.length 0 (by omega)
 rw [List.drop_zero,show ((0:Nat):Int)=0 from rfl] at h
 have key:∃b,zbs_s l v=some b∧(b=true↔v∈l):=by
  unfold zbs_s zbt_s
  rcases h with ⟨k,h,hm⟩ | ⟨h,hm⟩
  ·refine ⟨true,?_,fun _=>hm,fun _=>rfl⟩
   rw [h,obS,Sum.elim_inl,obS,deT (by omega)]
  ·refine ⟨false,?_,fun h=>(by cases h),fun h=>(hm h).elim⟩
   rw [h,obS,Sum.elim_inr,obS,deF (by omega)]
 obtain ⟨b,h1,h2⟩:=key
 have:inB l v=b:=by unfold inB; rw [h1]; rfl
 rw [this]
 exact ⟨h1,h2⟩
theorem need_is {v:List Eng.Node} {m:ByteArray→Int} (hm:∀n,zao_s v 0 n=some (m n)) (l:List ByteArray) (hl:l.length≤3000000):∀(j i:Nat),i+j=l.length →
  zaa_p0 (l.length:Int) (i:Int) v l=some (if (l.drop i).all (fun n=>decide (0≤m n))=true then .inr () else .inl 137)
 | 0,i,h=>by
  rw [List.drop_eq_nil_of_le (by omega)]
  unfold zaa_p0
  refine qAi ?_
  unfold qEo
  rw [deF (by omega),cnF]
  rfl
 | j+1,i,h=>by
  have hi:i<l.length:=by omega
  have hd:l.drop i=l[i]::l.drop (i+1):=List.drop_eq_getElem_cons hi
  rw [hd,List.all_cons]
  by_cases hr:m l[i]<0
  ·rw [deF (show ¬0≤m l[i] by omega),Bool.false_and,if_neg (by decide)]
   unfold zaa_p0
   refine qAi ?_
   unfold qEo
   rw [deT (by omega),cnT,qAb (by omega),qAb (by omega),Int.toNat_natCast,getD_str hi,hm,obS,deT hr,cnT]
  ·rw [deT (show 0≤m l[i] by omega),Bool.true_and,←need_is hm l hl j (i+1) (by omega)]
   unfold zaa_p0
   rw [qAr (y:=((i+1:Nat):Int))]
   unfold qEo
   rw [deT (by omega),cnT,qAb (by omega),qAb (by omega),Int.toNat_natCast,getD_str hi,hm,obS,deF hr,cnF]
   exact qAb (by unfold qAc; omega) _
noncomputable def chP (m:ByteArray→Int) (c:qHc) (p:qH0):Int :=
 bif !(p.need.all fun n=>decide (0≤m n)) then 137 else bif p.hasIss && !(c.hasIss && decide (c.iss=p.iss)) then 132 else bif p.hasAud then (bif c.hasAud && inB c.aud p.aud then 0 else 133) else bif c.hasAud then 133 else 0
theorem check_is {c:qHc} {p:qH0} {m:ByteArray→Int} (hm:∀n,zao_s c.value 0 n=some (m n)) (h2:c.aud.length≤3000000) (h3:p.need.length≤3000000):zaa_s c p=some (chP m c p):=by
 have h:=need_is hm p.need h3 p.need.length 0 (by omega)
 rw [List.drop_zero,show ((0:Nat):Int)=0 from rfl] at h
 unfold zaa_s chP
 rw [h,obS,(contains_is c.aud h2 p.aud).1]
 cases (p.need.all fun n=>decide (0≤m n)) with
 | false=>rfl
 | true =>
  rw [if_pos rfl,Sum.elim_inr,Bool.not_true,cnF]
  cases (p.hasIss && !(c.hasIss && decide (c.iss=p.iss))) with
  | true=>rfl
  | false =>
   rw [cnF,cnF]
   cases p.hasAud <;> cases c.hasAud <;> try rfl
   cases inB c.aud p.aud <;> rfl
theorem p_parse_ok {t:ByteArray} {l:List Eng.Node} {L:List Nat} (hs:t.size≤262144) (hr:readR t=.ok t.size l) (h7:(l.getD 0 (ET.dft .node)).kind=7) (hO:Obj l L) (hkd:∀n∈l,1≤n.kind∧n.kind≤7) (hL:L.length≤2000000) (hall:L.all (goodB l)=true):zad_s t=some (fullC l L,0):=by
 have hp:parseR t=(l,0,0):=by
  unfold parseR
  rw [if_neg (by omega),hr]
  rfl
 have hlt:=hO.ne
 have hlp:=claims_loop hO hkd hL L [] rfl
 have hlp':zad_p0 ((upN L).length:Int) 0 l ⟨#[]⟩ false ⟨#[]⟩ false false ⟨#[]⟩ false false 0 false 0 false 0 (upN L) [] []=some (if L.all (goodB l)=true then .inr (tupC (cOf l L)) else .inl (131,⟨#[]⟩,false,⟨#[]⟩,false,false,⟨#[]⟩,false,false,0,false,0,false,0,[],[])):=hlp
 unfold zad_s
 rw [p_Parse,obS,hp]
 dsimp only
 rw [deT rfl,Bool.not_true,cnF,qAb (by omega),qAb (by omega),qAb (by omega)]
 rw [show Int.toNat 0=0 from rfl,deT h7,Bool.not_true,cnF,hO.kids,obS,hlp',obS,if_pos hall]
 rfl
def awT:ByteArray:=⟨#[123,34,105,115,115,34,58,34,97,34,44,34,97,117,100,34,58,91,34,120,34,44,34,121,34,93,44,34,101,120,112,34,58,49,48,44,34,110,34,58,49,125]⟩
def awV:List Eng.Node:=[⟨7,⟨#[]⟩,⟨#[]⟩,false,0,4⟩,⟨5,nIss,⟨#[97]⟩,false,0,0⟩,⟨6,nAud,⟨#[]⟩,false,0,2⟩,⟨5,⟨#[]⟩,⟨#[120]⟩,false,0,0⟩,⟨5,⟨#[]⟩,⟨#[121]⟩,false,0,0⟩,⟨4,nExp,⟨#[49,48]⟩,true,10,0⟩,⟨4,⟨#[110]⟩,⟨#[49]⟩,true,1,0⟩]
def awC:qHc:=⟨awV,⟨#[97]⟩,true,⟨#[]⟩,false,[⟨#[120]⟩,⟨#[121]⟩],true,⟨#[]⟩,false,⟨true,10⟩,⟨false,0⟩,⟨false,0⟩⟩
theorem aw_read:readR awT=.ok awT.size awV:=by kernel_rfl
theorem aw_size:awT.size=42:=by decide
theorem aw_all {p:Eng.Node→Prop} (h:∀n,n=awV.getD 0 (ET.dft .node)∨n=awV.getD 1 (ET.dft .node)∨n=awV.getD 2 (ET.dft .node)∨n=awV.getD 3 (ET.dft .node)∨n=awV.getD 4 (ET.dft .node)∨n=awV.getD 5 (ET.dft .node)∨n=awV.getD 6 (ET.dft .node)→p n):∀n∈awV,p n:=fun n hn=>by
 refine h n ?_
 simp only [awV,List.mem_cons,List.not_mem_nil,or_false] at hn
 exact hn
theorem aw_kind:∀n∈awV,1≤n.kind∧n.kind≤7:=aw_all fun n hn=>by
 rcases hn with rfl | rfl | rfl | rfl | rfl | rfl | rfl <;> decide
theorem aw_ok:OkL awV:=⟨by decide,aw_all fun n hn=>by
 rcases hn with rfl | rfl | rfl | rfl | rfl | rfl | rfl <;> exact ⟨by decide,by decide,by unfold qAc; decide⟩⟩
theorem aw_tree:Tree awV 0 7:=readR_tree aw_read
theorem aw_leaf {a:Nat} {n:Eng.Node} (h:awV[a]?=some n) (h0:n.kids=0):Tree awV a (a+1):=Tree.mk h (by omega) (by
 rw [h0]
 exact Trees.nil _ (by have:=(List.getElem?_eq_some_iff.1 h).1; omega))
theorem aw_two:Trees awV 2 3 5:=Trees.app (aw_leaf (a:=3) rfl rfl) (aw_leaf (a:=4) rfl rfl)
theorem aw_aud:Tree awV 2 5:=Tree.mk (n:=⟨6,nAud,⟨#[]⟩,false,0,2⟩) rfl (by decide) aw_two
theorem aw_pl:qDk awV 4 1 [1,2,5,6] 7:=⟨2,[2,5,6],rfl,aw_leaf (a:=1) rfl rfl,5,[5,6],rfl,aw_aud,6,[6],rfl,aw_leaf (a:=5) rfl rfl,7,[],rfl,aw_leaf (a:=6) rfl rfl,rfl,rfl⟩
theorem aw_pl2:qDk awV 2 3 [3,4] 5:=⟨4,[4],rfl,aw_leaf (a:=3) rfl rfl,5,[],rfl,aw_leaf (a:=4) rfl rfl,rfl,rfl⟩
theorem aw_sub:subP awV 2=[3,4]:=by
 unfold subP
 rw [j_kids (a:=2) (nd:=⟨6,nAud,⟨#[]⟩,false,0,2⟩) aw_ok.1 rfl (by decide) aw_two aw_pl2]
 exact upN_back _
theorem aw_obj:Obj awV [1,2,5,6]:=by
 obtain ⟨L,hO⟩:=obj_read (by rw [aw_size]; decide) aw_read aw_ok aw_tree rfl fun d a b h=>oneS_tree aw_ok d true a b h
 obtain ⟨nd,h1,h2,h3⟩:=aw_tree.node
 obtain rfl:nd=⟨7,⟨#[]⟩,⟨#[]⟩,false,0,4⟩:=by cases h1; rfl
 have hk:=j_kids aw_ok.1 h1 h2 h3 aw_pl
 have hk':=hO.kids
 rw [show ((0:Nat):Int)=0 from rfl] at hk
 rw [hk] at hk'
 have e:=congrArg (List.map Int.toNat) (Option.some.inj hk')
 rw [upN_back,upN_back] at e
 rw [e]
 exact hO
theorem aw_good:[1,2,5,6].all (goodB awV)=true:=by
 have g2:goodB awV 2=true:=by
  show audB awV 2=true
  unfold audB
  rw [if_pos (show (awV.getD 2 (ET.dft .node)).kind=6 from rfl),aw_sub]
  rfl
 simp only [List.all_cons,List.all_nil,Bool.and_true,Bool.and_eq_true]
 exact ⟨rfl,g2,rfl,rfl⟩
theorem aw_full:fullC awV [1,2,5,6]=awC:=by
 have ha:audO awV (qAq awV nAud [1,2,5,6])=[⟨#[120]⟩,⟨#[121]⟩]:=by
  show audO awV (some 2)=_
  rw [audO_six (show (awV.getD 2 (ET.dft .node)).kind=6 from rfl),aw_sub]
  rfl
 unfold fullC cOf
 dsimp only
 rw [ha]
 rfl
theorem aw_parse:zad_s awT=some (awC,0):=by
 rw [p_parse_ok (by rw [aw_size]; decide) aw_read rfl aw_obj aw_kind (by decide) aw_good,aw_full]
theorem aw_okC:OkC awC:=⟨by unfold qAc; decide,by unfold qAc; decide,by unfold qAc; decide⟩
theorem awake_is:zbm_s=some true:=by
 have hm:∀n,zao_s awC.value 0 n=some (memI (qAq awV n [1,2,5,6])):=fun n=>(aw_obj.mem n).1
 have c1:=check_is (c:=awC) (p:=⟨[],⟨#[97]⟩,true,⟨#[121]⟩,true,⟨#[]⟩,false,0,[⟨#[110]⟩]⟩) hm (by decide) (by decide)
 have c2:=check_is (c:=awC) (p:=⟨[],⟨#[]⟩,false,⟨#[]⟩,false,⟨#[]⟩,false,0,[]⟩) hm (by decide) (by decide)
 have hin:inB awC.aud ⟨#[121]⟩=true:=(contains_is awC.aud (by decide) ⟨#[121]⟩).2.2 (List.mem_cons_of_mem _ List.mem_cons_self)
 have e1:chP (fun n=>memI (qAq awV n [1,2,5,6])) awC ⟨[],⟨#[97]⟩,true,⟨#[121]⟩,true,⟨#[]⟩,false,0,[⟨#[110]⟩]⟩=0:=by
  unfold chP
  rw [show inB awC.aud (⟨[],⟨#[97]⟩,true,⟨#[121]⟩,true,⟨#[]⟩,false,0,[⟨#[110]⟩]⟩:qH0).aud=true from hin]
  rfl
 have e2:chP (fun n=>memI (qAq awV n [1,2,5,6])) awC ⟨[],⟨#[]⟩,false,⟨#[]⟩,false,⟨#[]⟩,false,0,[]⟩=133:=rfl
 rw [e1] at c1
 rw [e2] at c2
 have k1:=clock_is aw_okC (L:=5) (now:=14) (by decide) (by unfold qAc; decide)
 have k2:=clock_is aw_okC (L:=5) (now:=15) (by decide) (by unfold qAc; decide)
 have z1:clP awC 5 14=0:=rfl
 have z2:clP awC 5 15=134:=rfl
 obtain ⟨w,o1,o2⟩:=open_is aw_okC (L:=5) (by decide)
 have hw:w.empty=false∧w.to_=14:=by
  rcases o2 with ⟨_,h⟩ | ⟨h1,h2,h3,h4,h5,_⟩
  ·exact (h 14 (by unfold qAc; decide) z1).elim
  ·have q1:=(h5 14 (by unfold qAc; decide)).1 z1
   have q2:¬(w.from_≤15∧15≤w.to_):=fun h=>by
    have:=(h5 15 (by unfold qAc; decide)).2 h
    rw [z2] at this
    cases this
   exact ⟨h1,by omega⟩
 unfold zbm_s
 rw [show (⟨#[123,34,105,115,115,34,58,34,97,34,44,34,97,117,100,34,58,91,34,120,34,44,34,121,34,93,44,34,101,120,112,34,58,49,48,44,34,110,34,58,49,125]⟩:ByteArray)=awT from rfl,aw_parse,obS]
 dsimp only
 rw [o1,obS]
 dsimp only
 rw [hw.1,hw.2,c1,c2,k1,k2,z1,z2]
 rfl
set_option maxRecDepth 100000
noncomputable section
def zbq_q:IQ:=(.seq (rg 6 [oP 4 (.mv (.v (.string ⟨#[]⟩))),oP 5 (.mv vF),oP 6 (.mv vF)]) (.seq (rg 7 [oM 8 t0,oM 9 t1,oP 10 (.call 21 [t8,(vI 0),t9]),oM 7 t10]) (.seq (.seq (rg 12 [oM 11 t7,oP 12 (.bi .lss t11 (vI 0))]) (.cond t12 (.seq (rg 6 [oP 4 (.mv (.v (.string ⟨#[]⟩))),oP 5 (.mv vF),oP 6 (.mv vT)]) (.cn [4,5,6] .ret)) .skip)) (.seq (.reg 6 (some [0,1,2,3,4,5,6,7,8,9,10,11,12,13]) [oM 13 t0,oM 14 t7,oP 15 (.iaddr 6 t13 t14),oP 16 (.faddr 2 t15),oP 17 (.load none t16),oM 18 t0,oM 19 t7,oP 20 (.iaddr 6 t18 t19),oP 21 (.faddr 0 t20),oP 22 (.load none t21),oP 23 (.bi .eql t22 (vI 5)),oM 4 t17,oP 5 (.mv vT),oM 6 t23]) (.cn [4,5,6] .ret)))))
theorem zbq_chk:chk Tryd.prog 27 []=some (zbq_q.erase,[.tmp 4,.tmp 5,.tmp 6],24):=by kernel_rfl
def zbq_s (v:(List Eng.Node)) (name:BA):Option (BA × Bool × Bool) :=
 (zao_s v (0:Int) name).bind fun r1 =>
 bif decide (r1<(0:Int)) then (
  some ((⟨#[]⟩:BA),false,true))
 else (
  gd (0≤r1∧r1<v.length) <|
  gd ((Int.toNat r1)<v.length) <|
  gd ((Int.toNat r1)<v.length) <|
  gd (0≤r1∧r1<v.length) <|
  gd ((Int.toNat r1)<v.length) <|
  gd ((Int.toNat r1)<v.length) <|
  some ((v.getD (Int.toNat r1) (ET.dft .node)).text,true,decide (((v.getD (Int.toNat r1) (ET.dft .node)).kind)=(5:Int))))
def zbq_G:Nat→Option CQ:=tblQ [(21,zao_w)]
theorem zbq_Gok:∀f C,zbq_G f=some C→qAg Tryd.prog f C:=qAl ⟨zao_ok,tV⟩
def zbq_L:Nat→SubQ:=tblL []
theorem zbq_subs:qAp zbq_L zbq_G 1 8 24 zbq_q:=qAm (show qAt zbq_L zbq_G 1 8 24 [] from tV)
def zbq_da:=(qAa (dVC (dCO (dO 0))) (qAa (dVC (dCO dS)) dNil))
def zbq_db:=(qAa (qAu .node) dNil)
def zbq_c:CS:=mkC zbq_da zbq_db (fun x y=>zbq_s y.1 x.2.1) (fun x y r=>.tup [.o (.vS r.1),.o (.vB r.2.1),.o (.vB r.2.2)]) fun x y r=>[.view .node y.1]
theorem zbq_val:qAn Tryd.prog 27 zbq_c:=qAo zbq_chk 8 zbq_Gok 1 (fun x=>Nat.le_of_ble_eq_true rfl) (fun y=>rfl) zbq_subs fun x y=>by
 simp only [zbq_s,-eq_self,qAe,qAh,obA,obS,slL,slR,qAd]
 kernel_rfl
def zbq_w:CQ:=qCa [(0,none,some (.node,46))] (qD7 [false] zbq_c)
theorem zbq_ok:qAg Tryd.prog 27 zbq_w:=qB7 zbq_val
def zbr_q:IQ:=(.seq (rg 5 [oP 4 (.alloc 49 [.bool false,.int .i64 0]),oP 5 (.mv vF)]) (.seq (rg 6 [oM 7 t0,oM 8 t1,oP 9 (.call 21 [t7,(vI 0),t8]),oM 6 t9]) (.seq (.seq (rg 11 [oM 10 t6,oP 11 (.bi .lss t10 (vI 0))]) (.cond t11 (.seq (rg 5 [oP 12 (.build [.bool false,.int .i64 0] []),oN (.store 2 t4 t12),oP 5 (.mv vT)]) (.cn [4,5] .ret)) .skip)) (.seq (.regT 5 (.one ⟨(some 13),.mv t0,none⟩ (.one ⟨(some 14),.mv t6,none⟩ (.one ⟨(some 15),.iaddr 6 t13 t14,none⟩ (.one ⟨(some 16),.faddr 4 t15,none⟩ (.one ⟨(some 17),.load none t16,none⟩ (.one ⟨(some 18),.build [.bool false,.int .i64 0] [(0,1,vT),(1,1,t17)],none⟩ (.one ⟨(some 19),.mv t0,none⟩ (.one ⟨(some 20),.mv t6,none⟩ (.one ⟨(some 21),.iaddr 6 t19 t20,none⟩ (.one ⟨(some 22),.faddr 0 t21,none⟩ (.one ⟨(some 23),.load none t22,none⟩ (.one ⟨(some 24),.bi .eql t23 (vI 4),none⟩ (.one ⟨(some 25),.mv t24,none⟩ (.one ⟨(some 26),.mv t0,some (25,true)⟩ (.one ⟨(some 27),.mv t6,some (25,true)⟩ (.one ⟨(some 28),.iaddr 6 t26 t27,some (25,true)⟩ (.one ⟨(some 29),.faddr 3 t28,some (25,true)⟩ (.alt ⟨(some 30),.load none t29,some (25,true)⟩ (.one ⟨(some 31),.pick t25 t30 vF,none⟩ (.one ⟨none,.store 2 t4 t18,none⟩ (.one ⟨(some 5),.mv t31,none⟩ .fin))) (.alt ⟨none,.store 2 t4 t18,none⟩ (.alt ⟨(some 30),.load none t29,some (25,true)⟩ (.one ⟨(some 31),.pick t25 t30 vF,none⟩ (.one ⟨(some 5),.mv t31,none⟩ .fin)) .stop) .stop)))))))))))))))))))) (.cn [4,5] .ret)))))
theorem zbr_chk:chk Tryd.prog 28 []=some (zbr_q.erase,[.cell 4 (some 2),.tmp 5],32):=by kernel_rfl
def zbr_s (v:(List Eng.Node)) (name:BA):Option (qHf × Bool) :=
 (zao_s v (0:Int) name).bind fun r1 =>
 bif decide (r1<(0:Int)) then (
  some ((⟨false,(0:Int)⟩:qHf),true))
 else (
  gd (0≤r1∧r1<v.length) <|
  gd ((Int.toNat r1)<v.length) <|
  gd ((Int.toNat r1)<v.length) <|
  gd (0≤r1∧r1<v.length) <|
  gd ((Int.toNat r1)<v.length) <|
  gd ((Int.toNat r1)<v.length) <|
  gd ((decide (((v.getD (Int.toNat r1) (ET.dft .node)).kind)=(4:Int)))=true→0≤r1∧r1<v.length) <|
  gd ((decide (((v.getD (Int.toNat r1) (ET.dft .node)).kind)=(4:Int)))=true→(Int.toNat r1)<v.length) <|
  gd ((decide (((v.getD (Int.toNat r1) (ET.dft .node)).kind)=(4:Int)))=true→(Int.toNat r1)<v.length) <|
  some ((⟨true,(v.getD (Int.toNat r1) (ET.dft .node)).int⟩:qHf),((decide (((v.getD (Int.toNat r1) (ET.dft .node)).kind)=(4:Int))) && ((v.getD (Int.toNat r1) (ET.dft .node)).whole))))
def zbr_G:Nat→Option CQ:=tblQ [(21,zao_w)]
theorem zbr_Gok:∀f C,zbr_G f=some C→qAg Tryd.prog f C:=qAl ⟨zao_ok,tV⟩
def zbr_L:Nat→SubQ:=tblL []
theorem zbr_subs:qAp zbr_L zbr_G 1 7 32 zbr_q:=qAm (show qAt zbr_L zbr_G 1 7 32 [] from tV)
theorem zbr_eq (v:(List Eng.Node)) (name:BA) (R:Type) (k:SV→List SB→Option R) :
  Le ((zbr_s v name).bind fun r=>k (.tup [.agg [.vB r.1.has,.vI r.1.at_],.o (.vB r.2)]) [.view .node v]) (fnQ zbr_L zbr_G 7 32 zbr_q [.cell 4 (some 2),.tmp 5] [.c (.o (.own 0)),.c (.o (.vS name))] [.view .node v] k):=by
 refine Le.trans (b :=
  (zao_s v (0:Int) name).bind fun r1 =>
  bif decide (r1<(0:Int)) then (
   (fun r=>k (.tup [.agg [.vB r.1.has,.vI r.1.at_],.o (.vB r.2)]) [.view .node v]) ((⟨false,(0:Int)⟩:qHf),true))
  else (
   gd (0≤r1∧r1<v.length) <|
   gd ((Int.toNat r1)<v.length) <|
   gd ((Int.toNat r1)<v.length) <|
   gd (0≤r1∧r1<v.length) <|
   gd ((Int.toNat r1)<v.length) <|
   gd ((Int.toNat r1)<v.length) <|
   gd ((decide (((v.getD (Int.toNat r1) (ET.dft .node)).kind)=(4:Int)))=true→0≤r1∧r1<v.length) <|
   gd ((decide (((v.getD (Int.toNat r1) (ET.dft .node)).kind)=(4:Int)))=true→(Int.toNat r1)<v.length) <|
   all2 (
    gd ((decide (((v.getD (Int.toNat r1) (ET.dft .node)).kind)=(4:Int)))=true→(Int.toNat r1)<v.length) <|
    (fun r=>k (.tup [.agg [.vB r.1.has,.vI r.1.at_],.o (.vB r.2)]) [.view .node v]) ((⟨true,(v.getD (Int.toNat r1) (ET.dft .node)).int⟩:qHf),((decide (((v.getD (Int.toNat r1) (ET.dft .node)).kind)=(4:Int))) && ((v.getD (Int.toNat r1) (ET.dft .node)).whole)))) (
    gd ((decide (((v.getD (Int.toNat r1) (ET.dft .node)).kind)=(4:Int)))=true→(Int.toNat r1)<v.length) <|
    (fun r=>k (.tup [.agg [.vB r.1.has,.vI r.1.at_],.o (.vB r.2)]) [.view .node v]) ((⟨true,(v.getD (Int.toNat r1) (ET.dft .node)).int⟩:qHf),((decide (((v.getD (Int.toNat r1) (ET.dft .node)).kind)=(4:Int))) && ((v.getD (Int.toNat r1) (ET.dft .node)).whole)))))) ?_ (Le.of_eq (by kernel_rfl))
 unfold zbr_s
 repeat' (first | exact Le.refl _ | refine Le.gdb ?_ | refine Le.condb ?_ ?_ | refine Le.all2b ?_ ?_ | refine Le.bindb (fun _=>?_) | refine Le.elimb (fun _=>?_) (fun _=>?_))
def zbr_da:=(qAa (dVC (dCO (dO 0))) (qAa (dVC (dCO dS)) dNil))
def zbr_db:=(qAa (qAu .node) dNil)
def zbr_c:CS:=fun args hp R k=>(Dec.d zbr_da args).bind fun x=>(Dec.d zbr_db hp).bind fun y=>(zbr_s y.1 x.2.1).bind fun r=>k (.tup [.agg [.vB r.1.has,.vI r.1.at_],.o (.vB r.2)]) [.view .node y.1]
theorem zbr_val:qAn Tryd.prog 28 zbr_c :=
 val_le zbr_chk 7 zbr_Gok zbr_da zbr_db 1 (fun x y R k=>(zbr_s y.1 x.2.1).bind fun r=>k (.tup [.agg [.vB r.1.has,.vI r.1.at_],.o (.vB r.2)]) [.view .node y.1]) (by kernel_rfl)
  (fun x y R k=>by simp only [Option.bind_assoc,obS]) (fun x=>Nat.le_of_ble_eq_true rfl) (fun y=>rfl) zbr_subs fun x y=>zbr_eq y.1 x.2.1 (SV × List SB) (fun v hp'=>some (v,hp'))
def zbr_w:CQ:=qCa [(0,none,some (.node,46))] (qD7 [false] zbr_c)
theorem zbr_ok:qAg Tryd.prog 28 zbr_w:=qB7 zbr_val
def zbl_b1:IQ:=(.loop [3,4,5,8,9,10,11,12,13,14,15,16,17,18,19,20,21,22,23,24,25,26,27,28] (.seq (.seq (rg 130 [oM 127 t28,oM 128 t27,oP 129 (.len t128),oP 130 (.bi .lss t127 t129)]) (.cond t130 .skip (.cn [3,4,5,8,9,10,11,12,13,14,15,16,17,18,19,20,21,22,23,24,25,26] (.exit 0)))) (.seq (.block 1 (.seq (rg 25 [oM 133 t25,oM 134 t133,oF 135 (.mv t5) 134,oF 136 (.mv t27) 134,oF 137 (.mv t28) 134,oF 138 (.iaddr 1 t136 t137) 134,oF 139 (.load none t138) 134,oF 140 (.iaddr 6 t135 t139) 134,oF 141 (.faddr 0 t140) 134,oF 142 (.load none t141) 134,oF 143 (.bi .eql t142 (vI 5)) 134,oP 144 (.pick t134 t143 vF),oM 25 t144]) (rg 24 [oM 145 t24,oM 146 t5,oM 147 t27,oM 148 t28,oP 149 (.iaddr 1 t147 t148),oP 150 (.load none t149),oP 151 (.iaddr 6 t146 t150),oP 152 (.faddr 2 t151),oP 153 (.load none t152),oP 154 (.bslice 9 1 1 [.string ⟨#[]⟩] [(0,t153)]),oP 155 (.append 9 1 16 [.string ⟨#[]⟩] t145 t154),oM 24 t155]))) (rg 28 [oM 131 t28,oP 132 (.bi .add t131 (vI 1)),oM 28 t132]))))
def zbl_b0:IQ:=(.seq (.seq (rg 181 [oM 156 t11,oP 157 (.un .not t156),oM 158 t157,oE 159 (.mv t14) 158,oE 160 (.un .not t159) 158,oP 161 (.pick t158 vT t160),oM 162 t161,oE 163 (.mv t17) 162,oE 164 (.un .not t163) 162,oP 165 (.pick t162 vT t164),oM 166 t165,oE 167 (.mv t19) 166,oE 168 (.un .not t167) 166,oP 169 (.pick t166 vT t168),oM 170 t169,oE 171 (.mv t21) 170,oE 172 (.un .not t171) 170,oP 173 (.pick t170 vT t172),oM 174 t173,oE 175 (.mv t23) 174,oE 176 (.un .not t175) 174,oP 177 (.pick t174 vT t176),oM 178 t177,oE 179 (.mv t25) 178,oE 180 (.un .not t179) 178,oP 181 (.pick t178 vT t180)]) (.cond t181 (.seq (rg 2 [oM 182 t4,oP 183 (.bi .eql t182 (vI 131)),oM 184 t183,oF 185 (.mv t8) 184,oP 186 (.pick t184 t185 vF),oM 2 t186]) (.cn [2] .ret)) .skip)) (.seq (.seq (rg 220 [oM 187 t4,oP 188 (.bi .neq t187 (vI 0)),oM 189 t188,oE 190 (.faddr 0 t3) 189,oE 191 (.load none t190) 189,oE 192 (.mv t5) 189,oE 193 (.call 30 [t191,t192]) 189,oE 194 (.un .not t193) 189,oP 195 (.pick t189 vT t194),oM 196 t195,oE 197 (.faddr 2 t3) 196,oE 198 (.load none t197) 196,oE 199 (.mv t10) 196,oE 200 (.beq true t198 t199) 196,oP 201 (.pick t196 vT t200),oM 202 t201,oE 203 (.faddr 4 t3) 202,oE 204 (.load none t203) 202,oE 205 (.mv t13) 202,oE 206 (.beq true t204 t205) 202,oP 207 (.pick t202 vT t206),oM 208 t207,oE 209 (.faddr 8 t3) 208,oE 210 (.load none t209) 208,oE 211 (.mv t16) 208,oE 212 (.beq true t210 t211) 208,oP 213 (.pick t208 vT t212),oM 214 t213,oE 215 (.faddr 6 t3) 214,oE 216 (.load none t215) 214,oE 217 (.mv t26) 214,oE 218 (.bi .geq t217 (vI 0)) 214,oE 219 (.beq true t216 t218) 214,oP 220 (.pick t214 vT t219)]) (.cond t220 (.seq (rg 2 [oP 2 (.mv vF)]) (.cn [2] .ret)) .skip)) (.seq (rg 2 [oP 221 (.faddr 1 t3),oP 222 (.load none t221),oM 223 t9,oP 224 (.bi .eql t222 t223),oM 225 t224,oF 226 (.faddr 3 t3) 225,oF 227 (.load none t226) 225,oF 228 (.mv t12) 225,oF 229 (.bi .eql t227 t228) 225,oP 230 (.pick t225 t229 vF),oM 231 t230,oF 232 (.faddr 7 t3) 231,oF 233 (.load none t232) 231,oF 234 (.mv t15) 231,oF 235 (.bi .eql t233 t234) 231,oP 236 (.pick t231 t235 vF),oM 237 t236,oF 238 (.faddr 9 t3) 237,oF 239 (.load (some 2) t238) 237,oF 240 (.load (some 2) t18) 237,oF 241 (.ext (.aggEq false [.bool,.int .i64]) [t239,t240]) 237,oP 242 (.pick t237 t241 vF),oM 243 t242,oF 244 (.faddr 11 t3) 243,oF 245 (.load (some 2) t244) 243,oF 246 (.load (some 2) t20) 243,oF 247 (.ext (.aggEq false [.bool,.int .i64]) [t245,t246]) 243,oP 248 (.pick t243 t247 vF),oM 249 t248,oF 250 (.faddr 13 t3) 249,oF 251 (.load (some 2) t250) 249,oF 252 (.load (some 2) t22) 249,oF 253 (.ext (.aggEq false [.bool,.int .i64]) [t251,t252]) 249,oP 254 (.pick t249 t253 vF),oM 255 t254,oF 256 (.faddr 5 t3) 255,oF 257 (.load none t256) 255,oF 258 (.mv t24) 255,oF 259 (.call 31 [t257,t258]) 255,oP 260 (.pick t255 t259 vF),oM 2 t260]) (.cn [2] .ret))))
def zbl_q:IQ:=(.seq (rg 2 [oP 2 (.mv vF)]) (.seq (.seq (rg 30 [oP 29 (.call 26 []),oP 30 (.un .not t29)]) (.cond t30 (.seq (rg 2 [oP 2 (.mv vF)]) (.cn [2] .ret)) .skip)) (.seq (rg 4 [oM 32 t0,oP 33 (.call 23 [t32]),oM 31 t33,oP 34 (.extract t31 0),oP 35 (.extract t31 1),oP 3 (.alloc 51 [.slice none 0 0,.string ⟨#[]⟩,.bool false,.string ⟨#[]⟩,.bool false,.slice none 0 0,.bool false,.string ⟨#[]⟩,.bool false,.bool false,.int .i64 0,.bool false,.int .i64 0,.bool false,.int .i64 0]),oN (.store 15 t3 t34),oM 4 t35]) (.seq (rg 7 [oM 37 t0,oP 38 (.call 20 [t37]),oM 36 t38,oP 39 (.extract t36 0),oP 40 (.extract t36 1),oP 41 (.extract t36 2),oM 5 t39,oM 6 t40,oM 7 t41]) (.seq (rg 8 [oP 42 (.load (some 15) t3),oP 43 (.build [.slice none 0 0,.string ⟨#[]⟩,.bool false,.string ⟨#[]⟩,.bool false,.slice none 0 0,.bool false,.string ⟨#[]⟩,.bool false,.bool false,.int .i64 0,.bool false,.int .i64 0,.bool false,.int .i64 0] []),oP 44 (.call 25 [t42,t43]),oM 8 t44]) (.seq (.seq (rg 46 [oM 45 t6,oP 46 (.bi .neq t45 (vI 0))]) (.cond t46 (.seq (rg 2 [oM 47 t4,oM 48 t6,oP 49 (.bi .eql t47 t48),oM 50 t49,oF 51 (.mv t8) 50,oP 52 (.pick t50 t51 vF),oM 2 t52]) (.cn [2] .ret)) .skip)) (.seq (.seq (rg 57 [oM 53 t5,oP 54 (.iaddr 6 t53 (vI 0)),oP 55 (.faddr 0 t54),oP 56 (.load none t55),oP 57 (.bi .neq t56 (vI 7))]) (.cond t57 (.seq (rg 2 [oM 58 t4,oP 59 (.bi .eql t58 (vI 130)),oM 60 t59,oF 61 (.mv t8) 60,oP 62 (.pick t60 t61 vF),oM 2 t62]) (.cn [2] .ret)) .skip)) (.seq (rg 11 [oM 64 t5,oP 65 (.call 27 [t64,(.v (.string ⟨#[105,115,115]⟩))]),oM 63 t65,oP 66 (.extract t63 0),oP 67 (.extract t63 1),oP 68 (.extract t63 2),oM 9 t66,oM 10 t67,oM 11 t68]) (.seq (rg 14 [oM 70 t5,oP 71 (.call 27 [t70,(.v (.string ⟨#[115,117,98]⟩))]),oM 69 t71,oP 72 (.extract t69 0),oP 73 (.extract t69 1),oP 74 (.extract t69 2),oM 12 t72,oM 13 t73,oM 14 t74]) (.seq (rg 17 [oM 76 t5,oP 77 (.call 27 [t76,(.v (.string ⟨#[106,116,105]⟩))]),oM 75 t77,oP 78 (.extract t75 0),oP 79 (.extract t75 1),oP 80 (.extract t75 2),oM 15 t78,oM 16 t79,oM 17 t80]) (.seq (rg 19 [oM 82 t5,oP 83 (.call 28 [t82,(.v (.string ⟨#[101,120,112]⟩))]),oM 81 t83,oP 84 (.extract t81 0),oP 85 (.extract t81 1),oP 18 (.alloc 49 [.bool false,.int .i64 0]),oN (.store 2 t18 t84),oM 19 t85]) (.seq (rg 21 [oM 87 t5,oP 88 (.call 28 [t87,(.v (.string ⟨#[110,98,102]⟩))]),oM 86 t88,oP 89 (.extract t86 0),oP 90 (.extract t86 1),oP 20 (.alloc 49 [.bool false,.int .i64 0]),oN (.store 2 t20 t89),oM 21 t90]) (.seq (rg 23 [oM 92 t5,oP 93 (.call 28 [t92,(.v (.string ⟨#[105,97,116]⟩))]),oM 91 t93,oP 94 (.extract t91 0),oP 95 (.extract t91 1),oP 22 (.alloc 49 [.bool false,.int .i64 0]),oN (.store 2 t22 t94),oM 23 t95]) (.seq (rg 24 [oP 24 (.mv (.v (.slice none 0 0)))]) (.seq (rg 25 [oP 25 (.mv vT)]) (.seq (rg 26 [oM 96 t5,oP 97 (.call 21 [t96,(vI 0),(.v (.string ⟨#[97,117,100]⟩))]),oM 26 t97]) (.seq (.seq (rg 107 [oM 98 t26,oP 99 (.bi .geq t98 (vI 0)),oM 100 t99,oF 101 (.mv t5) 100,oF 102 (.mv t26) 100,oF 103 (.iaddr 6 t101 t102) 100,oF 104 (.faddr 0 t103) 100,oF 105 (.load none t104) 100,oF 106 (.bi .eql t105 (vI 5)) 100,oP 107 (.pick t100 t106 vF)]) (.cond t107 (rg 24 [oM 108 t24,oM 109 t5,oM 110 t26,oP 111 (.iaddr 6 t109 t110),oP 112 (.faddr 2 t111),oP 113 (.load none t112),oP 114 (.bslice 9 1 1 [.string ⟨#[]⟩] [(0,t113)]),oP 115 (.append 9 1 16 [.string ⟨#[]⟩] t108 t114),oM 24 t115]) (.seq (rg 117 [oM 116 t26,oP 117 (.bi .geq t116 (vI 0))]) (.cond t117 (.seq (rg 25 [oM 118 t5,oM 119 t26,oP 120 (.iaddr 6 t118 t119),oP 121 (.faddr 0 t120),oP 122 (.load none t121),oP 123 (.bi .eql t122 (vI 6)),oM 25 t123]) (.seq (rg 27 [oM 124 t5,oM 125 t26,oP 126 (.call 29 [t124,t125]),oM 27 t126]) (.seq (rg 28 [oP 28 (.mv (vI 0))]) (.block 0 (.canon [(24,none,.str,9)] [3,4,5,8,9,10,11,12,13,14,15,16,17,18,19,20,21,22,23,24,25,26,27,28] (.sub 1 zbl_b1)))))) .skip)))) (.canon [(24,none,.str,9)] [3,4,5,8,9,10,11,12,13,14,15,16,17,18,19,20,21,22,23,24,25,26] (.sub 0 zbl_b0)))))))))))))))))))
theorem zbl_chk:chk Tryd.prog 9 []=some (zbl_q.erase,[.tmp 2],261):=by kernel_rfl
def zbl_p0 (e:Int) (none_:Bool) (iss:BA) (has1 ok1:Bool) (sub:BA) (has2 ok2:Bool) (jti:BA) (has3 ok3 ok4 ok5 ok6 ok7:Bool) (k_:Int) (qH7:BA) (qHu:Bool) (qH8:BA) (qHv qHw:Bool) (qH9:BA) (qHx qHr:Bool) (qHy:Int) (qHl:Bool) (qHo:Int) (qHm:Bool) (qHp:Int) (v:List Eng.Node) (qIc:Bool) (qIe:Int) (qIf:Bool) (qIh:Int) (qIg:Bool) (qIi:Int) (aud:List BA) (qH3:List Eng.Node) (qHq:List BA):Option Bool :=
 bif (((((((!ok1) || (!ok2)) || (!ok3)) || (!ok4)) || (!ok5)) || (!ok6)) || (!ok7)) then (
  some ((decide (e=(131:Int))) && none_))
 else (
  bif (!decide (e=(0:Int))) then (
   some false)
  else (
   (zbo_s qH3 v).bind fun r89 =>
   bif (((((!r89) || (!(qHu == has1))) || (!(qHv == has2))) || (!(qHx == has3))) || (!(qHw == (decide ((0:Int)≤k_))))) then (
    some false)
   else (
    bif ((((((decide (qH7=iss)) && (decide (qH8=sub))) && (decide (qH9=jti))) && ((qHr == qIc) && (decide (qHy=qIe) && true))) && ((qHl == qIf) && (decide (qHo=qIh) && true))) && ((qHm == qIg) && (decide (qHp=qIi) && true))) then (
     (zbp_s qHq aud).bind fun r90 =>
     some r90)
    else (
     some false))))
def qFi (ok7:Bool) (i:Int) (v:List Eng.Node) (aud:List BA) (l:List Int):Option ((Bool × Int × (List BA)) ⊕ (Bool × (List BA))) :=
 bif decide (i<(l.length:Int)) then (
  gd (ok7=true→0≤i∧i<l.length) <|
  gd (ok7=true→(Int.toNat i)<l.length) <|
  gd (ok7=true→0≤(l.getD (Int.toNat i) (ET.dft .i64))∧(l.getD (Int.toNat i) (ET.dft .i64))<v.length) <|
  gd (ok7=true→(Int.toNat (l.getD (Int.toNat i) (ET.dft .i64)))<v.length) <|
  gd (ok7=true→(Int.toNat (l.getD (Int.toNat i) (ET.dft .i64)))<v.length) <|
  gd (0≤i∧i<l.length) <|
  gd ((Int.toNat i)<l.length) <|
  gd (0≤(l.getD (Int.toNat i) (ET.dft .i64))∧(l.getD (Int.toNat i) (ET.dft .i64))<v.length) <|
  gd ((Int.toNat (l.getD (Int.toNat i) (ET.dft .i64)))<v.length) <|
  gd ((Int.toNat (l.getD (Int.toNat i) (ET.dft .i64)))<v.length) <|
  gd (aud.length+([(v.getD (Int.toNat (l.getD (Int.toNat i) (ET.dft .i64))) (ET.dft .node)).text]:List BA).length≤9223372036854775807∧(aud.length+([(v.getD (Int.toNat (l.getD (Int.toNat i) (ET.dft .i64))) (ET.dft .node)).text]:List BA).length)*16≤140737488355328) <|
  gd (qAc (i+(1:Int))) <|
  some (.inl ((ok7 && (decide (((v.getD (Int.toNat (l.getD (Int.toNat i) (ET.dft .i64))) (ET.dft .node)).kind)=(5:Int)))),(i+(1:Int)),(aud++[(v.getD (Int.toNat (l.getD (Int.toNat i) (ET.dft .i64))) (ET.dft .node)).text]))))
 else (
  some (.inr (ok7,aud)))
def zbl_p1 (ok7:Bool) (i:Int) (v:List Eng.Node) (aud:List BA) (l:List Int):Option (Bool × (List BA)) :=
 qBa (fun x:(Bool × Int × (List BA))=>qFi x.1 x.2.1 v x.2.2 l) (ok7,i,aud)
def zbl_s (payload:BA):Option Bool :=
 (zbm_s).bind fun r78 =>
 bif (!r78) then (
  some false)
 else (
  (zad_s payload).bind fun r79 =>
  (zap_s payload).bind fun r80 =>
  (zbn_s r79.1 (⟨[],(⟨#[]⟩:BA),false,(⟨#[]⟩:BA),false,[],false,(⟨#[]⟩:BA),false,(⟨false,(0:Int)⟩:qHf),(⟨false,(0:Int)⟩:qHf),(⟨false,(0:Int)⟩:qHf)⟩:qHc)).bind fun r81 =>
  bif (!decide (r80.2.1=(0:Int))) then (
   some ((decide (r79.2=r80.2.1)) && r81))
  else (
   gd (0≤(0:Int)∧(0:Int)<r80.1.length) <|
   gd ((Int.toNat (0:Int))<r80.1.length) <|
   gd ((Int.toNat (0:Int))<r80.1.length) <|
   bif (!decide (((r80.1.getD (Int.toNat (0:Int)) (ET.dft .node)).kind)=(7:Int))) then (
    some ((decide (r79.2=(130:Int))) && r81))
   else (
    (zbq_s r80.1 (⟨#[105,115,115]⟩:BA)).bind fun r82 =>
    (zbq_s r80.1 (⟨#[115,117,98]⟩:BA)).bind fun r83 =>
    (zbq_s r80.1 (⟨#[106,116,105]⟩:BA)).bind fun r84 =>
    (zbr_s r80.1 (⟨#[101,120,112]⟩:BA)).bind fun r85 =>
    (zbr_s r80.1 (⟨#[110,98,102]⟩:BA)).bind fun r86 =>
    (zbr_s r80.1 (⟨#[105,97,116]⟩:BA)).bind fun r87 =>
    (zao_s r80.1 (0:Int) (⟨#[97,117,100]⟩:BA)).bind fun r88 =>
    gd ((decide ((0:Int)≤r88))=true→0≤r88∧r88<r80.1.length) <|
    gd ((decide ((0:Int)≤r88))=true→(Int.toNat r88)<r80.1.length) <|
    gd ((decide ((0:Int)≤r88))=true→(Int.toNat r88)<r80.1.length) <|
    bif ((decide ((0:Int)≤r88)) && (decide (((r80.1.getD (Int.toNat r88) (ET.dft .node)).kind)=(5:Int)))) then (
     gd (0≤r88∧r88<r80.1.length) <|
     gd ((Int.toNat r88)<r80.1.length) <|
     gd ((Int.toNat r88)<r80.1.length) <|
     gd (([(r80.1.getD (Int.toNat r88) (ET.dft .node)).text]:List BA).length≤9223372036854775807∧([(r80.1.getD (Int.toNat r88) (ET.dft .node)).text]:List BA).length*16≤140737488355328) <|
     (zbl_p0 r79.2 r81 r82.1 r82.2.1 r82.2.2 r83.1 r83.2.1 r83.2.2 r84.1 r84.2.1 r84.2.2 r85.2 r86.2 r87.2 true r88 r79.1.iss r79.1.hasIss r79.1.sub r79.1.hasSub r79.1.hasAud r79.1.jti r79.1.hasJti r79.1.exp_.has r79.1.exp_.at_ r79.1.nbf.has r79.1.nbf.at_ r79.1.iat.has r79.1.iat.at_ r80.1 r85.1.has r85.1.at_ r86.1.has r86.1.at_ r87.1.has r87.1.at_ [(r80.1.getD (Int.toNat r88) (ET.dft .node)).text] r79.1.value r79.1.aud).bind fun o91 =>
     some o91)
    else (
     bif decide ((0:Int)≤r88) then (
      gd (0≤r88∧r88<r80.1.length) <|
      gd ((Int.toNat r88)<r80.1.length) <|
      gd ((Int.toNat r88)<r80.1.length) <|
      (zan_s r80.1 r88).bind fun r92 =>
      (zbl_p1 (decide (((r80.1.getD (Int.toNat r88) (ET.dft .node)).kind)=(6:Int))) (0:Int) r80.1 [] r92).bind fun o93 =>
      (zbl_p0 r79.2 r81 r82.1 r82.2.1 r82.2.2 r83.1 r83.2.1 r83.2.2 r84.1 r84.2.1 r84.2.2 r85.2 r86.2 r87.2 o93.1 r88 r79.1.iss r79.1.hasIss r79.1.sub r79.1.hasSub r79.1.hasAud r79.1.jti r79.1.hasJti r79.1.exp_.has r79.1.exp_.at_ r79.1.nbf.has r79.1.nbf.at_ r79.1.iat.has r79.1.iat.at_ r80.1 r85.1.has r85.1.at_ r86.1.has r86.1.at_ r87.1.has r87.1.at_ o93.2 r79.1.value r79.1.aud).bind fun o94 =>
      some o94)
     else (
      (zbl_p0 r79.2 r81 r82.1 r82.2.1 r82.2.2 r83.1 r83.2.1 r83.2.2 r84.1 r84.2.1 r84.2.2 r85.2 r86.2 r87.2 true r88 r79.1.iss r79.1.hasIss r79.1.sub r79.1.hasSub r79.1.hasAud r79.1.jti r79.1.hasJti r79.1.exp_.has r79.1.exp_.at_ r79.1.nbf.has r79.1.nbf.at_ r79.1.iat.has r79.1.iat.at_ r80.1 r85.1.has r85.1.at_ r86.1.has r86.1.at_ r87.1.has r87.1.at_ [] r79.1.value r79.1.aud).bind fun o95 =>
      some o95)))))
def zbl_G:Nat→Option CQ:=tblQ [(26,zbm_w),(23,zad_w),(20,zap_w),(25,zbn_w),(27,zbq_w),(28,zbr_w),(21,zao_w),(30,zbo_w),(31,zbp_w),(29,zan_w)]
theorem zbl_Gok:∀f C,zbl_G f=some C→qAg Tryd.prog f C:=qAl ⟨zbm_ok,zad_ok,zap_ok,zbn_ok,zbq_ok,zbr_ok,zao_ok,zbo_ok,zbp_ok,zan_ok,tV⟩
def zbl_d0:=(dQS (qAa (dSO 3 (dH 0 0)) (qAa (dSO 4 dZ) (qAa (dSO 5 (dO 1)) (qAa (dSO 8 dB) (qAa (dSO 9 dS) (qAa (dSO 10 dB) (qAa (dSO 11 dB) (qAa (dSO 12 dS) (qAa (dSO 13 dB) (qAa (dSO 14 dB) (qAa (dSO 15 dS) (qAa (dSO 16 dB) (qAa (dSO 17 dB) (qAa (dSO 18 (dH 2 0)) (qAa (dSO 19 dB) (qAa (dSO 20 (dH 3 0)) (qAa (dSO 21 dB) (qAa (dSO 22 (dH 4 0)) (qAa (dSO 23 dB) (qAa (dSO 24 (dO 5)) (qAa (dSO 25 dB) (qAa (dSO 26 dZ) dNil)))))))))))))))))))))) (qAa (qAs 51 (qAa (dO 6) (qAa dS (qAa dB (qAa dS (qAa dB (qAa (dO 7) (qAa dB (qAa dS (qAa dB (qAa dB (qAa dZ (qAa dB (qAa dZ (qAa dB (qAa dZ dNil)))))))))))))))) (qAa (dRow .node 46) (qAa (qAs 49 (qAa dB (qAa dZ dNil))) (qAa (qAs 49 (qAa dB (qAa dZ dNil))) (qAa (qAs 49 (qAa dB (qAa dZ dNil))) (qAa (dRow .str 9) (qAa (dRow .node 46) (qAa (dRow .str 9) dNil)))))))))
def zbl_l0:SubQ:=mkL zbl_d0 (fun x=>zbl_p0 x.1.2.1 x.1.2.2.2.1 x.1.2.2.2.2.1 x.1.2.2.2.2.2.1 x.1.2.2.2.2.2.2.1 x.1.2.2.2.2.2.2.2.1 x.1.2.2.2.2.2.2.2.2.1 x.1.2.2.2.2.2.2.2.2.2.1 x.1.2.2.2.2.2.2.2.2.2.2.1 x.1.2.2.2.2.2.2.2.2.2.2.2.1 x.1.2.2.2.2.2.2.2.2.2.2.2.2.1 x.1.2.2.2.2.2.2.2.2.2.2.2.2.2.2.1 x.1.2.2.2.2.2.2.2.2.2.2.2.2.2.2.2.2.1 x.1.2.2.2.2.2.2.2.2.2.2.2.2.2.2.2.2.2.2.1 x.1.2.2.2.2.2.2.2.2.2.2.2.2.2.2.2.2.2.2.2.2.1 x.1.2.2.2.2.2.2.2.2.2.2.2.2.2.2.2.2.2.2.2.2.2.1 x.2.1.2.1 x.2.1.2.2.1 x.2.1.2.2.2.1 x.2.1.2.2.2.2.1 x.2.1.2.2.2.2.2.2.1 x.2.1.2.2.2.2.2.2.2.1 x.2.1.2.2.2.2.2.2.2.2.1 x.2.1.2.2.2.2.2.2.2.2.2.1 x.2.1.2.2.2.2.2.2.2.2.2.2.1 x.2.1.2.2.2.2.2.2.2.2.2.2.2.1 x.2.1.2.2.2.2.2.2.2.2.2.2.2.2.1 x.2.1.2.2.2.2.2.2.2.2.2.2.2.2.2.1 x.2.1.2.2.2.2.2.2.2.2.2.2.2.2.2.2.1 x.2.2.1 x.2.2.2.1.1 x.2.2.2.1.2.1 x.2.2.2.2.1.1 x.2.2.2.2.1.2.1 x.2.2.2.2.2.1.1 x.2.2.2.2.2.1.2.1 x.2.2.2.2.2.2.1 x.2.2.2.2.2.2.2.1 x.2.2.2.2.2.2.2.2.1) fun x r R kn kx kr=>kr ⟨[sL 2 (.vB r)],[],[]⟩
def zbl_d1:=(dQS (qAa (dSO 3 (dH 0 0)) (qAa (dSO 4 dZ) (qAa (dSO 5 (dO 1)) (qAa (dSO 8 dB) (qAa (dSO 9 dS) (qAa (dSO 10 dB) (qAa (dSO 11 dB) (qAa (dSO 12 dS) (qAa (dSO 13 dB) (qAa (dSO 14 dB) (qAa (dSO 15 dS) (qAa (dSO 16 dB) (qAa (dSO 17 dB) (qAa (dSO 18 (dH 2 0)) (qAa (dSO 19 dB) (qAa (dSO 20 (dH 3 0)) (qAa (dSO 21 dB) (qAa (dSO 22 (dH 4 0)) (qAa (dSO 23 dB) (qAa (dSO 24 (dO 5)) (qAa (dSO 25 dB) (qAa (dSO 26 dZ) (qAa (dSO 27 (dO 6)) (qAa (dSO 28 dZ) dNil)))))))))))))))))))))))) (qAa (qAs 51 (qAa (dO 7) (qAa dS (qAa dB (qAa dS (qAa dB (qAa (dO 8) (qAa dB (qAa dS (qAa dB (qAa dB (qAa dZ (qAa dB (qAa dZ (qAa dB (qAa dZ dNil)))))))))))))))) (qAa (dRow .node 46) (qAa (qAs 49 (qAa dB (qAa dZ dNil))) (qAa (qAs 49 (qAa dB (qAa dZ dNil))) (qAa (qAs 49 (qAa dB (qAa dZ dNil))) (qAa (dRow .str 9) (qAa (dRow .i64 3) (qAa (dRow .node 46) (qAa (dRow .str 9) dNil))))))))))
def zbl_l1:SubQ:=mkL zbl_d1 (fun x=>zbl_p1 x.1.2.2.2.2.2.2.2.2.2.2.2.2.2.2.2.2.2.2.2.2.1 x.1.2.2.2.2.2.2.2.2.2.2.2.2.2.2.2.2.2.2.2.2.2.2.2.1 x.2.2.1 x.2.2.2.2.2.2.1 x.2.2.2.2.2.2.2.1) fun x r R kn kx kr=>kx 0 ⟨[sL 3 (.hd 0 0),sL 4 (.vI x.1.2.1),sL 5 (.own 1),sL 8 (.vB x.1.2.2.2.1),sL 9 (.vS x.1.2.2.2.2.1),sL 10 (.vB x.1.2.2.2.2.2.1),sL 11 (.vB x.1.2.2.2.2.2.2.1),sL 12 (.vS x.1.2.2.2.2.2.2.2.1),sL 13 (.vB x.1.2.2.2.2.2.2.2.2.1),sL 14 (.vB x.1.2.2.2.2.2.2.2.2.2.1),sL 15 (.vS x.1.2.2.2.2.2.2.2.2.2.2.1),sL 16 (.vB x.1.2.2.2.2.2.2.2.2.2.2.2.1),sL 17 (.vB x.1.2.2.2.2.2.2.2.2.2.2.2.2.1),sL 18 (.hd 2 0),sL 19 (.vB x.1.2.2.2.2.2.2.2.2.2.2.2.2.2.2.1),sL 20 (.hd 3 0),sL 21 (.vB x.1.2.2.2.2.2.2.2.2.2.2.2.2.2.2.2.2.1),sL 22 (.hd 4 0),sL 23 (.vB x.1.2.2.2.2.2.2.2.2.2.2.2.2.2.2.2.2.2.2.1),sL 24 (.own 5),sL 25 (.vB r.1),sL 26 (.vI x.1.2.2.2.2.2.2.2.2.2.2.2.2.2.2.2.2.2.2.2.2.2.1)],[],[.cells 51 [.own 6,.vS x.2.1.2.1,.vB x.2.1.2.2.1,.vS x.2.1.2.2.2.1,.vB x.2.1.2.2.2.2.1,.own 7,.vB x.2.1.2.2.2.2.2.2.1,.vS x.2.1.2.2.2.2.2.2.2.1,.vB x.2.1.2.2.2.2.2.2.2.2.1,.vB x.2.1.2.2.2.2.2.2.2.2.2.1,.vI x.2.1.2.2.2.2.2.2.2.2.2.2.1,.vB x.2.1.2.2.2.2.2.2.2.2.2.2.2.1,.vI x.2.1.2.2.2.2.2.2.2.2.2.2.2.2.1,.vB x.2.1.2.2.2.2.2.2.2.2.2.2.2.2.2.1,.vI x.2.1.2.2.2.2.2.2.2.2.2.2.2.2.2.2.1],.row .node 46 x.2.2.1,.cells 49 [.vB x.2.2.2.1.1,.vI x.2.2.2.1.2.1],.cells 49 [.vB x.2.2.2.2.1.1,.vI x.2.2.2.2.1.2.1],.cells 49 [.vB x.2.2.2.2.2.1.1,.vI x.2.2.2.2.2.1.2.1],.row .str 9 r.2,.row .node 46 x.2.2.2.2.2.2.2.2.1,.row .str 9 x.2.2.2.2.2.2.2.2.2.1]⟩
def zbl_L:Nat→SubQ:=tblL [(0,zbl_l0),(1,zbl_l1)]
theorem zbl_sub0:qCf zbl_L zbl_G 0 29 261 0 zbl_b0:=qAy (show zbl_L 0=zbl_l0 from by kernel_rfl) fun x R kn kx kr=>by
 simp only [zbl_p0,-eq_self,qAe,qAh,obA,obS,slL,slR,qAd]
 kernel_rfl
theorem zbl_sub1:qCf zbl_L zbl_G 0 29 261 1 zbl_b1:=qAy (show zbl_L 1=zbl_l1 from by kernel_rfl) fun x R kn kx kr=>qAw (step:=fun y=>qFi y.1 y.2.1 x.2.2.1 y.2.2 x.2.2.2.2.2.2.2.1) (enc:=fun (y:Bool × Int × (List BA))=>zbl_d1.e ((x.1.1,x.1.2.1,x.1.2.2.1,x.1.2.2.2.1,x.1.2.2.2.2.1,x.1.2.2.2.2.2.1,x.1.2.2.2.2.2.2.1,x.1.2.2.2.2.2.2.2.1,x.1.2.2.2.2.2.2.2.2.1,x.1.2.2.2.2.2.2.2.2.2.1,x.1.2.2.2.2.2.2.2.2.2.2.1,x.1.2.2.2.2.2.2.2.2.2.2.2.1,x.1.2.2.2.2.2.2.2.2.2.2.2.2.1,x.1.2.2.2.2.2.2.2.2.2.2.2.2.2.1,x.1.2.2.2.2.2.2.2.2.2.2.2.2.2.2.1,x.1.2.2.2.2.2.2.2.2.2.2.2.2.2.2.2.1,x.1.2.2.2.2.2.2.2.2.2.2.2.2.2.2.2.2.1,x.1.2.2.2.2.2.2.2.2.2.2.2.2.2.2.2.2.2.1,x.1.2.2.2.2.2.2.2.2.2.2.2.2.2.2.2.2.2.2.1,x.1.2.2.2.2.2.2.2.2.2.2.2.2.2.2.2.2.2.2.2.1,y.1,x.1.2.2.2.2.2.2.2.2.2.2.2.2.2.2.2.2.2.2.2.2.2.1,x.1.2.2.2.2.2.2.2.2.2.2.2.2.2.2.2.2.2.2.2.2.2.2.1,y.2.1,x.1.2.2.2.2.2.2.2.2.2.2.2.2.2.2.2.2.2.2.2.2.2.2.2.2),(x.2.1,x.2.2.1,x.2.2.2.1,x.2.2.2.2.1,x.2.2.2.2.2.1,y.2.2,x.2.2.2.2.2.2.2))) (fun y=>by kernel_rfl) (fun y ki=>by simp only [qFi,-eq_self,qAe,qAh,obA,obS,slL,slR,qAd]; kernel_rfl) (x.1.2.2.2.2.2.2.2.2.2.2.2.2.2.2.2.2.2.2.2.2.1,x.1.2.2.2.2.2.2.2.2.2.2.2.2.2.2.2.2.2.2.2.2.2.2.2.1,x.2.2.2.2.2.2.1)
theorem zbl_subs:qAp zbl_L zbl_G 0 29 261 zbl_q:=qAm (show qAt zbl_L zbl_G 0 29 261 [(1,zbl_b1),(0,zbl_b0)] from ⟨zbl_sub1,zbl_sub0,tV⟩)
def zbl_da:=(qAa (dVC (dCO dS)) dNil)
def zbl_db:=(dNil:Dec Unit (List SB))
def zbl_c:CS:=mkC zbl_da zbl_db (fun x y=>zbl_s x.1) (fun x y r=>.c (.o (.vB r))) fun x y r=>[]
theorem zbl_val:qAn Tryd.prog 9 zbl_c:=qAo zbl_chk 29 zbl_Gok 0 (fun x=>Nat.le_of_ble_eq_true rfl) (fun y=>rfl) zbl_subs fun x y=>by
 simp only [zbl_s,-eq_self,qAe,qAh,obA,obS,slL,slR,qAd]
 kernel_rfl
end
end Go.Proofs.YticplgndjpljiaaDoor
