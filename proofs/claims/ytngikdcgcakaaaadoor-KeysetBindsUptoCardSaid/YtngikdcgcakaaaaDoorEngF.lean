import Derived.Deep.LoopGhost
import Derived.OrdersHeld
import Derived.Test.YtngikdcgcakaaaaDoorEngAr
set_option linter.unusedSimpArgs false
set_option linter.unusedVariables false
namespace Go.Eng
section
variable {E:Env} {Z:Nat->Value} {S:St} {a:Act} {o:Oper} {act:Prop}
theorem qB6{P:Program}{t:Nat}(h:qDf P t=true):∃e,P.underlying t=some (.slice e)/\P.underlying e=some (.int .u8):=by
 unfold qDf at h;split at h
 ·rename_i e he;split at h
  ·rename_i h2;exact⟨e,he,h2⟩
  ·cases h
 ·cases h
theorem args_len:∀ {xs:List Operand} {ys:List Arg},args xs=some ys->xs.length=ys.length
 | [],ys,h=>by simp only[args,snJ] at h;subst h;rfl
 | x::r,ys,h=>by
  simp only[args] at h;split at h
  ·rename_i h1 h2;simp only[snJ] at h;subst h;simp[args_len h2]
  ·cases h
theorem qDe{S:St}{act:Prop}:∀ {ys:List Arg} {p:Prop} {l:List SV},argsE S act ys=some (p,l)->l.length=ys.length
 | [],p,l,h=>by simp only[argsE,snJ,Prod.mk.injEq] at h;obtain⟨_,rfl⟩:=h;rfl
 | x::r,p,l,h=>by
  simp only[argsE] at h;split at h
  ·rename_i h1 h2;simp only[snJ,Prod.mk.injEq] at h;obtain⟨_,rfl⟩:=h;simp[qDe h2]
  ·cases h
theorem ext_noEsc_len{hp:List SB}{l:List SV}(h:l.length≠1):extQ hp .noEsc l=.no:=by
 unfold extQ;split <;> first | rfl | simp_all
theorem ext_f32_len{hp:List SB}{l:List SV}(h:l.length≠1):extQ hp .f32bits l=.no:=by
 unfold extQ;split <;> first | rfl | simp_all
theorem ext_cmp_len{hp:List SB}{l:List SV}(h:l.length≠2):extQ hp .cmpStr l=.no:=by
 unfold extQ;split <;> first | rfl | simp_all
theorem ext_idx_len{hp:List SB}{l:List SV}(h:l.length≠2):extQ hp .idxByte l=.no:=by
 unfold extQ;split <;> first | rfl | simp_all
theorem len_two{U:Type}{l:List U}(h:l.length=2):∃x y,l=[x,y]:=by
 match l,h with
 | [x,y],_=>exact⟨x,y,rfl⟩
theorem ext1(hs:qCv Z S a)(hact:act){J:Nat->Option Con}{x:Operand}{y:Arg}{X:Ext}(hx:arg x=some y)(H:∀v:SV,a.eval x=v.den Z->v.lt S.hp.length->OpOK E Z S a o (extQ S.hp X [v]).toR):OpOK E Z S a o (runP J S act (.ext X [y])):=by
 simp only[runP];split
 ·rename_i p l h1;refine qA0 hact λhp=>?_
  obtain⟨e1,e2⟩:=qA4 hs hact (xs:=[x]) (by simp[args,hx]) h1 hp;obtain⟨v,rfl⟩:=List.length_eq_one_iff.1 (qDe h1);simp only[List.map_cons,List.map_nil,List.cons.injEq,and_true] at e1;exact H v e1 (e2 v (by simp))
 ·trivial
theorem ext2(hs:qCv Z S a)(hact:act){J:Nat->Option Con}{x x2:Operand}{y y2:Arg}{X:Ext}(hx:arg x=some y)(hx2:arg x2=some y2)(H:∀v v2:SV,a.eval x=v.den Z->a.eval x2=v2.den Z->v.lt S.hp.length->v2.lt S.hp.length->OpOK E Z S a o (extQ S.hp X [v,v2]).toR):OpOK E Z S a o (runP J S act (.ext X [y,y2])):=by
 simp only[runP];split
 ·rename_i p l h1;refine qA0 hact λhp=>?_
  obtain⟨e1,e2⟩:=qA4 hs hact (xs:=[x,x2]) (by simp[args,hx,hx2]) h1 hp;obtain⟨v,v2,rfl⟩:=len_two (qDe h1);simp only[List.map_cons,List.map_nil,List.cons.injEq,and_true] at e1;exact H v v2 e1.1 e1.2 (e2 v (by simp)) (e2 v2 (by simp))
 ·trivial
theorem ext0{J:Nat->Option Con}{X:Ext}(H:OpOK E Z S a o (extQ S.hp X []).toR)(hact:act):OpOK E Z S a o (runP J S act (.ext X [])):=by
 simp only[runP,argsE];exact qA0 hact λ_=>H
theorem len_three{U:Type}{l:List U}(h:l.length=3):∃x y z,l=[x,y,z]:=by
 match l,h with
 | [x,y,z],_=>exact⟨x,y,z,rfl⟩
theorem ext3(hs:qCv Z S a)(hact:act){J:Nat->Option Con}{x x2 x3:Operand}{y y2 y3:Arg}{X:Ext}(hx:arg x=some y)(hx2:arg x2=some y2)(hx3:arg x3=some y3)
  (H:∀v v2 v3:SV,a.eval x=v.den Z->a.eval x2=v2.den Z->a.eval x3=v3.den Z->OpOK E Z S a o (extQ S.hp X [v,v2,v3]).toR):OpOK E Z S a o (runP J S act (.ext X [y,y2,y3])):=by
 simp only[runP];split
 ·rename_i p l h1;refine qA0 hact λhp=>?_
  obtain⟨e1,e2⟩:=qA4 hs hact (xs:=[x,x2,x3]) (by simp[args,hx,hx2,hx3]) h1 hp;obtain⟨v,v2,v3,rfl⟩:=len_three (qDe h1);simp only[List.map_cons,List.map_nil,List.cons.injEq,and_true] at e1;exact H v v2 v3 e1.1 e1.2.1 e1.2.2
 ·trivial
theorem arg_const{x:Operand}{v:Value}(h:arg x=some (.v v))(hv:∀f,v≠.func (.func f) #[] #[]:=by intro f h;cases h)(hg:∀g,v≠.pointer (some ⟨g,0,none⟩):=by intro g h;cases h):x=.const v:=by
 cases x <;> simp[arg] at h
 ·rw[h]
 ·exact(hg _ h.symm).elim
 ·exact(hv _ h.symm).elim
theorem oarg_none{x:Option Operand}(h:oarg x=some none):x=none:=by
 cases x with
 | none=>rfl
 | some y=>cases hy:arg y <;> simp[oarg,hy] at h
theorem one_spec{P:Program}{t e:Nat}(h:oneElem P t=true)(ht:P.underlying t=some (.slice e)):(P.info? e).map (·.size)=some 1:=by
 unfold oneElem at h;rw[ht] at h;simpa using h
theorem callPr_V{P:Program}{c:Call}{x:Arg}{l:List Arg}(h:callPr P c=some (.callV x l)):∃t,c.callee=.value (.tmp t)/\x=.t t/\args c.args.toList=some l:=by
 obtain⟨callee,cargs,ctypes⟩:=c;simp only[callPr] at h;split at h
 case h_2 t =>
  simp only[Option.map_eq_some_iff,Pr.callV.injEq] at h;obtain⟨ys,h1,rfl,rfl⟩:=h;exact⟨t,rfl,rfl,h1⟩
 all_goals (repeat' split at h) <;> simp[Option.map_eq_some_iff] at h
theorem prim_sound(hw0:∀i<S.hp.length,qBs (Z i))(hw1:∀(h:Nat) (sb:SB),S.hp[h]?=some sb->sb.lt S.hp.length)(hs:qCv Z S a)(hact:act){raw:Bool}{pr:Pr}(h:prim E.P raw o.op=some pr)
  {J:Nat->Option Con} (hJ:∀f C,J f=some C->Valid E.P f C):OpOK E Z S a o (runP J S act pr):=by
 cases ho:o.op <;> rw[ho] at h <;> simp only[prim,reduceCtorEq] at h
 case move x =>
  cases hx:arg x <;> rw[hx] at h <;> simp only[Option.map_none,Option.map_some,reduceCtorEq,snJ] at h
  subst h;exact mv_ok hs hact hx (.inl ho)
 case assign x =>
  cases hx:arg x <;> rw[hx] at h <;> simp only[Option.map_none,Option.map_some,reduceCtorEq,snJ] at h
  subst h;exact mv_ok hs hact hx (.inr ho)
 case pick c x y =>
  split at h
  ·rename_i c' x' y' h1 h2 h3;cases h;exact pick_ok hs hact h1 h2 h3 ho
  ·cases h
 case binOp op t x y ty =>
  split at h
  ·rename_i x' y' h1 h2;split at h
   ·rename_i hu;cases h;simp only[runP];split
    ·rename_i p u q v h3 h4;refine qA0 hact λhp=>?_
     exact beq_ok false t ty x y u v hu (qAc hs hact h1 h3 hp.1).1 (qAc hs hact h2 h4 hp.2).1 ho
    ·trivial
   ·rename_i hu;cases h;simp only[runP];split
    ·rename_i p u q v h3 h4;refine qA0 hact λhp=>?_
     exact beq_ok true t ty x y u v hu (qAc hs hact h1 h3 hp.1).1 (qAc hs hact h2 h4 hp.2).1 ho
    ·trivial
   ·rename_i k' e' hu;split at h
    ·cases h;have hy:=arg_const h2;exact ext1 hs hact h1 λv e1 _=>mnil_ok (neg:=false) hu e1 (by rw[hy];rfl) ho
    ·cases h
   ·rename_i k' e' hu;split at h
    ·cases h;have hy:=arg_const h2;exact ext1 hs hact h1 λv e1 _=>mnil_ok (neg:=true) hu e1 (by rw[hy];rfl) ho
    ·cases h
   ·rename_i e' hu;split at h
    ·cases h;have hy:=arg_const h2;exact ext1 hs hact h1 λv e1 _=>snil_ok (neg:=false) hu e1 (by rw[hy];rfl) ho
    ·cases h
   ·rename_i e' hu;split at h
    ·cases h;have hy:=arg_const h2;exact ext1 hs hact h1 λv e1 _=>snil_ok (neg:=true) hu e1 (by rw[hy];rfl) ho
    ·cases h
   ·rename_i e hu;split at h
    ·rename_i hi;cases h;obtain⟨j,hj⟩:=Option.isSome_iff_exists.1 hi;exact ext2 hs hact h1 h2 λv v2 e1 e2 l1 l2=>ptrEq_ok (neg:=false) hu hj e1 e2 l1 l2 ho
    ·cases h
   ·rename_i e hu;split at h
    ·rename_i hi;cases h;obtain⟨j,hj⟩:=Option.isSome_iff_exists.1 hi;exact ext2 hs hact h1 h2 λv v2 e1 e2 l1 l2=>ptrEq_ok (neg:=true) hu hj e1 e2 l1 l2 ho
    ·cases h
   ·rename_i fs hu;cases hst:structEq E.P t fs with
    | none=>rw[hst] at h;cases h
    | some ks =>
     rw[hst] at h;cases h;exact ext2 hs hact h1 h2 λv v2 e1 e2 l1 l2=>aggEq_ok (neg:=false) hu hst e1 e2 ho
   ·rename_i fs hu;cases hst:structEq E.P t fs with
    | none=>rw[hst] at h;cases h
    | some ks =>
     rw[hst] at h;cases h;exact ext2 hs hact h1 h2 λv v2 e1 e2 l1 l2=>aggEq_ok (neg:=true) hu hst e1 e2 ho
   ·cases h;simp only[runP];split
    ·rename_i p u q v h3 h4;refine qA0 hact λhp=>?_
     exact bin_ok raw _ t ty x y u v (qAc hs hact h1 h3 hp.1).1 (qAc hs hact h2 h4 hp.2).1 ho
    ·trivial
  ·cases h
 case unOp op t x =>
  cases hx:arg x <;> rw[hx] at h <;> simp only[Option.map_none,Option.map_some,reduceCtorEq,snJ] at h
  subst h;simp only[runP];split
  ·rename_i p u h3;exact qA0 hact λhp=>un_ok op t x u (qAc hs hact hx h3 hp).1 ho
  ·trivial
 case convert s d x =>
  split at h
  ·rename_i k1 k2 x' h1 h2 h3;cases h;simp only[runP];split
   ·rename_i p k3 n h4;exact qA0 hact λhp=>conv_ok raw h1 h2 (qAc hs hact h3 h4 hp).1 ho
   ·trivial
  ·rename_i x' h1 h2 h3;cases h;exact strc_ok hs hact h1 h2 h3 ho
  ·rename_i e' x' h1 h2 h3;split at h
   ·rename_i hb;cases h;obtain⟨e,hs1,hs2⟩:=qB6 hb;rw[hs1] at h2;cases h2;exact ext1 hs hact h3 λv e1 _=>toBytes_ok h1 hs1 hs2 e1 ho
   ·cases h
  ·rename_i e' x' h1 h2 h3;split at h
   ·rename_i hb;cases h;obtain⟨e,hs1,hs2⟩:=qB6 hb;exact ext1 hs hact h3 λv e1 _=>toStr_ok hs1 hs2 h2 e1 ho
   ·cases h
  ·rename_i e1' e2' x' h1 h2 h3;split at h
   ·rename_i hb;cases h;simp only[Bool.and_eq_true,beq_iff_eq] at hb;obtain⟨hb,rfl⟩:=hb;obtain⟨e,hs1,hs2⟩:=qB6 hb;exact ext1 hs hact h3 λv e1 _=>fro_ok hs1 hs2 e1 ho
   ·cases h
  ·rename_i t x' h1 h2 h3;split at h
   ·rename_i i hi;split at h
    ·rename_i hz;cases h;exact ext1 hs hact h3 λv e1 l1=>toUns_ok h1 h2 hi hz e1 l1 ho
    ·cases h
   ·cases h
  ·rename_i u x' h1 h2 h3;split at h
   ·rename_i i hi;split at h
    ·rename_i hz;cases h;exact ext1 hs hact h3 λv e1 l1=>fromUns_ok h1 h2 hi hz e1 l1 ho
    ·cases h
   ·cases h
  ·cases h
 case nilCheck x =>
  cases hx:arg x <;> rw[hx] at h <;> simp only[Option.map_none,Option.map_some,reduceCtorEq,snJ] at h
  subst h;exact ext1 hs hact hx λv e1 l1=>nilck_ok e1 l1 ho
 case makeMap t r =>
  split at h
  ·split at h
   ·cases h;exact ext0 (mkmap_ok ho) hact
   ·cases h
  ·cases h
 case lookup t x i ok =>
  split at h
  ·rename_i x' i' h1 h2;split at h
   ·rename_i hn;cases h;exact ext2 hs hact h1 h2 λv v2 e1 e2 _ _=>mget_ok hn e1 e2 ho
   ·cases h
  ·cases h
 case mapUpdate t m k v =>
  split at h
  ·rename_i m' k' v' h1 h2 h3;split at h
   ·rename_i hn;cases h;exact ext3 hs hact h1 h2 h3 λv v2 v3 e1 e2 e3=>mput_ok hn e1 e2 e3 ho
   ·cases h
  ·cases h
 case makeSlice t l c =>
  split at h
  ·rename_i e l' c' h1 h2 h3;split at h
   ·rename_i i z h4 h5;split at h
    ·rename_i hc;cases h;simp only[Bool.and_eq_true,beq_iff_eq,decide_eq_true_eq] at hc;exact ext2 hs hact h2 h3 λv v2 e1 e2 _ _=>mkslice_ok h1 h4 h5 hc.1 hc.2 rfl e1 e2 ho
    ·cases h
   ·cases h
  ·cases h
 case alloc e =>
  cases hz:qBj E.P e <;> rw[hz] at h <;> simp only[Option.map_none,Option.map_some,reduceCtorEq,snJ] at h
  subst h;exact alloc_ok hz ho
 case box e x =>
  split at h
  ·rename_i i x' h1 h2;cases h;exact box_ok hw0 hs hact h2 ho
  ·cases h
 case build t ps =>
  split at h
  ·rename_i fs z h1 h2;split at h
   ·rename_i hall;cases hp:places E.P fs.toList ps.toList <;> rw[hp] at h <;> simp only[Option.map_none,Option.map_some,reduceCtorEq,snJ] at h
    subst h;exact build_ok hw0 hs hact h1 h2 hp hall ho
   ·cases h
  ·rename_i n e z h1 h2;split at h
   ·rename_i i h3;cases hp:placesA i.size ps.toList <;> rw[hp] at h <;> simp only[Option.map_none,Option.map_some,reduceCtorEq,snJ] at h
    subst h;exact buildA_ok hw0 hs hact h1 h2 h3 hp ho
   ·cases h
  ·cases h
 case buildSlice t n ps =>
  split at h
  ·rename_i e h1;split at h
   ·rename_i i z rs h2 h3 h4;split at h
    ·rename_i hc;cases h;simp only[Bool.and_eq_true,beq_iff_eq,decide_eq_true_eq] at hc;exact bslice_ok hw0 hs hact h1 h2 h3 h4 hc.1.1 hc.1.2 hc.2 ho
    ·split at h
     ·rename_i hc;cases h;simp only[Bool.and_eq_true,beq_iff_eq,List.isEmpty_iff] at hc;obtain⟨⟨⟨_,rfl⟩,rfl⟩,hfl⟩:=hc;exact bslice0_ok h1 h2 h4 hfl ho
     ·cases h
   ·cases h
  ·cases h
 case load t x =>
  split at h
  ·rename_i x0 g;split at h
   ·rename_i h1;cases h;simp only[runP,argsE];exact qA0 hact λhp=>tab_ok h1 ho
   ·rename_i n h1;cases h;simp only[runP,argE];exact qA0 hact λhp=>load_ok hw1 h1 rfl ho
   ·cases h
  ·split at h
   ·rename_i n x' h1 h2;cases h;simp only[runP];split
    ·rename_i p s h3;refine qA0 hact λhp=>load_ok hw1 h1 (qAc hs hact h2 h3 hp).1 ho
    ·trivial
   ·cases h
 case store t x y =>
  split at h
  ·rename_i i x' y' h1 h2 h3;cases h;simp only[runP];split
   ·rename_i p d q v h4 h5;split
    ·rename_i l hl;refine qA0 hact λhp=>?_
     obtain⟨e1,_⟩:=qAc hs hact h2 h4 hp.1;obtain⟨e2,e3⟩:=qAc hs hact h3 h5 hp.2;obtain⟨e4,e5⟩:=SV.cells_den hw0 hl e3;exact store_ok hw0 hw1 h1 e1 rfl (by rw[e2];exact e4) e5 ho
    ·trivial
   ·trivial
  ·cases h
 case fieldAddr t x f =>
  split at h
  ·rename_i fs x' h1 h2;split at h
   ·rename_i fd h3;split at h
    ·rename_i ti h4;split at h
     ·cases h
     ·rename_i hne;cases h;simp only[runP];split
      ·rename_i p s h5;refine qA0 hact λhp=>?_
       obtain⟨e1,e2⟩:=qAc hs hact h2 h5 hp;exact faddr_ok h1 h3 h4 hne e1 e2 ho
      ·trivial
    ·cases h
   ·cases h
  ·cases h
 case field t x f =>
  split at h
  ·rename_i fs x' h1 h2;split at h
   ·rename_i fd h3;cases hn:qB4 E.P fd.type <;> rw[hn] at h <;> simp only[Option.map_none,Option.map_some,reduceCtorEq,snJ] at h
    subst h;simp only[runP];split
    ·rename_i p l h5;exact field_ok h1 h3 hn (λhp=>(qAc hs hact h2 h5 hp).1) (λhp=>(qAc hs hact h2 h5 hp).2) ho
    ·trivial
   ·cases h
  ·cases h
 case indexAddr t x y =>
  split at h
  ·rename_i e x' y' h1 h2 h3;split at h
   ·rename_i ti h4;cases h;simp only[runP];split
    ·rename_i p s q k i h5 h6;refine qA0 hact λhp=>?_
     obtain⟨e1,e2⟩:=qAc hs hact h2 h5 hp.1;exact iaddr_ok h1 h4 e1 e2 (qAc hs hact h3 h6 hp.2).1 ho
    ·trivial
   ·cases h
  ·rename_i n e x' k h1 h2 h3;split at h
   ·rename_i ti h4;split at h
    ·rename_i hk;cases h;simp only[runP];split
     ·rename_i p s h5;refine qA0 hact λhp=>?_
      obtain⟨e1,e2⟩:=qAc hs hact h2 h5 hp;have e3:a.eval y=.int .i64 k:=by
       cases y with
       | const u=>simp only[arg,snJ,Arg.v.injEq] at h3;rw[h3];rfl
       | func f=>simp[arg] at h3
       | global g=>simp[arg] at h3
       | _=>simp only[arg,reduceCtorEq,snJ] at h3
      exact faddrA_ok h1 h4 hk.2 e3 e1 e2 ho
     ·trivial
    ·cases h
   ·cases h
  ·rename_i n e x' j h1 h2 h3;split at h
   ·rename_i ti h4;cases h;simp only[runP];split
    ·rename_i p vs h6;refine qA0 hact λhp=>?_
     have hxs:args [x,y]=some [x',.t j]:=by simp only[args,h2,h3]
     obtain⟨e1,e2'⟩:=qA4 hs hact hxs h6 hp;have hl:=qDe h6;match vs,hl with
     | [v,u],_ =>
      simp only[List.map_cons,List.map_nil,List.cons.injEq,and_true] at e1;exact pidx_ok h1 h4 e1.1 (e2' v (by simp)) e1.2 ho
    ·trivial
   ·cases h
  ·cases h
 case index t x y =>
  split at h
  ·rename_i x' y' h1 h2 h3;cases h;simp only[runP];split
   ·rename_i p s q k i h5 h6;exact index_ok h1 (λhp=>⟨(qAc hs hact h2 h5 hp.1.1).1,(qAc hs hact h3 h6 hp.1.2).1,hp.2 hact⟩) ho
   ·trivial
  ·rename_i n e x' y' h1 h2 h3;split at h
   ·rename_i ti n2 e2 h4 h5;split at h
    ·cases h;simp only[runP];split
     ·rename_i p vs h6;refine qA0 hact λhp=>?_
      have hxs:args [x,y]=some [x',y']:=by simp only[args,h2,h3]
      obtain⟨e1,e2'⟩:=qA4 hs hact hxs h6 hp;have hl:=qDe h6;match vs,hl with
      | [v,u],_ =>
       simp only[List.map_cons,List.map_nil,List.cons.injEq,and_true] at e1;exact aidx_ok h1 h4 h5 e1.1 e1.2 ho
     ·trivial
    ·cases h
   ·rename_i ti k0 h4 h5;split at h
    ·rename_i hsz;cases h;exact ext2 hs hact h2 h3 λv u e1 e2 _ _=>aix_ok h1 h4 h5 hsz e1 e2 ho
    ·cases h
   ·cases h
  ·cases h
 case slice t x lo hi mx =>
  cases mx with
  | some mx =>
  simp only at h;split at h
  ·rename_i e x' lo' hi' mx' h1 h2 h3 h4 h5;split at h
   ·rename_i ti h0;cases h;simp only[runP];split
    ·rename_i p vs h6;refine qA0 hact λhp=>?_
     cases hi with
     | none=>simp[oarg] at h4
     | some hi =>
      simp only[oarg,Option.map_eq_some_iff,snJ] at h4;obtain⟨z,h4,rfl⟩:=h4;simp only[argsE] at h6;split at h6
      ·rename_i p1 v1 q1 l1 g1 g2;split at g2
       ·rename_i p2 v2 q2 l2 g3 g4;split at g4
        ·rename_i p3 v3 q3 l3 g5 g6;split at g6
         ·rename_i p4 v4 q4 l4 g7 g8;cases g8;cases g6;cases g4;cases g2;cases h6;exact sub3_ok h1 h0 (qAc hs hact h2 g1 hp.1).1 (oargE hs hact h3 g3 hp.2.1) (qAc hs hact h4 g5 hp.2.2.1).1 (qAc hs hact h5 g7 hp.2.2.2.1).1 ho
         ·cases g6
        ·cases g4
       ·cases g2
      ·cases h6
    ·trivial
   ·cases h
  ·cases h
  | none =>
  simp only at h;split at h
  ·rename_i x' lo' hi' h1 h2 h3 h4;cases h;simp only[runP];split
   ·rename_i p s h5;split
    ·rename_i q l r hh h6 h7;exact sub_str_ok hs hact h1 (λhp=>(qAc hs hact h2 h5 hp).1) h3 h4 h6 h7 ho
    ·trivial
   ·trivial
  ·rename_i e x' lo' hi' h1 h2 h3 h4;split at h
   ·rename_i ti h0;cases h;simp only[runP];split
    ·rename_i p s h5;split
     ·rename_i n hn;split
      ·rename_i q l r hh h6 h7;exact sub_ok hs hact h1 h0 (λhp=>(qAc hs hact h2 h5 hp).1) hn (loB_spec h3) h4 h6 h7 ho
      ·trivial
     ·trivial
    ·trivial
   ·cases h
  ·rename_i n e x' h1 h2 h3 h4;split at h
   ·rename_i ti h0;cases h;simp only[runP];split
    ·rename_i p vs h6;refine qA0 hact λhp=>?_
     have hxs:args [x]=some [x']:=by simp only[args,h2]
     obtain⟨e1,e2'⟩:=qA4 hs hact hxs h6 hp;have hl:=qDe h6;match vs,hl with
     | [v],_ =>
      simp only[List.map_cons,List.map_nil,List.cons.injEq,and_true] at e1;have q1:=oarg_none h3;have q2:=oarg_none h4;subst q1 q2;exact asl_ok h1 h0 e1 (e2' v (by simp)) ho
    ·trivial
   ·cases h
  ·rename_i n e x' lo' hi' _ h1 h2 h3 h4;split at h
   ·rename_i ti h0;split at h
    ·rename_i hsz;cases h;simp only[runP];split
     ·rename_i p vs h6;refine qA0 hact λhp=>?_
      simp only[argsE] at h6;split at h6
      ·rename_i p1 v1 q1 l1 g1 g2;split at g2
       ·rename_i p2 v2 q2 l2 g3 g4;split at g4
        ·rename_i p3 v3 q3 l3 g5 g6;cases g6;cases g4;cases g2;cases h6;obtain⟨e1,e2⟩:=qAc hs hact h2 g1 hp.1;exact asub_ok h1 h0 hsz e1 e2 (oargE hs hact h3 g3 hp.2.1) (oargE hs hact h4 g5 hp.2.2.1) ho
        ·cases g4
       ·cases g2
      ·cases h6
     ·trivial
    ·cases h
   ·cases h
  ·cases h
 case makeFunc fn first captured =>
  split at h
  ·rename_i f l h1;cases h;simp only[runP];split
   ·rename_i p vs h6;refine qA0 hact λhp=>?_
    obtain⟨e1,e2'⟩:=qA4 hs hact h1 h6 hp;exact mkfn_ok e1 e2' ho
   ·trivial
  ·cases h
 case makeInterface t x =>
  split at h
  ·rename_i fs hu;cases hx:arg x <;> rw[hx] at h <;> simp only[Option.map_none,Option.map_some,reduceCtorEq,snJ] at h
   subst h;exact ext1 hs hact hx λv e1 _=>mkif_ok hu e1 ho
  ·cases h
 case panic x =>
  cases hx:arg x <;> rw[hx] at h <;> simp only[Option.map_none,Option.map_some,reduceCtorEq,snJ] at h
  subst h;trivial
 case extract x i =>
  cases hx:arg x <;> rw[hx] at h <;> simp only[Option.map_none,Option.map_some,reduceCtorEq,snJ] at h
  subst h;exact extract_ok hs hact hx ho
 case call c =>
  obtain⟨p0,h0,he⟩:=Option.map_eq_some_iff.1 h;subst he;by_cases hV:∃x l,p0=.callV x l
  ·obtain⟨x,l,rfl⟩:=hV;obtain⟨t,hce,rfl,hl⟩:=callPr_V h0;cases raw
   ·trivial
   ·exact callW_ok hs hact hw1 hce hl ho hJ
  rw[runP_raw _ _ _ _ _ _ (λx l h=>hV ⟨x,l,h⟩)];replace h:=h0;clear h0;obtain⟨callee,cargs,ctypes⟩:=c;simp only[callPr] at h;split at h
  ·rename_i f;split at h
   ·rename_i fn hf;split at h
    ·rename_i hbody;split at h;rename_i hc;have hc:fn.body.isSome=true/\¬fn.name = "runtime.NumGoroutine" := ⟨hbody,by simpa using hc⟩
     cases hxs:args cargs.toList <;> rw[hxs] at h <;> simp only[Option.map_none,Option.map_some,reduceCtorEq,snJ] at h
     subst h;exact call_ok hs hact hf hc.1 hc.2 rfl hxs ho hJ
     ·cases h
    ·rename_i hbody;split at h
     ·rename_i horg;have ho2:fn.origin=fn.name\/fn.origin = "" := by simpa using horg
      have hb:fn.body=none:=by simpa using hbody
      split at h
      ·rename_i X l hX hl;cases h;have hlen:=args_len hl;simp only[runP];split
       ·rename_i p vs h1;refine qA0 hact λhp=>?_
        obtain⟨e1,e2⟩:=qA4 hs hact hl h1 hp;have hlen2:=qDe h1;unfold externExt at hX;split at hX
        ·rename_i hn;have hn':fn.name = "internal/abi.NoEscape" := by simpa using hn
         cases hX;by_cases hvl:vs.length=1
         ·obtain⟨v,rfl⟩:=List.length_eq_one_iff.1 hvl;obtain⟨x,hca⟩:=List.length_eq_one_iff.1 (show cargs.toList.length=1 by omega);rw[hca] at e1;simp only[List.map_cons,List.map_nil,List.cons.injEq,and_true] at e1;exact noEsc_ok hf hb hn' ho2 rfl hca e1 (e2 v (by simp)) ho
         ·rw[ext_noEsc_len hvl];trivial
        ·split at hX
         ·rename_i hn;have hn':fn.name = "internal/bytealg.abigen_runtime_cmpstring" := by simpa using hn
          cases hX;by_cases hvl:vs.length=2
          ·obtain⟨v,u,rfl⟩:=len_two hvl;obtain⟨x,y,hca⟩:=len_two (show cargs.toList.length=2 by omega);rw[hca] at e1;simp only[List.map_cons,List.map_nil,List.cons.injEq,and_true] at e1;exact cmpStr_ok hf hb hn' ho2 rfl hca e1.1 e1.2 ho
          ·rw[ext_cmp_len hvl];trivial
         ·split at hX
          ·rename_i hn;have hn':fn.name = "internal/bytealg.IndexByteString" := by simpa using hn
           cases hX;by_cases hvl:vs.length=2
           ·obtain⟨v,u,rfl⟩:=len_two hvl;obtain⟨x,y,hca⟩:=len_two (show cargs.toList.length=2 by omega);rw[hca] at e1;simp only[List.map_cons,List.map_nil,List.cons.injEq,and_true] at e1;exact idxByte_ok hf hb hn' ho2 rfl hca e1.1 e1.2 ho
           ·rw[ext_idx_len hvl];trivial
          ·split at hX
           ·rename_i hn;have hn':fn.name = "math.Float32bits" := by simpa using hn
            cases hX;by_cases hvl:vs.length=1
            ·obtain⟨v,rfl⟩:=List.length_eq_one_iff.1 hvl;obtain⟨x,hca⟩:=List.length_eq_one_iff.1 (show cargs.toList.length=1 by omega);rw[hca] at e1;simp only[List.map_cons,List.map_nil,List.cons.injEq,and_true] at e1;exact f32bits_ok hf hb hn' ho2 rfl hca e1 ho
            ·rw[ext_f32_len hvl];trivial
           ·cases hX
       ·trivial
      ·cases h
     ·cases h
   ·cases h
  ·simp only[Option.map_eq_some_iff] at h;obtain⟨_,_,rfl⟩:=h;trivial
  ·split at h
   ·rename_i x t h1 h2;have hca:cargs = #[x]:=by apply Array.toList_inj.1;rw[h1]
    have hct:ctypes = #[t]:=by apply Array.toList_inj.1;rw[h2]
    subst hca hct;split at h
    ·rename_i hb;cases hx:arg x <;> rw[hx] at h <;> simp only[Option.map_none,Option.map_some,reduceCtorEq,snJ] at h
     subst h;obtain⟨e,hs1,hs2⟩:=qB6 hb;exact ext1 hs hact hx λv e1 l1=>sdata_ok hs1 rfl rfl e1 l1 ho
    ·cases h
   ·cases h
  ·split at h
   ·rename_i x y t t' h1 h2;have hca:cargs = #[x,y]:=by apply Array.toList_inj.1;rw[h1]
    have hct:ctypes = #[t,t']:=by apply Array.toList_inj.1;rw[h2]
    subst hca hct;split at h
    ·rename_i e hu;split at h
     ·rename_i hb;split at h
      ·rename_i x' y' h3 h4;cases h;exact ext2 hs hact h3 h4 λv v2 e1 e2 _ _=>ustr_ok hu (by simpa using hb) rfl rfl rfl e1 e2 ho
      ·cases h
     ·cases h
    ·cases h
   ·cases h
  ·split at h
   ·rename_i x t h1 h2;have hca:cargs = #[x]:=by apply Array.toList_inj.1;rw[h1]
    have hct:ctypes = #[t]:=by apply Array.toList_inj.1;rw[h2]
    subst hca hct;split at h
    ·rename_i hu;cases hx:arg x <;> rw[hx] at h <;> simp only[Option.map_none,Option.map_some,reduceCtorEq,snJ] at h
     subst h;exact lenS_ok hs hact hu hx ho
    ·rename_i e hu;cases hx:arg x <;> rw[hx] at h <;> simp only[Option.map_none,Option.map_some,reduceCtorEq,snJ] at h
     subst h;exact len_ok hs hact hu hx ho
    ·cases h
   ·cases h
  ·split at h
   ·rename_i x y t t' h1 h2;have hca:cargs = #[x,y]:=by apply Array.toList_inj.1;rw[h1]
    have hct:ctypes = #[t,t']:=by apply Array.toList_inj.1;rw[h2]
    subst hca hct;split at h
    ·rename_i hb;split at h
     ·rename_i x' y' h3 h4;cases h;simp only[Bool.and_eq_true] at hb;obtain⟨e,hs1,hs2⟩:=qB6 hb.1.1;exact ext2 hs hact h3 h4 λv u e1 e2 _ _=>copyA_ok hs1 (one_spec hb.1.2 hs1) rfl rfl rfl e1 e2 ho
     ·cases h
    ·cases h
   ·cases h
  ·split at h
   ·rename_i x y h1;have hca:cargs = #[x,y]:=by apply Array.toList_inj.1;rw[h1]
    subst hca;split at h
    ·rename_i x' y' h2 h3;cases h;simp only[runP];split
     ·rename_i p u q v h4 h5;refine qA0 hact λhp=>?_
      exact mm_ok false u v rfl rfl (qAc hs hact h2 h4 hp.1).1 (qAc hs hact h3 h5 hp.2).1 ho
     ·trivial
    ·cases h
   ·cases h
  ·split at h
   ·rename_i x y h1;have hca:cargs = #[x,y]:=by apply Array.toList_inj.1;rw[h1]
    subst hca;split at h
    ·rename_i x' y' h2 h3;cases h;simp only[runP];split
     ·rename_i p u q v h4 h5;refine qA0 hact λhp=>?_
      exact mm_ok true u v rfl rfl (qAc hs hact h2 h4 hp.1).1 (qAc hs hact h3 h5 hp.2).1 ho
     ·trivial
    ·cases h
   ·cases h
  ·split at h
   ·rename_i s x t t' h1 h2;have hca:cargs = #[s,x]:=by apply Array.toList_inj.1;rw[h1]
    have hct:ctypes = #[t,t']:=by apply Array.toList_inj.1;rw[h2]
    subst hca hct;split at h
    ·rename_i htt;have htt':t=t':=by simpa using htt
     subst htt';split at h
     ·rename_i e hu;split at h
      ·rename_i i z s' x' h3 h4 h5 h6;split at h
       ·rename_i hc;cases h;simp only[Bool.and_eq_true,beq_iff_eq,decide_eq_true_eq] at hc;simp only[runP];split
        ·rename_i p sv q xv h7 h8;refine qA0 hact λhp=>?_
         exact append_ok hw0 hu h3 h4 hc.1 rfl (qAc hs hact h5 h7 hp.1).1 (qAc hs hact h6 h8 hp.2).1 ho
        ·trivial
       ·cases h
      ·cases h
     ·cases h
    ·split at h
     ·rename_i e s' x' hu hu2 h3 h4;split at h
      ·rename_i hb;cases h;exact ext2 hs hact h3 h4 λv v2 e1 e2 _ _=>appStr_ok hu hu2 hb e1 e2 ho
      ·cases h
     ·cases h
   ·cases h
  ·cases h
end
theorem put_get{a:Act}{d:Nat}{v:Value}{i:Nat}(hd:d<a.tmps.size):(a.put (some d) v).tmps[i]?=if d=i then some v else a.tmps[i]?:=by
 simp only[Act.put];by_cases h:d=i
 ·subst h;simp[hd]
 ·simp[h,Array.getElem?_setIfInBounds_ne h]
theorem put_size(a:Act)(d:Option Nat)(v:Value):(a.put d v).tmps.size=a.tmps.size:=by cases d <;> simp[Act.put]
theorem put_defers(a:Act)(d:Option Nat)(v:Value):(a.put d v).defers=a.defers:=by cases d <;> rfl
section
variable {E:Env} {J:Nat->Option Con} {raws:List Nat} {nv:Nat}
theorem Sat.next{Z Z':Nat->Value}{S:St}{a:Act}{w w':World}(h:Sat E Z S a w){act:Prop}{d:Option Nat}{v:SV}{u:Value}{hp:List SB}(hd:qD8 E.nt d)(hag:∀i<S.hp.length,Z' i=Z i)(hlen:S.hp.length<=hp.length)
  (hc:Cls E Z' hp w') (hv1:act->u=v.den Z') (hv2:¬act->u=undef) (hlt:act->v.lt hp.length):Sat E Z' (putD nv S d act v hp) (a.put d u) w':=by
 have hhp:(putD nv S d act v hp).hp=hp:=by cases d <;> rfl
 refine⟨by rw[put_defers];exact h.nd,by rw[put_size];exact h.sz,?_,by rw[hhp];exact hc.1,hc.2,by rw[hhp];exact Nat.le_trans h.n0 hlen,λi hi=>(hag i (Nat.lt_of_lt_of_le hi h.n0)).trans (h.ag i hi)⟩;intro i c x hx;rw[hhp];have old:∀c x,getE S.sl i=some (c,x)->(c->a.tmps[i]?=some (x.den Z'))/\(¬c->a.tmps[i]?=some undef)/\(c->x.lt hp.length):=λc x hx=>by
  obtain⟨h1,h2,h3⟩:=h.sl i c x hx;exact⟨λhc=>by rw[h1 hc,SV.den_congr hag (h3 hc)],h2,λhc=>SV.lt_mono hlen (h3 hc)⟩
 cases d with
 | none=>exact old c x hx
 | some d =>
  simp only[putD,getE_putE] at hx;have hd':d<a.tmps.size:=by rw[h.sz];exact hd
  rw[put_get hd'];by_cases hdi:d=i
  ·rw[if_pos hdi] at hx ⊢;simp only[snJ,Prod.mk.injEq] at hx;obtain⟨rfl,rfl⟩:=hx;exact⟨λhc=>by rw[hv1 hc],λhc=>by rw[hv2 hc],hlt⟩
  ·rw[if_neg hdi] at hx ⊢;exact old c x hx
theorem qE6{S:St}{Z:Nat->Value}{a:Act}{w:World}(h:Sat E Z S a w){P:Program}{ops:Array Oper}{o:Oper}{io:IOp}(hc:oper P raws ops o=some io){act:Prop}(ha:actOf S io.g=some act) :
  (Region.wanted o (yielded ops a.tmps)=true↔act)/\io.d=o.dst:=by
 unfold oper at hc;split at hc
 ·rename_i hg;cases hc;simp only[actOf,snJ] at ha;subst ha;simp[Region.wanted,hg]
 ·rename_i j b hg;split at hc
  ·rename_i q hq;split at hc
   ·rename_i s hs;cases hc;simp only[actOf] at ha;split at ha
    ·rename_i c x hx;simp only[snJ] at ha;subst ha;obtain⟨h1,h2,_⟩:=h.sl s c _ hx;refine⟨?_,rfl⟩;simp only[Region.wanted,hg,yielded,hq,obS,hs];by_cases hcc:c
     ·rw[h1 hcc];simp[SV.den,SC.den,S0.den,hcc]
     ·rw[h2 hcc];simp[undef,hcc]
    ·cases ha
   ·cases hc
  ·cases hc
theorem oper_prim{P:Program}{ops:Array Oper}{o:Oper}{io:IOp}(h1:oper P raws ops o=some io):∃raw,io.p=qE2 P raw o.op:=by
 unfold oper at h1;split at h1
 ·cases h1;exact⟨_,rfl⟩
 ·split at h1
  ·split at h1
   ·cases h1;exact⟨_,rfl⟩
   ·cases h1
  ·cases h1
section
variable {E:Env} {Z:Nat->Value} {S:St} {a:Act} {o:Oper} {act:Prop}
theorem any_of_run{p:Prop}{k:FloatKind}(h:p->∀w,∃b w',(execOp a.eval o).run E.P w=.ok (.value (.float k b)) w'/\(w'=w\/w'=w.drew)):OpOK E Z S a o (.any p k):=by
 intro hp w hw K Q hK;obtain⟨b,w',h1,h2⟩:=h hp w;unfold Oper.wp;rw[h1];refine hK b w' ?_;rcases h2 with rfl | rfl
 ·exact hw
 ·exact hw.drew
theorem qEv{P:Program}(w:World)(q:Question):∃n w',(choose q).run P w=.ok n w'/\(w'=w\/w'=w.drew):=by
 by_cases h:q.forced=true
 ·exact⟨0,w,by simp[h],.inl rfl⟩
 ·exact⟨_,w.drew,by simp[h];rfl,.inr rfl⟩
theorem run_arith_any{P:Program}(w:World){op:BinOp}(h:arithB op=true)(k:FloatKind)(x y:Nat):∃b w',(Op.floatArith op k x y).run P w=.ok (.float k b) w'/\(w'=w\/w'=w.drew):=by
 obtain⟨n,w',h1,h2⟩:=qEv (P:=P) w (.nanBits k x y);cases op <;> simp only[arithB,Bool.false_eq_true] at h
 all_goals
  simp only[Op.floatArith,pure_bind];split
  ·exact⟨_,_,rfl,.inl rfl⟩
  ·exact⟨n,w',by simp[h1],h2⟩
theorem run_f2f_any{P:Program}(w:World)(s k:FloatKind)(x:Nat):∃b w',(Conv.floatToFloat s x k).run P w=.ok (.float k b) w'/\(w'=w\/w'=w.drew):=by
 unfold Conv.floatToFloat;split
 ·exact⟨_,_,rfl,.inl rfl⟩
 ·split
  ·obtain⟨n,w',h1,h2⟩:=qEv (P:=P) w (.nanConv k x);exact⟨n,w',by simp[h1],h2⟩
  ·exact⟨_,_,rfl,.inl rfl⟩
  ·dsimp only;split
   ·obtain⟨n,w',h1,h2⟩:=qEv (P:=P) w (.floatToFloat x);exact⟨n,w',by simp[h1],h2⟩
   ·exact⟨_,_,rfl,.inl rfl⟩
theorem floP_sound(hs:qCv Z S a)(hact:act){pr:Pr}(h:floP E.P o.op=some pr){J:Nat->Option Con}:OpOK E Z S a o (runP J S act pr):=by
 unfold floP at h;split at h
 ·rename_i op t x y ty ho;split at h
  ·rename_i x' y' k hx hy hk;cases hb:arithB op with
   | false=>rw[hb] at h;cases h
   | true =>
    rw[hb] at h;simp only[cnT,snJ] at h;subst h;simp only[runP,hb,Bool.and_true];split
    ·rename_i p k1 b1 q k2 b2 h1 h2;by_cases e1:k1=k
     ·by_cases e2:k2=k
      ·subst e1 e2;simp only[decide_true,Bool.and_true,cnT];refine any_of_run λhp w=>?_
       obtain⟨a1,_⟩:=qAc hs hact hx h1 hp.1;obtain⟨a2,_⟩:=qAc hs hact hy h2 hp.2;obtain⟨b,w',r1,r2⟩:=run_arith_any (P:=E.P) w hb k2 b1 b2;refine⟨b,w',?_,r2⟩;unfold execOp;simp only[ho,a1,a2,SV.den,SC.den,S0.den];cases op <;> simp only[arithB,Bool.false_eq_true] at hb <;> simp[eqGuard,binOp,r1]
      ·simp only[e2,decide_false,Bool.and_false,cnF];trivial
     ·simp only[e1,decide_false,Bool.false_and,cnF];trivial
    ·trivial
  ·cases h
 ·rename_i src dst x ho;split at h
  ·rename_i x' q k hx hs' hd;simp only[snJ] at h;subst h;simp only[runP];split
   ·rename_i p q' n h1;refine any_of_run λhp w=>?_
    obtain⟨a1,_⟩:=qAc hs hact hx h1 hp;refine⟨k.nearest n,w,?_,.inl rfl⟩;unfold execOp;simp[ho,a1,SV.den,SC.den,S0.den,convert,run_underlying hs',run_underlying hd,Conv.intToFloat]
   ·trivial
  ·rename_i x' s k hx hs' hd;simp only[snJ] at h;subst h;simp only[runP];split
   ·rename_i p k1 b1 h1;by_cases e1:k1=s
    ·subst e1;simp only[decide_true,cnT];refine any_of_run λhp w=>?_
     obtain⟨a1,_⟩:=qAc hs hact hx h1 hp;obtain⟨b,w',r1,r2⟩:=run_f2f_any (P:=E.P) w k1 k b1;refine⟨b,w',?_,r2⟩;unfold execOp;simp[ho,a1,SV.den,SC.den,S0.den,convert,run_underlying hs',run_underlying hd,r1]
    ·simp only[e1,decide_false,cnF];trivial
   ·trivial
  ·cases h
 ·cases h
end
theorem primB_sound{S:St}{a:Act}{o:Oper}{act:Prop}{Z:Nat->Value}(hw0:∀i<S.hp.length,qBs (Z i))(hw1:∀(h:Nat) (sb:SB),S.hp[h]?=some sb->sb.lt S.hp.length)(hs:qCv Z S a)(hact:act){raw:Bool}{pr:Pr}(h:pr=qE2 E.P raw o.op)
  (hJ:∀f C,J f=some C->Valid E.P f C):OpOK E Z S a o (runP J S act pr):=by
 unfold qE2 at h;split at h
 ·rename_i p hp;subst h;exact floP_sound hs hact hp
 ·split at h
  ·rename_i p hp;subst h;exact prim_sound hw0 hw1 hs hact hp hJ
  ·subst h;trivial
end
def S0.ltB(n:Nat):S0->Bool
 | .val _=>true
 | .hd h _=>Nat.blt h n
 | .own h=>Nat.blt h n
 | .el h _ _ _=>Nat.blt h n
 | .opt _ h _=>Nat.blt h n
 | .bsl k=>Nat.blt k n
 | .prj k _ _=>Nat.blt k n
 | .pel k _ _ _=>Nat.blt k n
 | .ar h _ _ _=>Nat.blt h n
 | .asl h _ _ _ _=>Nat.blt h n
def SC.ltB(n:Nat):SC->Bool
 | .o x=>x.ltB n
 | .agg l=>l.all (S0.ltB n)
def SV.ltB(n:Nat):SV->Bool
 | .c x=>x.ltB n
 | .tup l=>l.all (SC.ltB n)
theorem S0.lt_of{n:Nat}{x:S0}(h:x.ltB n=true):x.lt n:=by cases x <;> simp_all [S0.ltB,S0.lt,Nat.blt_eq]
theorem SC.lt_of{n:Nat}{x:SC}(h:x.ltB n=true):x.lt n:=by
 cases x with
 | o x=>exact S0.lt_of h
 | agg l=>exact λy hy=>S0.lt_of (List.all_eq_true.1 h y hy)
theorem SV.lt_of{n:Nat}{x:SV}(h:x.ltB n=true):x.lt n:=by
 cases x with
 | c x=>exact SC.lt_of h
 | tup l=>exact λy hy=>SC.lt_of (List.all_eq_true.1 h y hy)
section
variable {P:Program} {ops:Array Oper} {Q:Exit->Act->World->Prop} {md:Region.Mode} {S:Array Bool->World->Prop}
def qCl(P:Program)(md:Region.Mode)(ops:Array Oper)(Q:Exit->Act->World->Prop)(S:Array Bool->World->Prop):Nat->Array Bool->Act->World->Prop
 | 0,listed,a,w=>Region.ready md ops listed=[]/\Q .normal a w
 | fuel+1,listed,a,w =>
  (Region.ready md ops listed=[]->Q .normal a w) /\
  ∀i∈Region.ready md ops listed,wpOp P ops Q i (λa' w'=>S (listed.setIfInBounds i true) w'/\qCl P md ops Q S fuel (listed.setIfInBounds i true) a' w') a w
theorem wpAny_of_L:∀(fuel:Nat) (listed:Array Bool) (a:Act) (w:World),qCl P md ops Q S fuel listed a w->wpAny P md ops Q fuel listed a w
 | 0,_,_,_,h=>h
 | fuel+1,_,_,_,h=>⟨h.1,λi hi=>wpOp_mono (λa' w' h'=>wpAny_of_L fuel _ a' w' h'.2) (h.2 i hi)⟩
theorem qB1{i:Nat}{oi:Oper}{v:Value}(hi:ops[i]?=some oi)(hsel:∀(j:Nat) (o:Oper) cs b,ops[j]?=some o->o.op≠.select cs b)
  (hQ:∀c a w,Q (.panic c) (a.put oi.dst v) w->Q (.panic c) a w) (T:Array Bool->Prop)
  (hT:∀l j,T l->j∈Region.ready md ops l->j≠i->T (l.setIfInBounds j true)) (hS:∀l w,S (l.setIfInBounds i true) w↔S l w) :
  ∀(fuel:Nat) (listed:Array Bool) (a:Act) (w:World),T listed ->
   (∀j oj,ops[j]?=some oj->j≠i->listed.getD j true=false->(∀e∈oj.after,Region.binds md e=true->e.on≠i)->oi.apart ops oj=true) ->
   i∈Region.ready md ops listed->YieldsIf P ops (λw=>∃l,T l/\S l w) oi v a->S listed w ->
   qCl P md ops Q S fuel (listed.setIfInBounds i true) (a.put oi.dst v) w->qCl P md ops Q S (fuel+1) listed a w:=by
 intro fuel;induction fuel with
 | zero =>
  intro listed a w hTl _ hr hy hSw H;refine⟨λh=>(by rw[h] at hr;cases hr),λj hj=>?_⟩;by_cases hji:j=i
  ·subst hji;exact hy.wpOp hi ⟨listed,hTl,hSw⟩ ⟨(hS _ _).2 hSw,H⟩
  ·have:=ready_mono hj hji;rw[H.1] at this;cases this
 | succ fuel ih =>
  intro listed a w hTl hfree hr hy hSw H;refine⟨λh=>(by rw[h] at hr;cases hr),λj hj=>?_⟩;by_cases hji:j=i
  ·subst hji;exact hy.wpOp hi ⟨listed,hTl,hSw⟩ ⟨(hS _ _).2 hSw,H⟩
  ·have h1:=H.2 j (ready_mono hj hji);obtain⟨hjun,oj,hoj,hall⟩:=mem_ready.1 hj;have hnot:∀e∈oj.after,Region.binds md e=true->e.on≠i:=λe he hb heq=>by
    have h1:=hall e he hb;have h0:=(mem_ready.1 hr).1;rw[heq] at h1;rcases Nat.lt_or_ge i listed.size with h' | h'
    ·simp[h'] at h0 h1;rw[h0] at h1;cases h1
    ·simp[Array.getElem?_eq_none h'] at h1
   have h2:=wpOp_putIf hoj (hfree j oj hoj hji hjun hnot) (λcs b=>hsel i oi cs b hi) (λcs b=>hsel j oj cs b hoj) hQ hy h1;have hfree':∀k ok,ops[k]?=some ok->k≠i->(listed.setIfInBounds j true).getD k true=false ->
     (∀e∈ok.after,Region.binds md e=true->e.on≠i)->oi.apart ops ok=true:=λk ok hk hki hun hno=>by
    refine hfree k ok hk hki ?_ hno;by_cases hjk:j=k
    ·subst hjk;exact hjun
    ·rw[getD_set_ne true hjk] at hun;exact hun
   refine wpOp_mono (λa' w' h3=>?_) h2;obtain⟨hy',hS',hW⟩:=h3;rw[Array.setIfInBounds_comm _ _ (Ne.symm hji)] at hS';have hSj:=(hS _ _).1 hS';refine⟨hSj,ih (listed.setIfInBounds j true) a' w' (hT _ _ hTl hj hji) hfree' (ready_mono hr (Ne.symm hji)) hy' hSj ?_⟩;rw[Array.setIfInBounds_comm _ _ hji];exact hW
def qBm(ops:Array Oper)(l:Array Bool):Prop:=∀(j:Nat) (o:Oper),l.getD j false=true->ops[j]?=some o->∀e∈o.after,Region.binds .any e=true->l.getD e.on false=true
theorem qBm.set{l:Array Bool}{j:Nat}(h:qBm ops l)(hj:j∈Region.ready .any ops l):qBm ops (l.setIfInBounds j true):=by
 obtain⟨_,oj,hoj,hall⟩:=mem_ready.1 hj;intro k o hk ho e he hb;by_cases hjk:j=k
 ·subst hjk;rw[hoj] at ho;cases ho;exact getD_set_true (hall e he hb)
 ·rw[getD_set_ne false hjk] at hk;exact getD_set_true (h k o hk ho e he hb)
theorem qBm.anc{l:Array Bool}(h:qBm ops l):∀(f b i:Nat),l.getD b false=true->Eng.anc ops f b i=true->l.getD i false=true
 | 0,b,i,_,h2=>by simp[Eng.anc] at h2
 | f+1,b,i,hb,h2=>by
  simp only[Eng.anc] at h2;split at h2
  ·rename_i o ho;obtain⟨e,he,hh⟩:=List.any_eq_true.1 h2;simp only[Bool.and_eq_true,Bool.or_eq_true,beq_iff_eq] at hh;have hl:=h b o hb ho e (by simpa using he) hh.1;rcases hh.2 with rfl | hh
   ·exact hl
   ·exact qBm.anc h f e.on i hl hh
  ·cases h2
def left(L:Array Bool):Nat:=L.toList.countP λb=>!b
theorem left_set{L:Array Bool}{k:Nat}(h:k<L.size)(hk:L.getD k false=false):left (L.setIfInBounds k true)+1=left L:=by
 unfold left;have hk':L.toList[k]'(by simpa using h)=false:=by simpa[Array.getD_eq_getD_getElem?,h] using hk
 rw[Array.toList_setIfInBounds,List.countP_set (by simpa using h)];simp only[hk',Bool.not_false,if_true,Bool.not_true,Bool.false_eq_true,if_false,Nat.add_zero];have:0<L.toList.countP λb=>!b:=List.countP_pos_iff.2 ⟨false,by rw[<-hk'];exact List.getElem_mem _,rfl⟩
 omega
end
def qAz(J:Nat->Option Con)(nv nt:Nat)(hp0:List SB):List IOp->St->(St->Prop)->Prop
 | [],S,K=>K S
 | o::r,S,K=>match actOf S o.g with
  | some act=>(¬act/\qD8 nt o.d/\qAz J nv nt hp0 r (putD nv S o.d act (.c (.o (.val (.bool false)))) S.hp) K)\/match o.p with
   | .load n a=>match argE S act a with
    | some (p,.c (.o s))=>match owe p act (loadR hp0 n s) with
     | .quiet p v=>qD8 nt o.d/\s.ltB hp0.length=true/\p/\qAz J nv nt hp0 r (putD nv S o.d act v S.hp) K
     | _=>False
    | _=>False
   | .call f xs=>match runP J S act (.call f xs) with
    | .quiet p v=>qD8 nt o.d/\p/\qAz J nv nt hp0 r (putD nv S o.d act v S.hp) K
    | .ok p v hp=>(∃rest,hp=S.hp++rest)/\qD8 nt o.d/\act/\p/\qAz J nv nt hp0 r (putD nv S o.d act v hp) K
    | _=>False
   | .callW fs x xs=>match runP J S act (.callW fs x xs) with
    | .quiet p v=>qD8 nt o.d/\p/\qAz J nv nt hp0 r (putD nv S o.d act v S.hp) K
    | .ok p v hp=>(∃rest,hp=S.hp++rest)/\qD8 nt o.d/\act/\p/\qAz J nv nt hp0 r (putD nv S o.d act v hp) K
    | _=>False
   | .ext .mget xs=>match argsE S act xs with
    | some (p,[.c (.o s),.c (.o (.val (.string t)))])=>match mapOfQ hp0 s with
     | some (ps,m)=>qD8 nt o.d/\s.ltB hp0.length=true/\(p/\(act->AllP ps))/\qAz J nv nt hp0 r (putD nv S o.d act (.c (.o (.val (.int .i64 (mget m t))))) S.hp) K
     | none=>False
    | _=>False
   | pr=>match runP J S act pr with
    | .still p v=>qD8 nt o.d/\p/\qAz J nv nt hp0 r (putD nv S o.d act v S.hp) K
    | .ok p v hp=>bif qAp pr then False else qD8 nt o.d/\act/\p/\qAz J nv nt hp0 r (putD nv S o.d act v hp) K
    | _=>False
  | none=>False
theorem ok_ext{J:Nat->Option Con}{S:St}{act:Prop}{pr:Pr}{p:Prop}{v:SV}{hp:List SB}(h:runP J S act pr=.ok p v hp)(hb:brkB pr=false)(hs:qAp pr=false)(hsub:subB pr=false)(hc:quB pr=false):∃x,hp=S.hp++[x]:=by
 cases pr <;> simp only[qAp,brkB,reduceCtorEq] at hs hb
 case alloc=>simp only[runP,RR.ok.injEq] at h;exact⟨_,h.2.2.symm⟩
 case box =>
  simp only[runP] at h;split at h
  ·split at h
   ·simp only[RR.ok.injEq] at h;exact⟨_,h.2.2.symm⟩
   ·cases h
  ·cases h
 case bslice e sz n z ps =>
  simp only[runP] at h;split at h
  ·rename_i t _;cases hb:(sz == t.sz) with
   | false=>rw[hb] at h;cases h
   | true =>
    rw[hb] at h;simp only[cnT] at h;split at h
    ·split at h
     ·split at h
      ·simp only[RR.ok.injEq] at h;exact⟨_,h.2.2.symm⟩
      ·cases h
     ·cases h
    ·cases h
  ·rename_i hz;exfalso;unfold etOf at hz;unfold flatZ at hb;split at hb
   all_goals first | (simp at hb;done) | (simp at hz;done)
 case call f xs=>cases hc
 case callW fs x xs=>cases hc
 case ext x xs=>rw[hs] at hb;cases hb
 case sub sz x lo hi =>
  cases sz <;> simp[qAp,subB] at hs hsub
theorem sub_never{J:Nat->Option Con}{S:St}{act:Prop}{pr:Pr}{p:Prop}{v:SV}(h:runP J S act pr=.still p v):subB pr=false:=by
 cases pr <;> try rfl
 rename_i sz x lo hi;cases sz with
 | none=>rfl
 | some sz =>
  exfalso;simp only[runP] at h
  (repeat' split at h) <;> try cases h
  rename_i s n _ _ _ _ _ _ _;rename_i hn _ _ _ _ _ _
  all_goals
   rcases subR_ok (hp:=S.hp) (sz:=sz) (x:=_) (lo:=_) (hi:=_) with⟨q,u,hp',he⟩ | he <;> rw[he] at h <;> cases h
theorem HpSat.init{X:Nat->Prop}{w0 w:World}{Z Z0:Nat->Value}{hp0 rest:List SB}(h:HpSat X w0 w Z (hp0++rest))(hlt:∀(i:Nat) (sb:SB),hp0[i]?=some sb->sb.lt hp0.length)(hag:∀i<hp0.length,Z i=Z0 i):HpSat X w0 w Z0 hp0:=by
 have get:∀(i:Nat) (sb:SB),hp0[i]?=some sb->i<hp0.length/\(hp0++rest)[i]?=some sb:=λi sb hi=>by
  have hl:=(List.getElem?_eq_some_iff.1 hi).1;exact⟨hl,by rw[List.getElem?_append_left hl];exact hi⟩
 refine⟨λi hi=>by rw[<-hag i hi];exact h.ref i (by simp;omega),λi sb hi=>?_,hlt,λi j sb1 sb2 b hij hi hj e1 e2 f1 f2=>?_,h.tab⟩
 ·obtain⟨hl,hi'⟩:=get i sb hi;rw[<-hag i hl];exact SB.sat_ren (h.sat i sb hi') (hlt i sb hi) λk hk=>(hag k hk).symm
 ·obtain⟨hl,hi'⟩:=get i sb1 hi;obtain⟨hl2,hj'⟩:=get j sb2 hj;rw[<-hag i hl] at f1;rw[<-hag j hl2] at f2;exact h.apart i j sb1 sb2 b hij hi' hj' e1 e2 f1 f2
section
variable {E:Env} {J:Nat->Option Con} {raws:List Nat} {nv:Nat}
theorem load_run{P:Program}{o:Oper}{a:Act}{C:World->Prop}{w:World}{v:Value}{t:Nat}{x:Operand}(ho:o.op=.load t x)(h:o.quietAt P a C w v):(execOp a.eval o).run P w=.ok (.value v) w:=by
 have hr:(execOp a.eval o).run P w=((Instr.loadAt t (a.eval x)).run P w).andThen λv w'=>.ok (.value v) w':=by
  unfold execOp;simp[ho]
 unfold Oper.quietAt at h;rw[hr] at h ⊢;cases hh:(Instr.loadAt t (a.eval x)).run P w with
 | ok u w' =>
  rw[hh] at h;simp only[Result.andThen_ok,Oper.quietUpon] at h ⊢;rw[h.1,h.2]
 | halt e w' =>
  rw[hh] at h;exact h.elim
theorem static_brk{pr:Pr}(h:qAp pr=true):brkB pr=false:=by
 cases pr <;> simp only[qAp,brkB,reduceCtorEq] at h ⊢
 case ext x xs=>rw[h];rfl
theorem prim_load{P:Program}{raw:Bool}{o:Op}{n:Option Nat}{y:Arg}(hB : .load n y=qE2 P raw o):∃t x,o=.load t x/\qB4 P t=some n/\arg x=some y:=by
 have h:prim P raw o=some (.load n y):=by
  unfold qE2 at hB;split at hB
  ·rename_i p hp;subst hB;unfold floP at hp
   (repeat' split at hp) <;> first | cases hp | (rename_i hb;cases hb2:arithB _ <;> rw[hb2] at hp <;> cases hp)
  ·split at hB
   ·rename_i p hp;rw[hp,hB]
   ·cases hB
 cases o <;> simp only[prim,reduceCtorEq] at h
 case load t x =>
  split at h
  ·split at h
   ·cases h
   ·rename_i n' h1;cases h;exact⟨t,_,rfl,h1,rfl⟩
   ·cases h
  ·split at h
   ·rename_i n' y' h1 h2;cases h;exact⟨t,_,rfl,h1,h2⟩
   ·cases h
 case call c =>
  obtain⟨p0,h0,he⟩:=Option.map_eq_some_iff.1 h;have he:=qD5 he (λ_ _ h=>by cases h) (λ_ _ _ h=>by cases h);subst he;replace h:=h0;clear h0;simp only[callPr] at h
  (repeat' split at h) <;> first | (cases h;done) | simp[Option.map_eq_some_iff] at h
 all_goals (repeat' split at h) <;> first | (cases h;done) | simp[Option.map_eq_some_iff,callPr] at h
 all_goals (repeat' split at h) <;> first | (cases h;done) | simp[Option.map_eq_some_iff] at h
theorem prim_mget{P:Program}{raw:Bool}{o:Op}{ys:List Arg}(hB : .ext .mget ys=qE2 P raw o):∃t x i y1 y2,o=.lookup t x i false/\qEt P t=true/\arg x=some y1/\arg i=some y2/\ys=[y1,y2]:=by
 have h:prim P raw o=some (.ext .mget ys):=by
  unfold qE2 at hB;split at hB
  ·rename_i p hp;subst hB;unfold floP at hp
   (repeat' split at hp) <;> first | cases hp | (rename_i hb;cases hb2:arithB _ <;> rw[hb2] at hp <;> cases hp)
  ·split at hB
   ·rename_i p hp;rw[hp,hB]
   ·cases hB
 cases o <;> simp only[prim,reduceCtorEq] at h
 case lookup t x i ok =>
  split at h
  ·rename_i y1 y2 h1 h2;split at h
   ·rename_i hn;cases h;exact⟨t,x,i,y1,y2,rfl,hn,h1,h2,rfl⟩
   ·cases h
  ·cases h
 case call c =>
  obtain⟨p0,h0,he⟩:=Option.map_eq_some_iff.1 h;have he:=qD5 he (λ_ _ h=>by cases h) (λ_ _ _ h=>by cases h);subst he;replace h:=h0;clear h0;unfold callPr externExt at h
  (repeat' split at h) <;> first | (cases h;done) | (simp[Option.map_eq_some_iff] at h;done) | skip
  all_goals (rename_i hx _;(repeat' split at hx) <;> cases hx <;> cases h)
 all_goals (repeat' split at h) <;> first | (cases h;done) | simp[Option.map_eq_some_iff,callPr] at h
 all_goals (repeat' split at h) <;> first | (cases h;done) | simp[Option.map_eq_some_iff] at h
theorem ready_un{ops:Array Oper}{L:Array Bool}{k:Nat}(h:k∈Region.ready .any ops L):L.getD k true=false:=(mem_ready.1 h).1
theorem drawAt_ready{ops:Array Oper}{is:List IOp}{L:Array Bool}{k:Nat}(h:drawAt ops is L k=true):k∈Region.ready .any ops L:=by
 unfold drawAt at h;split at h
 ·split at h
  ·simp only[Bool.and_eq_true,List.contains_iff_mem] at h;exact h.1.1
  ·rw[Bool.and_eq_true] at h;have:Region.ready .any ops L=[k]:=by simpa using h.1
   rw[this];simp
 ·cases h
theorem drawAll_left{ops:Array Oper}{is:List IOp}:∀(d:List Nat) (L:Array Bool),L.size=ops.size->qD6 ops is L d=true->d.length=left L
 | [],L,hz,h=>by
  simp only[qD6,List.all_eq_true,List.mem_range] at h;symm
  unfold left;rw[List.length_nil,List.countP_eq_zero];intro b hb;obtain⟨i,hi,rfl⟩:=List.getElem_of_mem hb;have hi':i<L.size:=by simpa using hi
  have:=h i (by omega);simp only[Array.getD_eq_getD_getElem?,Array.getElem?_eq_getElem hi',Option.getD_some] at this;simpa using this
 | k::d,L,hz,h=>by
  simp only[qD6,Bool.and_eq_true,decide_eq_true_eq] at h;have hun:=ready_un (drawAt_ready h.1.2);have hk:k<L.size:=by omega
  have hun':L.getD k false=false:=by
   simp only[Array.getD_eq_getD_getElem?,Array.getElem?_eq_getElem hk,Option.getD_some] at hun ⊢;exact hun
  rw[List.length_cons,drawAll_left d (L.setIfInBounds k true) (by simpa using hz) h.2,left_set hk hun']
theorem drawAll_len{ops:Array Oper}{is:List IOp}(d:List Nat)(L:Array Bool)(hL:L=Array.replicate ops.size false)(h:qD6 ops is L d=true):d.length=ops.size:=by
 rw[drawAll_left d L (by rw[hL];simp) h,hL];simp[left,List.countP_replicate]
theorem opers_at{P:Program}{ops:Array Oper}:∀ {l:List Oper} {is:List IOp},opers P raws ops l=some is->∀(k:Nat) (o:Oper),l[k]?=some o->∃io,is[k]?=some io/\oper P raws ops o=some io
 | [],is,h,k,o,hk=>by simp at hk
 | x::r,is,h,k,o,hk=>by
  simp only[opers] at h;split at h
  ·rename_i y s h1 h2;simp only[snJ] at h;subst h;cases k with
   | zero=>cases hk;exact⟨y,rfl,h1⟩
   | succ k=>exact opers_at h2 k o (by simpa using hk)
  ·cases h
theorem sub_opPure{Z:Nat->Value}{S:St}{a:Act}{o:Oper}{act:Prop}{raw:Bool}{pr:Pr}{p:Prop}{v:SV}{hp':List SB}(hs:qCv Z S a)(ha:act)(hB:pr=qE2 E.P raw o.op)(hrp:runP J S act pr=.ok p v hp')(hsub:subB pr=true)(hp:p) :
  v.lt hp'.length/\S.hp.length<=hp'.length/\∀w,Cls E Z S.hp w->∃Z',(∀i<S.hp.length,Z' i=Z i)/\Cls E Z' hp' w/\∀w',(execOp a.eval o).run E.P w'=.ok (.value (v.den Z')) w':=by
 have h:prim E.P raw o.op=some pr:=by
  subst hB;unfold qE2 at hsub ⊢;split at hsub
  ·rename_i p hp;exfalso;unfold floP at hp
   (repeat' split at hp) <;> first | (cases hp;done) | (rename_i hb;cases hb2:arithB _ <;> rw[hb2] at hp <;> first | (cases hp;done) | (cases hp;cases hsub)) | (cases hp;cases hsub)
  ·split at hsub
   ·rename_i p hp;rw[hp]
   ·cases hsub
 cases ho:o.op <;> rw[ho] at h <;> simp only[prim,reduceCtorEq] at h
 case slice t x lo hi mx =>
  cases mx with
  | some mx =>
   exfalso;revert h;simp only
   (repeat' split) <;> intro h <;> first | (cases h;done) | (cases h;cases hsub;done)
  | none =>
  simp only at h;split at h
  ·cases h;cases hsub
  ·rename_i e x' lo' hi' h1 h2 h3 h4;split at h
   ·rename_i ti h0;cases h;simp only[runP] at hrp;split at hrp
    ·rename_i p s h5;split at hrp
     ·rename_i n hn;split at hrp
      ·rename_i q l r hh h6 h7;have:=sub_pure (E:=E) (o:=o) hs ha h1 h0 (λhp=>(qAc hs ha h2 h5 hp).1) hn (loB_spec h3) h4 h6 h7 ho;rw[hrp] at this;exact this hp
      ·cases hrp
     ·cases hrp
    ·cases hrp
   ·cases h
  ·split at h
   ·cases h;cases hsub
   ·cases h
  ·split at h
   ·split at h
    ·cases h;cases hsub
    ·cases h
   ·cases h
  ·cases h
 case call c =>
  exfalso;obtain⟨p0,h0,he⟩:=Option.map_eq_some_iff.1 h;have he:=qD5 he (λ_ _ h=>by rw[h] at hsub;cases hsub) (λ_ _ _ h=>by rw[h] at hsub;cases hsub);subst he;replace h:=h0;clear h0;unfold callPr at h;revert h
  (repeat' split) <;> intro h <;> first | (cases h;done) | (cases h;cases hsub;done) | (simp only[Option.map_eq_some_iff] at h;obtain⟨_,_,rfl⟩:=h;cases hsub;done) | skip
 all_goals
  exfalso;revert h
  (repeat' split) <;> intro h <;> first | (cases h;done) | (cases h;cases hsub;done) | (simp only[Option.map_eq_some_iff] at h;obtain⟨_,_,rfl⟩:=h;cases hsub;done) | skip
end
def qCg(hp:List SB):List SB:=hp.map λb=>match b with
 | .cells t c=>.cells t c
 | _=>.dead
def Keep(hp hp':List SB):Prop:=∀(i t:Nat) (c:List S0),hp[i]?=some (.cells t c)->hp'[i]?=some (.cells t c)
theorem Keep.refl(hp:List SB):Keep hp hp:=λ_ _ _ h=>h
theorem Keep.trans{a b c:List SB}(h:Keep a b)(h':Keep b c):Keep a c:=λi t l e=>h' i t l (h i t l e)
theorem Keep.app(hp x:List SB):Keep hp (hp++x):=λi t c h=>by
 rw[List.getElem?_append_left (List.getElem?_eq_some_iff.1 h).1];exact h
theorem Keep.dead{hp:List SB}{h:Nat}(hn:∀t c,hp[h]?≠some (.cells t c)):Keep hp (hp.set h .dead):=λi t c e=>by
 by_cases hi:h=i
 ·subst hi;exact(hn t c e).elim
 ·rw[List.getElem?_set_ne hi];exact e
theorem qEx{hp:List SB}{i:Nat}{sb:SB}(h:(qCg hp)[i]?=some sb):sb=.dead\/∃t c,sb=.cells t c/\hp[i]?=some (.cells t c):=by
 unfold qCg at h;rw[List.getElem?_map,Option.map_eq_some_iff] at h;obtain⟨b,h1,h2⟩:=h;cases b with
 | cells t c=>exact .inr ⟨t,c,h2.symm,h1⟩
 | _=>exact .inl h2.symm
theorem cells_cls{E:Env}{Z' Z0:Nat->Value}{hp0 hp':List SB}{w':World}(h:Cls E Z' hp' w')(hk:Keep hp0 hp')(hag:∀i<hp0.length,Z' i=Z0 i)(hle:hp0.length<=hp'.length)(hlt0:∀(i:Nat) (sb:SB),hp0[i]?=some sb->sb.lt hp0.length):Cls E Z0 (qCg hp0) w':=by
 have hlen:(qCg hp0).length=hp0.length:=by simp[qCg]
 refine⟨⟨λi hi=>?_,λi sb hi=>?_,λi sb hi=>?_,λi j sb1 sb2 b hij hi hj e1 e2 f1 f2=>?_,h.1.tab⟩,h.2⟩
 ·rw[hlen] at hi;rw[<-hag i hi];exact h.1.ref i (by omega)
 ·rcases qEx hi with rfl | ⟨t,c,rfl,h1⟩
  ·trivial
  ·have hil:=(List.getElem?_eq_some_iff.1 h1).1;rw[<-hag i hil];exact SB.sat_ren (h.1.sat i _ (hk i t c h1)) (hlt0 i _ h1) λk hkk=>(hag k hkk).symm
 ·rw[hlen];rcases qEx hi with rfl | ⟨t,c,rfl,h1⟩
  ·trivial
  ·exact hlt0 i _ h1
 ·rcases qEx hi with rfl | ⟨t,c,rfl,h1⟩
  ·cases e1
  ·rcases qEx hj with rfl | ⟨t',c',rfl,h2⟩
   ·cases e2
   ·have l1:=(List.getElem?_eq_some_iff.1 h1).1;have l2:=(List.getElem?_eq_some_iff.1 h2).1;rw[<-hag i l1] at f1;rw[<-hag j l2] at f2;exact h.1.apart i j _ _ b hij (hk i t c h1) (hk j t' c' h2) e1 e2 f1 f2
def qCn(is0:List IOp)(B:Pr->Bool)(L:Array Bool):Prop:=∀j b,is0[j]?=some b->B b.p=true->L.getD j false=false
theorem qCn.of_set{is0:List IOp}{B:Pr->Bool}{L:Array Bool}{k:Nat}(hkL:k<L.size)(h:qCn is0 B (L.setIfInBounds k true)):qCn is0 B L:=by
 intro j b hj hb;have:=h j b hj hb;by_cases hjk:k=j
 ·subst hjk;rw[Array.getD_eq_getD_getElem?,Array.getElem?_setIfInBounds_self_of_lt hkL] at this;cases this
 ·rwa [getD_set_ne false hjk] at this
theorem qCn.not_set{is0:List IOp}{B:Pr->Bool}{L:Array Bool}{k:Nat}{io:IOp}(hio:is0[k]?=some io)(hkL:k<L.size)(h:qCn is0 B (L.setIfInBounds k true)):B io.p=false:=by
 cases hb:B io.p with
 | false=>rfl
 | true =>
  have:=h k io hio hb;rw[Array.getD_eq_getD_getElem?,Array.getElem?_setIfInBounds_self_of_lt hkL] at this;cases this
theorem qCn.to_set{is0:List IOp}{B:Pr->Bool}{L:Array Bool}{k:Nat}{io:IOp}(hio:is0[k]?=some io)(hb:B io.p=false)(h:qCn is0 B L):qCn is0 B (L.setIfInBounds k true):=by
 intro j b hj hbj;have hne:k≠j:=by
  rintro rfl
  rw[hio] at hj;cases hj;rw[hb] at hbj;cases hbj
 rw[getD_set_ne false hne];exact h j b hj hbj
theorem qCn.out{is0:List IOp}{B:Pr->Bool}{l:Array Bool}{ops:Array Oper}{k:Nat}(hcl:qBm ops l)(hun:l.getD k true=false)(hall:∀x∈is0.zipIdx,(!B x.1.p || anc ops ops.size x.2 k)=true):qCn is0 B l:=by
 intro j b hj hb;cases hlj:l.getD j false with
 | false=>rfl
 | true =>
  exfalso;have hj':(b,j)∈is0.zipIdx:=by
   rw[List.mem_zipIdx_iff_getElem?];exact hj
  have:=hall (b,j) hj';simp only[hb,Bool.not_true,Bool.false_or] at this;have hlk:=hcl.anc _ _ _ hlj this;rcases Nat.lt_or_ge k l.size with h' | h'
  ·simp[h'] at hun hlk;rw[hun] at hlk;cases hlk
  ·simp[Array.getElem?_eq_none h'] at hlk
theorem cut_brk{p:Pr}(h:cutB p=true):brkB p=true:=by
 cases p <;> simp only[cutB,brkB,Bool.false_eq_true] at h ⊢ <;> first | exact h | rfl
def Pre(E:Env)(is0:List IOp)(Z0:Nat->Value)(hp0:List SB)(L:Array Bool)(hp:List SB)(w:World):Prop :=
 (qCn is0 brkB L->Cls E Z0 hp0 w/\(qCn is0 subB L->∃rest,hp=hp0++rest))/\(qCn is0 cutB L->Cls E Z0 (qCg hp0) w/\Keep hp0 hp)
def SI(E:Env)(is0:List IOp)(Z0:Nat->Value)(hp0:List SB)(l:Array Bool)(w:World):Prop :=
 (qCn is0 brkB l->Cls E Z0 hp0 w)/\(qCn is0 cutB l->Cls E Z0 (qCg hp0) w)
theorem Pre.si{E:Env}{is0:List IOp}{Z0:Nat->Value}{hp0 hp:List SB}{L:Array Bool}{w:World}(h:Pre E is0 Z0 hp0 L hp w):SI E is0 Z0 hp0 L w:=⟨λh1=>(h.1 h1).1,λh1=>(h.2 h1).1⟩
theorem Pre.stay{E:Env}{is0:List IOp}{Z0:Nat->Value}{hp0 hp:List SB}{L:Array Bool}{w:World}{k:Nat}(hkL:k<L.size)(h:Pre E is0 Z0 hp0 L hp w):Pre E is0 Z0 hp0 (L.setIfInBounds k true) hp w :=
 ⟨λh1=>⟨(h.1 (h1.of_set hkL)).1,λh2=>(h.1 (h1.of_set hkL)).2 (h2.of_set hkL)⟩,λh1=>h.2 (h1.of_set hkL)⟩
theorem Pre.sub{E:Env}{is0:List IOp}{Z0:Nat->Value}{hp0 hp hp':List SB}{L:Array Bool}{w:World}{k:Nat}{io:IOp}(hio:is0[k]?=some io)(hkL:k<L.size)(h:Pre E is0 Z0 hp0 L hp w)(hs:subB io.p=true)(hk:Keep hp hp'):Pre E is0 Z0 hp0 (L.setIfInBounds k true) hp' w :=
 ⟨λh1=>⟨(h.1 (h1.of_set hkL)).1,λh2=>by have:=h2.not_set hio hkL;rw[hs] at this;cases this⟩,λh1=>⟨(h.2 (h1.of_set hkL)).1,(h.2 (h1.of_set hkL)).2.trans hk⟩⟩
theorem Pre.grow{E:Env}{is0:List IOp}{Z Z' Z0:Nat->Value}{hp0 hp hp':List SB}{L:Array Bool}{w w':World}{k:Nat}{io:IOp}(hlt0:∀(i:Nat) (sb:SB),hp0[i]?=some sb->sb.lt hp0.length)(hio:is0[k]?=some io)(hkL:k<L.size)(h:Pre E is0 Z0 hp0 L hp w)
  (hag:∀i<hp0.length,Z i=Z0 i) (hle:hp0.length<=hp.length) (hag':∀i<hp.length,Z' i=Z i) (hle':hp.length<=hp'.length) (hcls:Cls E Z' hp' w')
  (hsubs:brkB io.p=false->qCn is0 subB L) (hx:brkB io.p=false->∃x,hp'=hp++x) (hk:cutB io.p=false->Keep hp hp'):Pre E is0 Z0 hp0 (L.setIfInBounds k true) hp' w':=by
 refine⟨λh1=>?_,λh1=>?_⟩
 ·have hnb:=h1.not_set hio hkL;obtain⟨rest,hrest⟩:=(h.1 (h1.of_set hkL)).2 (hsubs hnb);obtain⟨x,rfl⟩:=hx hnb;have he:hp++x=hp0++(rest++x):=by rw[hrest,List.append_assoc]
  refine⟨⟨?_,hcls.2⟩,λ_=>⟨rest++x,he⟩⟩;have h2:=hcls.1;rw[he] at h2;exact h2.init hlt0 λi hi=>(hag' i (by omega)).trans (hag i hi)
 ·have hkp:=(h.2 (h1.of_set hkL)).2.trans (hk (h1.not_set hio hkL));exact⟨cells_cls hcls hkp (λi hi=>(hag' i (by omega)).trans (hag i hi)) (by omega) hlt0,hkp⟩
theorem Pre.start{E:Env}{is0:List IOp}{Z0:Nat->Value}{hp0:List SB}{L:Array Bool}{w:World}(h:Cls E Z0 hp0 w)(hlt0:∀(i:Nat) (sb:SB),hp0[i]?=some sb->sb.lt hp0.length):Pre E is0 Z0 hp0 L hp0 w :=
 ⟨λ_=>⟨h,λ_=>⟨[],by simp⟩⟩,λ_=>⟨cells_cls h (Keep.refl _) (λ_ _=>rfl) (Nat.le_refl _) hlt0,Keep.refl _⟩⟩
theorem Keep.bag{hp:List SB}{h:Nat}{ks:List NK}{e:Nat}{l:List (NT ks)}(hb:hp[h]?=some (.bag ks e l)):Keep hp (hp.set h .dead):=Keep.dead λt c e=>by rw[hb] at e;cases e
theorem srowApp_keep{hp hp':List SB}{e sz bytes:Nat}{s x:S0}{ps:List Prop}{v:SV}(h:srowAppQ hp e sz bytes s x=.ok ps v hp'):Keep hp hp':=by
 unfold srowAppQ at h;split at h
 ·generalize (bif Nat.blt 0 sz then _ else false)=c at h
  cases c with
  | false=>cases h
  | true =>
   rw[cnT] at h;split at h
   ·cases h;exact Keep.app _ _
   ·split at h
    ·rename_i hb;generalize (bif Nat.beq e _ then _ else false)=c at h
     cases c with
     | false=>cases h
     | true =>
      cases h;exact(Keep.dead λt c e=>by rw[hb] at e;cases e).trans (Keep.app _ _)
    ·cases h
   ·cases h
 ·cases h
theorem groApp_keep{hp hp':List SB}{e sz bytes k:Nat}{x:S0}{ps:List Prop}{v:SV}(h:groAppQ hp e sz bytes k x=.ok ps v hp'):Keep hp hp':=by
 unfold groAppQ at h;split at h
 ·rename_i hb;generalize (bif Nat.beq sz _ then _ else false)=c at h
  cases c with
  | false=>cases h
  | true =>
   rw[cnT] at h;split at h
   ·cases h;exact(Keep.dead λt c e=>by rw[hb] at e;cases e).trans (Keep.app _ _)
   ·cases h
 ·cases h
theorem bagApp_keep{hp hp':List SB}{e sz bytes:Nat}{s x:S0}{ps:List Prop}{v:SV}(h:qDo hp e sz bytes s x=.ok ps v hp'):Keep hp hp':=by
 unfold qDo at h;split at h
 ·split at h
  ·rename_i hb;generalize (bif Nat.beq sz _ then _ else false)=c at h
   cases c with
   | false=>cases h
   | true =>
    cases h;exact(Keep.bag hb).trans (Keep.app _ _)
  ·cases h
 ·rename_i k k';split at h
  ·rename_i h1 h2;split at h
   ·generalize (bif Nat.beq sz _ then _ else false)=c at h
    cases c with
    | false=>cases h
    | true =>
     cases h;refine((Keep.bag h1).trans ?_).trans (Keep.app _ _);refine Keep.dead λt c e=>?_
     by_cases hkk:k=k'
     ·subst hkk;rw[List.getElem?_set_self (List.getElem?_eq_some_iff.1 h1).1] at e;cases e
     ·rw[List.getElem?_set_ne hkk,h2] at e;cases e
   ·cases h
  ·cases h
 ·exact srowApp_keep h
 ·exact srowApp_keep h
 ·exact groApp_keep h
 ·cases h
theorem toR_ok{q:RQ}{p:Prop}{v:SV}{hp:List SB}(h:q.toR=.ok p v hp):∃ps,q=.ok ps v hp:=by
 cases q with
 | ok ps v' hp' =>
  simp only[RQ.toR,RR.ok.injEq] at h;obtain⟨_,rfl,rfl⟩:=h;exact⟨ps,rfl⟩
 | _=>simp only[RQ.toR,reduceCtorEq] at h
theorem appendR_keep{hp hp':List SB}{e sz bytes:Nat}{zero:List Value}{s x:S0}{p:Prop}{v:SV}(h:appendR hp e sz bytes zero s x=.ok p v hp'):Keep hp hp':=by
 unfold appendR at h;cases ha:apart0 s x with
 | false=>rw[ha] at h;cases h
 | true =>
  rw[ha] at h;simp only[cnT] at h;split at h
  ·split at h
   ·rename_i t ht;generalize (sz == t.sz)=c at h
    cases c with
    | false=>cases h
    | true =>
     simp only[cnT] at h;split at h
     ·simp only[RR.ok.injEq] at h;obtain⟨_,_,rfl⟩:=h;exact Keep.app _ _
     ·cases h
   ·obtain⟨ps,h⟩:=toR_ok h;exact bagApp_keep h
  ·split at h
   ·rename_i t e' l hb;generalize (sz == t.sz && e == e')=c at h
    cases c with
    | false=>cases h
    | true =>
     simp only[cnT] at h;split at h
     ·simp only[RR.ok.injEq] at h;obtain⟨_,_,rfl⟩:=h;exact(Keep.dead λt c e=>by rw[hb] at e;cases e).trans (Keep.app _ _)
     ·cases h
   ·obtain⟨ps,h⟩:=toR_ok h;exact bagApp_keep h
   ·cases h
  ·obtain⟨ps,h⟩:=toR_ok h;exact bagApp_keep h
theorem subR_keep{hp hp':List SB}{sz:Nat}{x:S0}{lo:Option Int}{hi:Int}{p:Prop}{v:SV}(h:subR hp sz x lo hi=.ok p v hp'):Keep hp hp':=by
 unfold subR at h;split at h
 ·split at h
  ·rename_i t e l hb;generalize (sz == t.sz)=c at h
   cases c with
   | false=>cases h
   | true =>
    simp only[cnT] at h;split at h
    ·simp only[RR.ok.injEq] at h;obtain⟨_,_,rfl⟩:=h;exact(Keep.dead λt c e=>by rw[hb] at e;cases e).trans (Keep.app _ _)
    ·simp only[RR.ok.injEq] at h;obtain⟨_,_,rfl⟩:=h;exact Keep.app _ _
  ·split at h
   ·generalize (sz == _ && sz == _)=c at h
    cases c with
    | false=>cases h
    | true =>
     simp only[cnT,RR.ok.injEq] at h;obtain⟨_,_,rfl⟩:=h;exact Keep.app _ _
   ·cases h
  ·rename_i t l hb;generalize (sz == t.sz)=c at h
   cases c with
   | false=>cases h
   | true =>
    simp only[cnT] at h;split at h
    ·simp only[RR.ok.injEq] at h;obtain⟨_,_,rfl⟩:=h;exact Keep.app _ _
    ·simp only[RR.ok.injEq] at h;obtain⟨_,_,rfl⟩:=h;exact Keep.app _ _
  ·rename_i t l hb;generalize (sz == t.sz)=c at h
   cases c with
   | false=>cases h
   | true =>
    simp only[cnT] at h;split at h
    ·simp only[RR.ok.injEq] at h;obtain⟨_,_,rfl⟩:=h;exact(Keep.dead λt c e=>by rw[hb] at e;cases e).trans (Keep.app _ _)
    ·cases h
  ·cases h
 ·obtain⟨ps,h⟩:=toR_ok h;unfold bagSubQ at h;split at h
  ·split at h
   ·rename_i hb;generalize Nat.beq sz _=c at h
    cases c with
    | false=>cases h
    | true =>
     simp only[cnT,RQ.ok.injEq] at h;obtain⟨_,_,rfl⟩:=h;exact(Keep.bag hb).trans (Keep.app _ _)
   ·cases h
  ·cases h
theorem nkTake_map:∀ {hp:List SB} {ks:List NK} {l:List S0} {x:NT ks} {hs:List Nat},qBv hp ks l=some (x,hs)->∀h∈hs,∀t c,hp[h]?≠some (.cells t c):=by
 intro hp ks;induction ks with
 | nil =>
  intro l x hs h;cases l with
  | nil=>simp only[qBv,snJ,Prod.mk.injEq] at h;obtain⟨_,rfl⟩:=h;exact λh hm=>by cases hm
  | cons=>simp only[qBv,reduceCtorEq] at h
 | cons k r ih =>
  intro l x hs h;cases l with
  | nil=>cases k <;> simp only[qBv,reduceCtorEq] at h
  | cons v l =>
   cases k with
   | int q =>
    simp only[qBv] at h;split at h
    ·rename_i h1;generalize decide (_=q)=c at h
     cases c with
     | false=>cases h
     | true=>cases h;exact ih h1
    ·cases h
   | bool =>
    simp only[qBv] at h;split at h
    ·rename_i h1;cases h;exact ih h1
    ·cases h
   | str =>
    simp only[qBv] at h;split at h
    ·rename_i h1;cases h;exact ih h1
    ·cases h
   | map =>
    simp only[qBv] at h;split at h
    ·rename_i h1;cases h;exact ih h1
    ·rename_i h1;split at h
     ·rename_i hm;cases h;intro g hg t c;rcases List.mem_cons.1 hg with rfl | hg
      ·rw[hm];exact λe=>by cases e
      ·exact ih h1 g hg t c
     ·cases h
    ·cases h
   | rw q =>
    simp only[qBv] at h;split at h
    ·rename_i h1;cases h;exact ih h1
    ·rename_i h1;split at h
     ·rename_i hm0;obtain⟨sb0,hm,hq⟩:=Option.bind_eq_some_iff.1 hm0;obtain⟨e0,rfl⟩:=QK.take_eq hq;cases h;intro g hg t c;rcases List.mem_cons.1 hg with rfl | hg
      ·rw[hm];exact λe=>by cases e
      ·exact ih h1 g hg t c
     ·cases h
    ·cases h
theorem killL_keep:∀(hs:List Nat) (hp:List SB),(∀h∈hs,∀t c,hp[h]?≠some (.cells t c))->Keep hp (killL hs hp)
 | [],hp,_=>Keep.refl hp
 | h::r,hp,hn=>by
  have h1:Keep hp (hp.set h .dead):=Keep.dead (hn h (List.mem_cons_self));refine h1.trans (killL_keep r _ λg hg t c e=>?_);by_cases hgh:h=g
  ·subst hgh;rw[List.getElem?_set] at e;split at e
   ·split at e
    ·cases e
    ·cases e
   ·exact hn _ (List.mem_cons_self) t c e
  ·rw[List.getElem?_set_ne hgh] at e;exact hn g (List.mem_cons_of_mem _ hg) t c e
theorem bagNew_keep{hp hp':List SB}{e sz n:Nat}{zero:List Value}{l:List S0}{v:SV}(h:bagNew hp e sz n zero l=some (v,hp')):Keep hp hp':=by
 unfold bagNew at h;split at h
 ·generalize (bif Nat.beq sz _ then _ else false)=c at h
  cases c with
  | false=>cases h
  | true =>
   simp only[cnT] at h;split at h
   ·rename_i x hs ht;generalize nodupN hs=c at h
    cases c with
    | false=>cases h
    | true =>
     cases h;exact(killL_keep _ _ (nkTake_map ht)).trans (Keep.app _ _)
   ·cases h
 ·cases h
theorem litBag_keep{hp hp':List SB}{e sz n:Nat}{zero:List Value}{l:List S0}{v:SV}(h:litBag hp e sz n zero l=some (v,hp')):Keep hp hp':=by
 unfold litBag at h;split at h
 ·rename_i x hx;cases h;exact bagNew_keep hx
 ·unfold litNew at h;cases hb:Nat.beq l.length (n*sz) with
  | false=>rw[hb] at h;cases h
  | true =>
   rw[hb] at h;simp only[cnT,snJ,Prod.mk.injEq] at h;obtain⟨_,rfl⟩:=h;exact Keep.app _ _
theorem owe_ok{p act q:Prop}{r:RR}{v:SV}{hp:List SB}(h:owe p act r=.ok q v hp):∃q',r=.ok q' v hp:=by
 cases r with
 | ok q' v' hp' =>
  simp only[owe,RR.ok.injEq] at h;obtain⟨_,rfl,rfl⟩:=h;exact⟨q',rfl⟩
 | _=>simp only[owe,reduceCtorEq] at h
theorem ok_keep{J:Nat->Option Con}{S:St}{act:Prop}{pr:Pr}{p:Prop}{v:SV}{hp:List SB}(h:runP J S act pr=.ok p v hp)(hc:cutB pr=false)(hs:qAp pr=false)(hcall:quB pr=false):Keep S.hp hp:=by
 cases pr <;> simp only[qAp,Bool.true_eq_false] at hs
 case bad=>cases hc
 case floA=>cases hc
 case floI=>cases hc
 case floC=>cases hc
 case store=>cases hc
 case alloc=>simp only[runP,RR.ok.injEq] at h;obtain⟨_,_,rfl⟩:=h;exact Keep.app _ _
 case box =>
  simp only[runP] at h;split at h
  ·split at h
   ·simp only[RR.ok.injEq] at h;obtain⟨_,_,rfl⟩:=h;exact Keep.app _ _
   ·cases h
  ·cases h
 case bslice e sz n z ps =>
  simp only[runP] at h;split at h
  ·generalize (sz == _)=c at h
   cases c with
   | false=>cases h
   | true =>
    simp only[cnT] at h;split at h
    ·split at h
     ·split at h
      ·simp only[RR.ok.injEq] at h;obtain⟨_,_,rfl⟩:=h;exact Keep.app _ _
      ·cases h
     ·cases h
    ·cases h
  ·split at h
   ·split at h
    ·rename_i hb;simp only[RR.ok.injEq] at h;obtain⟨_,rfl,rfl⟩:=h;exact litBag_keep hb
    ·cases h
   ·cases h
 case append =>
  simp only[runP] at h;split at h
  ·obtain⟨q,h⟩:=owe_ok h;exact appendR_keep h
  ·cases h
 case call f xs=>cases hcall
 case callW fs x xs=>cases hcall
 case callL f xs=>simp[cutB,brkB] at hc
 case callV x xs=>simp[cutB,brkB] at hc
 case panic x=>simp[cutB,brkB] at hc
 case ext x xs =>
  simp only[cutB,brkB] at hc;rw[hs] at hc;cases hc
 case sub sz x lo hi =>
  cases sz with
  | none=>cases hs
  | some sz =>
   simp only[runP] at h;split at h
   ·split at h
    ·split at h
     ·obtain⟨q,h⟩:=owe_ok h;exact subR_keep h
     ·cases h
    ·cases h
   ·cases h
end Go.Eng
