/-
  Texts of a claim.
-/
import Derived.Deep.LoopGhost
import Derived.Test.YtpobbbpphnnnhaaGreatDoorEngE
namespace Go.Eng
set_option linter.unusedVariables false
set_option linter.unusedSimpArgs false
section
variable {E:Env} {ρ:Nat→Value} {S:St} {a:Act} {o:Oper} {act:Prop}
theorem qGu {P:Program} {t:Nat} (h:byteSlice P t=true):∃e,P.underlying t=some (.slice e)∧P.underlying e=some (.int .u8):=by
 unfold byteSlice at h;split at h
 ·rename_i e he;split at h
  ·rename_i h2;exact ⟨e,he,h2⟩
  ·cases h
 ·cases h
theorem args_len:∀ {xs:List Operand} {ys:List Arg},args xs=some ys→xs.length=ys.length
 | [],ys,h=>by simp only [args,snJ] at h; subst h; rfl
 | x::r,ys,h=>by
  simp only [args] at h;split at h
  ·rename_i h1 h2;simp only [snJ] at h;subst h;simp [args_len h2]
  ·cases h
theorem qEq {S:St} {act:Prop}:∀ {ys:List Arg} {p:Prop} {l:List SV},argsE S act ys=some (p,l)→l.length=ys.length
 | [],p,l,h=>by simp only [argsE,snJ,Prod.mk.injEq] at h; obtain ⟨_,rfl⟩:=h; rfl
 | x::r,p,l,h=>by
  simp only [argsE] at h;split at h
  ·rename_i h1 h2;simp only [snJ,Prod.mk.injEq] at h;obtain ⟨_,rfl⟩:=h;simp [qEq h2]
  ·cases h
theorem ext_noEsc_len {hp:List SB} {l:List SV} (h:l.length≠1):extQ hp .noEsc l=.no:=by
 unfold extQ; split <;> first | rfl | simp_all
theorem ext_f32_len {hp:List SB} {l:List SV} (h:l.length≠1):extQ hp .f32bits l=.no:=by
 unfold extQ; split <;> first | rfl | simp_all
theorem ext_cmp_len {hp:List SB} {l:List SV} (h:l.length≠2):extQ hp .cmpStr l=.no:=by
 unfold extQ; split <;> first | rfl | simp_all
theorem ext_idx_len {hp:List SB} {l:List SV} (h:l.length≠2):extQ hp .idxByte l=.no:=by
 unfold extQ; split <;> first | rfl | simp_all
theorem len_two {α:Type} {l:List α} (h:l.length=2):∃x y,l=[x,y]:=by
 match l,h with
 | [x,y],_=>exact ⟨x,y,rfl⟩
theorem ext1 (hs:qEz ρ S a) (hact:act) {Γ:Nat→Option Con} {x:Operand} {y:Arg} {X:Ext} (hx:arg x=some y) (H:∀v:SV,a.eval x=v.den ρ→v.lt S.hp.length→OpOK E ρ S a o (extQ S.hp X [v]).toR):OpOK E ρ S a o (runP Γ S act (.ext X [y])):=by
 simp only [runP];split
 ·rename_i p l h1;refine qBi hact fun hp=>?_
  obtain ⟨e1,e2⟩:=qBv hs hact (xs:=[x]) (by simp [args,hx]) h1 hp;obtain ⟨v,rfl⟩:=List.length_eq_one_iff.1 (qEq h1);simp only [List.map_cons,List.map_nil,List.cons.injEq,and_true] at e1;exact H v e1 (e2 v (by simp))
 ·trivial
theorem ext2 (hs:qEz ρ S a) (hact:act) {Γ:Nat→Option Con} {x x2:Operand} {y y2:Arg} {X:Ext} (hx:arg x=some y) (hx2:arg x2=some y2) (H:∀v v2:SV,a.eval x=v.den ρ→a.eval x2=v2.den ρ→v.lt S.hp.length→v2.lt S.hp.length→OpOK E ρ S a o (extQ S.hp X [v,v2]).toR):OpOK E ρ S a o (runP Γ S act (.ext X [y,y2])):=by
 simp only [runP];split
 ·rename_i p l h1;refine qBi hact fun hp=>?_
  obtain ⟨e1,e2⟩:=qBv hs hact (xs:=[x,x2]) (by simp [args,hx,hx2]) h1 hp;obtain ⟨v,v2,rfl⟩:=len_two (qEq h1);simp only [List.map_cons,List.map_nil,List.cons.injEq,and_true] at e1;exact H v v2 e1.1 e1.2 (e2 v (by simp)) (e2 v2 (by simp))
 ·trivial
theorem ext0 {Γ:Nat→Option Con} {X:Ext} (H:OpOK E ρ S a o (extQ S.hp X []).toR) (hact:act):OpOK E ρ S a o (runP Γ S act (.ext X [])):=by
 simp only [runP,argsE];exact qBi hact fun _=>H
theorem len_three {α:Type} {l:List α} (h:l.length=3):∃x y z,l=[x,y,z]:=by
 match l,h with
 | [x,y,z],_=>exact ⟨x,y,z,rfl⟩
theorem ext3 (hs:qEz ρ S a) (hact:act) {Γ:Nat→Option Con} {x x2 x3:Operand} {y y2 y3:Arg} {X:Ext} (hx:arg x=some y) (hx2:arg x2=some y2) (hx3:arg x3=some y3)
  (H:∀v v2 v3:SV,a.eval x=v.den ρ→a.eval x2=v2.den ρ→a.eval x3=v3.den ρ→OpOK E ρ S a o (extQ S.hp X [v,v2,v3]).toR):OpOK E ρ S a o (runP Γ S act (.ext X [y,y2,y3])):=by
 simp only [runP];split
 ·rename_i p l h1;refine qBi hact fun hp=>?_
  obtain ⟨e1,e2⟩:=qBv hs hact (xs:=[x,x2,x3]) (by simp [args,hx,hx2,hx3]) h1 hp;obtain ⟨v,v2,v3,rfl⟩:=len_three (qEq h1);simp only [List.map_cons,List.map_nil,List.cons.injEq,and_true] at e1;exact H v v2 v3 e1.1 e1.2.1 e1.2.2
 ·trivial
theorem arg_const {x:Operand} {v:Value} (h:arg x=some (.v v)) (hv:∀f,v≠.func (.func f) #[] #[]:=by intro f h; cases h):x=.const v:=by
 cases x <;> simp [arg] at h
 ·rw [h]
 ·exact (hv _ h.symm).elim
theorem oarg_none {x:Option Operand} (h:oarg x=some none):x=none:=by
 cases x with
 | none=>rfl
 | some y=>cases hy:arg y <;> simp [oarg,hy] at h
theorem prim_sound (hw0:∀i<S.hp.length,qD1 (ρ i)) (hw1:∀(h:Nat) (sb:SB),S.hp[h]?=some sb→sb.lt S.hp.length) (hs:qEz ρ S a) (hact:act) {raw:Bool} {pr:Pr} (h:prim E.P raw o.op=some pr)
  {Γ:Nat→Option Con} (hΓ:∀f C,Γ f=some C→Valid E.P f C):OpOK E ρ S a o (runP Γ S act pr):=by
 cases ho:o.op <;> rw [ho] at h <;> simp only [prim,reduceCtorEq] at h
 case move x =>
  cases hx:arg x <;> rw [hx] at h <;> simp only [Option.map_none,Option.map_some,reduceCtorEq,snJ] at h
  subst h;exact mv_ok hs hact hx (.inl ho)
 case assign x =>
  cases hx:arg x <;> rw [hx] at h <;> simp only [Option.map_none,Option.map_some,reduceCtorEq,snJ] at h
  subst h;exact mv_ok hs hact hx (.inr ho)
 case pick c x y =>
  split at h
  ·rename_i c' x' y' h1 h2 h3;cases h;exact pick_ok hs hact h1 h2 h3 ho
  ·cases h
 case binOp op t x y ty =>
  split at h
  ·rename_i x' y' h1 h2;split at h
   ·rename_i hu;cases h;simp only [runP];split
    ·rename_i p u q v h3 h4;refine qBi hact fun hp=>?_
     exact beq_ok false t ty x y u v hu (qAh hs hact h1 h3 hp.1).1 (qAh hs hact h2 h4 hp.2).1 ho
    ·trivial
   ·rename_i hu;cases h;simp only [runP];split
    ·rename_i p u q v h3 h4;refine qBi hact fun hp=>?_
     exact beq_ok true t ty x y u v hu (qAh hs hact h1 h3 hp.1).1 (qAh hs hact h2 h4 hp.2).1 ho
    ·trivial
   ·rename_i k' e' hu;split at h
    ·cases h;have hy:=arg_const h2;exact ext1 hs hact h1 fun v e1 _=>mnil_ok (neg:=false) hu e1 (by rw [hy]; rfl) ho
    ·cases h
   ·rename_i k' e' hu;split at h
    ·cases h;have hy:=arg_const h2;exact ext1 hs hact h1 fun v e1 _=>mnil_ok (neg:=true) hu e1 (by rw [hy]; rfl) ho
    ·cases h
   ·rename_i e' hu;split at h
    ·cases h;have hy:=arg_const h2;exact ext1 hs hact h1 fun v e1 _=>snil_ok (neg:=false) hu e1 (by rw [hy]; rfl) ho
    ·cases h
   ·rename_i e' hu;split at h
    ·cases h;have hy:=arg_const h2;exact ext1 hs hact h1 fun v e1 _=>snil_ok (neg:=true) hu e1 (by rw [hy]; rfl) ho
    ·cases h
   ·rename_i e hu;split at h
    ·rename_i hi;cases h;obtain ⟨j,hj⟩:=Option.isSome_iff_exists.1 hi;exact ext2 hs hact h1 h2 fun v v2 e1 e2 l1 l2=>ptrEq_ok (neg:=false) hu hj e1 e2 l1 l2 ho
    ·cases h
   ·rename_i e hu;split at h
    ·rename_i hi;cases h;obtain ⟨j,hj⟩:=Option.isSome_iff_exists.1 hi;exact ext2 hs hact h1 h2 fun v v2 e1 e2 l1 l2=>ptrEq_ok (neg:=true) hu hj e1 e2 l1 l2 ho
    ·cases h
   ·rename_i fs hu;cases hst:structEq E.P t fs with
    | none=>rw [hst] at h; cases h
    | some ks =>
     rw [hst] at h;cases h;exact ext2 hs hact h1 h2 fun v v2 e1 e2 l1 l2=>aggEq_ok (neg:=false) hu hst e1 e2 ho
   ·rename_i fs hu;cases hst:structEq E.P t fs with
    | none=>rw [hst] at h; cases h
    | some ks =>
     rw [hst] at h;cases h;exact ext2 hs hact h1 h2 fun v v2 e1 e2 l1 l2=>aggEq_ok (neg:=true) hu hst e1 e2 ho
   ·cases h;simp only [runP];split
    ·rename_i p u q v h3 h4;refine qBi hact fun hp=>?_
     exact bin_ok raw _ t ty x y u v (qAh hs hact h1 h3 hp.1).1 (qAh hs hact h2 h4 hp.2).1 ho
    ·trivial
  ·cases h
 case unOp op t x =>
  cases hx:arg x <;> rw [hx] at h <;> simp only [Option.map_none,Option.map_some,reduceCtorEq,snJ] at h
  subst h;simp only [runP];split
  ·rename_i p u h3;exact qBi hact fun hp=>un_ok op t x u (qAh hs hact hx h3 hp).1 ho
  ·trivial
 case convert s d x =>
  split at h
  ·rename_i k1 k2 x' h1 h2 h3;cases h;simp only [runP];split
   ·rename_i p k3 n h4;exact qBi hact fun hp=>conv_ok raw h1 h2 (qAh hs hact h3 h4 hp).1 ho
   ·trivial
  ·rename_i x' h1 h2 h3;cases h;exact strc_ok hs hact h1 h2 h3 ho
  ·rename_i e' x' h1 h2 h3;split at h
   ·rename_i hb;cases h;obtain ⟨e,hs1,hs2⟩:=qGu hb;exact ext1 hs hact h3 fun v e1 _=>toStr_ok hs1 hs2 h2 e1 ho
   ·cases h
  ·rename_i e1' e2' x' h1 h2 h3;split at h
   ·rename_i hb;cases h;simp only [Bool.and_eq_true,beq_iff_eq] at hb;obtain ⟨hb,rfl⟩:=hb;obtain ⟨e,hs1,hs2⟩:=qGu hb;exact ext1 hs hact h3 fun v e1 _=>fro_ok hs1 hs2 e1 ho
   ·cases h
  ·rename_i t x' h1 h2 h3;split at h
   ·rename_i i hi;split at h
    ·rename_i hz;cases h;exact ext1 hs hact h3 fun v e1 l1=>toUns_ok h1 h2 hi hz e1 l1 ho
    ·cases h
   ·cases h
  ·rename_i u x' h1 h2 h3;split at h
   ·rename_i i hi;split at h
    ·rename_i hz;cases h;exact ext1 hs hact h3 fun v e1 l1=>fromUns_ok h1 h2 hi hz e1 l1 ho
    ·cases h
   ·cases h
  ·cases h
 case nilCheck x =>
  cases hx:arg x <;> rw [hx] at h <;> simp only [Option.map_none,Option.map_some,reduceCtorEq,snJ] at h
  subst h;exact ext1 hs hact hx fun v e1 l1=>nilck_ok e1 l1 ho
 case makeMap t r =>
  split at h
  ·split at h
   ·cases h;exact ext0 (mkmap_ok ho) hact
   ·cases h
  ·cases h
 case lookup t x i ok =>
  split at h
  ·rename_i x' i' h1 h2;split at h
   ·rename_i hn;cases h;exact ext2 hs hact h1 h2 fun v v2 e1 e2 _ _=>mget_ok hn e1 e2 ho
   ·cases h
  ·cases h
 case mapUpdate t m k v =>
  split at h
  ·rename_i m' k' v' h1 h2 h3;split at h
   ·rename_i hn;cases h;exact ext3 hs hact h1 h2 h3 fun v v2 v3 e1 e2 e3=>mput_ok hn e1 e2 e3 ho
   ·cases h
  ·cases h
 case makeSlice t l c =>
  split at h
  ·rename_i e l' c' h1 h2 h3;split at h
   ·rename_i i z h4 h5;split at h
    ·rename_i hc;cases h;simp only [Bool.and_eq_true,beq_iff_eq,decide_eq_true_eq] at hc;exact ext2 hs hact h2 h3 fun v v2 e1 e2 _ _=>mkslice_ok h1 h4 h5 hc.1 hc.2 rfl e1 e2 ho
    ·cases h
   ·cases h
  ·cases h
 case alloc e =>
  cases hz:qCb E.P e <;> rw [hz] at h <;> simp only [Option.map_none,Option.map_some,reduceCtorEq,snJ] at h
  subst h;exact alloc_ok hz ho
 case box e x =>
  split at h
  ·rename_i i x' h1 h2;cases h;exact box_ok hw0 hs hact h2 ho
  ·cases h
 case build t ps =>
  split at h
  ·rename_i fs z h1 h2;split at h
   ·rename_i hall;cases hp:places E.P fs.toList ps.toList <;> rw [hp] at h <;> simp only [Option.map_none,Option.map_some,reduceCtorEq,snJ] at h
    subst h;exact build_ok hw0 hs hact h1 h2 hp hall ho
   ·cases h
  ·rename_i n e z h1 h2;split at h
   ·rename_i i h3;cases hp:placesA i.size ps.toList <;> rw [hp] at h <;> simp only [Option.map_none,Option.map_some,reduceCtorEq,snJ] at h
    subst h;exact buildA_ok hw0 hs hact h1 h2 h3 hp ho
   ·cases h
  ·cases h
 case buildSlice t n ps =>
  split at h
  ·rename_i e h1;split at h
   ·rename_i i z rs h2 h3 h4;split at h
    ·rename_i hc;cases h;simp only [Bool.and_eq_true,beq_iff_eq,decide_eq_true_eq] at hc;exact bslice_ok hw0 hs hact h1 h2 h3 h4 hc.1.1 hc.1.2 hc.2 ho
    ·split at h
     ·rename_i hc;cases h;simp only [Bool.and_eq_true,beq_iff_eq,List.isEmpty_iff] at hc;obtain ⟨⟨⟨_,rfl⟩,rfl⟩,hfl⟩:=hc;exact bslice0_ok h1 h2 h4 hfl ho
     ·cases h
   ·cases h
  ·cases h
 case load t x =>
  split at h
  ·rename_i x0 g;split at h
   ·rename_i h1;cases h;simp only [runP,argsE];exact qBi hact fun hp=>tab_ok h1 ho
   ·cases h
  ·split at h
   ·rename_i n x' h1 h2;cases h;simp only [runP];split
    ·rename_i p s h3;refine qBi hact fun hp=>load_ok hw1 h1 (qAh hs hact h2 h3 hp).1 ho
    ·trivial
   ·cases h
 case store t x y =>
  split at h
  ·rename_i i x' y' h1 h2 h3;cases h;simp only [runP];split
   ·rename_i p d q v h4 h5;split
    ·rename_i l hl;refine qBi hact fun hp=>?_
     obtain ⟨e1,_⟩:=qAh hs hact h2 h4 hp.1;obtain ⟨e2,e3⟩:=qAh hs hact h3 h5 hp.2;obtain ⟨e4,e5⟩:=SV.cells_den hw0 hl e3;exact store_ok hw0 hw1 h1 e1 rfl (by rw [e2]; exact e4) e5 ho
    ·trivial
   ·trivial
  ·cases h
 case fieldAddr t x f =>
  split at h
  ·rename_i fs x' h1 h2;split at h
   ·rename_i fd h3;split at h
    ·rename_i ti h4;split at h
     ·cases h
     ·rename_i hne;cases h;simp only [runP];split
      ·rename_i p s h5;refine qBi hact fun hp=>?_
       obtain ⟨e1,e2⟩:=qAh hs hact h2 h5 hp;exact faddr_ok h1 h3 h4 hne e1 e2 ho
      ·trivial
    ·cases h
   ·cases h
  ·cases h
 case field t x f =>
  split at h
  ·rename_i fs x' h1 h2;split at h
   ·rename_i fd h3;cases hn:qDu E.P fd.type <;> rw [hn] at h <;> simp only [Option.map_none,Option.map_some,reduceCtorEq,snJ] at h
    subst h;simp only [runP];split
    ·rename_i p l h5;exact field_ok h1 h3 hn (fun hp=>(qAh hs hact h2 h5 hp).1) (fun hp=>(qAh hs hact h2 h5 hp).2) ho
    ·trivial
   ·cases h
  ·cases h
 case indexAddr t x y =>
  split at h
  ·rename_i e x' y' h1 h2 h3;split at h
   ·rename_i ti h4;cases h;simp only [runP];split
    ·rename_i p s q k i h5 h6;refine qBi hact fun hp=>?_
     obtain ⟨e1,e2⟩:=qAh hs hact h2 h5 hp.1;exact iaddr_ok h1 h4 e1 e2 (qAh hs hact h3 h6 hp.2).1 ho
    ·trivial
   ·cases h
  ·rename_i n e x' k h1 h2 h3;split at h
   ·rename_i ti h4;split at h
    ·rename_i hk;cases h;simp only [runP];split
     ·rename_i p s h5;refine qBi hact fun hp=>?_
      obtain ⟨e1,e2⟩:=qAh hs hact h2 h5 hp;have e3:a.eval y=.int .i64 k:=by
       cases y with
       | const u=>simp only [arg,snJ,Arg.v.injEq] at h3; rw [h3]; rfl
       | func f=>simp [arg] at h3
       | _=>simp only [arg,reduceCtorEq,snJ] at h3
      exact faddrA_ok h1 h4 hk.2 e3 e1 e2 ho
     ·trivial
    ·cases h
   ·cases h
  ·rename_i n e x' j h1 h2 h3;split at h
   ·rename_i ti h4;cases h;simp only [runP];split
    ·rename_i p vs h6;refine qBi hact fun hp=>?_
     have hxs:args [x,y]=some [x',.t j]:=by simp only [args,h2,h3]
     obtain ⟨e1,e2'⟩:=qBv hs hact hxs h6 hp;have hl:=qEq h6;match vs,hl with
     | [v,u],_ =>
      simp only [List.map_cons,List.map_nil,List.cons.injEq,and_true] at e1;exact pidx_ok h1 h4 e1.1 (e2' v (by simp)) e1.2 ho
    ·trivial
   ·cases h
  ·cases h
 case index t x y =>
  split at h
  ·rename_i x' y' h1 h2 h3;cases h;simp only [runP];split
   ·rename_i p s q k i h5 h6;exact index_ok h1 (fun hp=>⟨(qAh hs hact h2 h5 hp.1.1).1,(qAh hs hact h3 h6 hp.1.2).1,hp.2 hact⟩) ho
   ·trivial
  ·rename_i n e x' y' h1 h2 h3;split at h
   ·rename_i ti n2 e2 h4 h5;split at h
    ·cases h;simp only [runP];split
     ·rename_i p vs h6;refine qBi hact fun hp=>?_
      have hxs:args [x,y]=some [x',y']:=by simp only [args,h2,h3]
      obtain ⟨e1,e2'⟩:=qBv hs hact hxs h6 hp;have hl:=qEq h6;match vs,hl with
      | [v,u],_ =>
       simp only [List.map_cons,List.map_nil,List.cons.injEq,and_true] at e1;exact aidx_ok h1 h4 h5 e1.1 e1.2 ho
     ·trivial
    ·cases h
   ·cases h
  ·cases h
 case slice t x lo hi mx =>
  split at h
  ·rename_i x' lo' hi' h1 h2 h3 h4;cases h;simp only [runP];split
   ·rename_i p s h5;split
    ·rename_i q l r hh h6 h7;exact sub_str_ok hs hact h1 (fun hp=>(qAh hs hact h2 h5 hp).1) h3 h4 h6 h7 ho
    ·trivial
   ·trivial
  ·rename_i e x' lo' hi' h1 h2 h3 h4;split at h
   ·rename_i ti h0;cases h;simp only [runP];split
    ·rename_i p s h5;split
     ·rename_i n hn;split
      ·rename_i q l r hh h6 h7;exact sub_ok hs hact h1 h0 (fun hp=>(qAh hs hact h2 h5 hp).1) hn (loB_spec h3) h4 h6 h7 ho
      ·trivial
     ·trivial
    ·trivial
   ·cases h
  ·rename_i n e x' h1 h2 h3 h4;split at h
   ·rename_i ti h0;cases h;simp only [runP];split
    ·rename_i p vs h6;refine qBi hact fun hp=>?_
     have hxs:args [x]=some [x']:=by simp only [args,h2]
     obtain ⟨e1,e2'⟩:=qBv hs hact hxs h6 hp;have hl:=qEq h6;match vs,hl with
     | [v],_ =>
      simp only [List.map_cons,List.map_nil,List.cons.injEq,and_true] at e1;have q1:=oarg_none h3;have q2:=oarg_none h4;subst q1 q2;exact asl_ok h1 h0 e1 (e2' v (by simp)) ho
    ·trivial
   ·cases h
  ·cases h
 case makeFunc fn first captured =>
  split at h
  ·rename_i f l h1;cases h;simp only [runP];split
   ·rename_i p vs h6;refine qBi hact fun hp=>?_
    obtain ⟨e1,e2'⟩:=qBv hs hact h1 h6 hp;exact mkfn_ok e1 e2' ho
   ·trivial
  ·cases h
 case makeInterface t x =>
  split at h
  ·rename_i fs hu;cases hx:arg x <;> rw [hx] at h <;> simp only [Option.map_none,Option.map_some,reduceCtorEq,snJ] at h
   subst h;exact ext1 hs hact hx fun v e1 _=>mkif_ok hu e1 ho
  ·cases h
 case panic x =>
  cases hx:arg x <;> rw [hx] at h <;> simp only [Option.map_none,Option.map_some,reduceCtorEq,snJ] at h
  subst h;trivial
 case extract x i =>
  cases hx:arg x <;> rw [hx] at h <;> simp only [Option.map_none,Option.map_some,reduceCtorEq,snJ] at h
  subst h;exact extract_ok hs hact hx ho
 case call c =>
  obtain ⟨p0,h0,he⟩:=Option.map_eq_some_iff.1 h;subst he;rw [runP_raw];replace h:=h0;clear h0;obtain ⟨callee,cargs,ctypes⟩:=c;simp only [callPr] at h;split at h
  ·rename_i f;split at h
   ·rename_i fn hf;split at h
    ·rename_i hbody;split at h;rename_i hc;have hc:fn.body.isSome=true∧¬fn.name = "runtime.NumGoroutine" := ⟨hbody,by simpa using hc⟩
     cases hxs:args cargs.toList <;> rw [hxs] at h <;> simp only [Option.map_none,Option.map_some,reduceCtorEq,snJ] at h
     subst h;exact call_ok hs hact hf hc.1 hc.2 rfl hxs ho hΓ
     ·cases h
    ·rename_i hbody;split at h
     ·rename_i horg;have ho2:fn.origin=fn.name∨fn.origin = "" := by simpa using horg
      have hb:fn.body=none:=by simpa using hbody
      split at h
      ·rename_i X l hX hl;cases h;have hlen:=args_len hl;simp only [runP];split
       ·rename_i p vs h1;refine qBi hact fun hp=>?_
        obtain ⟨e1,e2⟩:=qBv hs hact hl h1 hp;have hlen2:=qEq h1;unfold externExt at hX;split at hX
        ·rename_i hn;have hn':fn.name = "internal/abi.NoEscape" := by simpa using hn
         cases hX;by_cases hvl:vs.length=1
         ·obtain ⟨v,rfl⟩:=List.length_eq_one_iff.1 hvl;obtain ⟨x,hca⟩:=List.length_eq_one_iff.1 (show cargs.toList.length=1 by omega);rw [hca] at e1;simp only [List.map_cons,List.map_nil,List.cons.injEq,and_true] at e1;exact noEsc_ok hf hb hn' ho2 rfl hca e1 (e2 v (by simp)) ho
         ·rw [ext_noEsc_len hvl]; trivial
        ·split at hX
         ·rename_i hn;have hn':fn.name = "internal/bytealg.abigen_runtime_cmpstring" := by simpa using hn
          cases hX;by_cases hvl:vs.length=2
          ·obtain ⟨v,u,rfl⟩:=len_two hvl;obtain ⟨x,y,hca⟩:=len_two (show cargs.toList.length=2 by omega);rw [hca] at e1;simp only [List.map_cons,List.map_nil,List.cons.injEq,and_true] at e1;exact cmpStr_ok hf hb hn' ho2 rfl hca e1.1 e1.2 ho
          ·rw [ext_cmp_len hvl]; trivial
         ·split at hX
          ·rename_i hn;have hn':fn.name = "internal/bytealg.IndexByteString" := by simpa using hn
           cases hX;by_cases hvl:vs.length=2
           ·obtain ⟨v,u,rfl⟩:=len_two hvl;obtain ⟨x,y,hca⟩:=len_two (show cargs.toList.length=2 by omega);rw [hca] at e1;simp only [List.map_cons,List.map_nil,List.cons.injEq,and_true] at e1;exact idxByte_ok hf hb hn' ho2 rfl hca e1.1 e1.2 ho
           ·rw [ext_idx_len hvl]; trivial
          ·split at hX
           ·rename_i hn;have hn':fn.name = "math.Float32bits" := by simpa using hn
            cases hX;by_cases hvl:vs.length=1
            ·obtain ⟨v,rfl⟩:=List.length_eq_one_iff.1 hvl;obtain ⟨x,hca⟩:=List.length_eq_one_iff.1 (show cargs.toList.length=1 by omega);rw [hca] at e1;simp only [List.map_cons,List.map_nil,List.cons.injEq,and_true] at e1;exact f32bits_ok hf hb hn' ho2 rfl hca e1 ho
            ·rw [ext_f32_len hvl]; trivial
           ·cases hX
       ·trivial
      ·cases h
     ·cases h
   ·cases h
  ·simp only [Option.map_eq_some_iff] at h;obtain ⟨_,_,rfl⟩:=h;trivial
  ·split at h
   ·rename_i x t h1 h2;have hca:cargs = #[x]:=by apply Array.toList_inj.1; rw [h1]
    have hct:ctypes = #[t]:=by apply Array.toList_inj.1; rw [h2]
    subst hca hct;split at h
    ·rename_i hb;cases hx:arg x <;> rw [hx] at h <;> simp only [Option.map_none,Option.map_some,reduceCtorEq,snJ] at h
     subst h;obtain ⟨e,hs1,hs2⟩:=qGu hb;exact ext1 hs hact hx fun v e1 l1=>sdata_ok hs1 rfl rfl e1 l1 ho
    ·cases h
   ·cases h
  ·split at h
   ·rename_i x y t t' h1 h2;have hca:cargs = #[x,y]:=by apply Array.toList_inj.1; rw [h1]
    have hct:ctypes = #[t,t']:=by apply Array.toList_inj.1; rw [h2]
    subst hca hct;split at h
    ·rename_i e hu;split at h
     ·rename_i hb;split at h
      ·rename_i x' y' h3 h4;cases h;exact ext2 hs hact h3 h4 fun v v2 e1 e2 _ _=>ustr_ok hu (by simpa using hb) rfl rfl rfl e1 e2 ho
      ·cases h
     ·cases h
    ·cases h
   ·cases h
  ·split at h
   ·rename_i x t h1 h2;have hca:cargs = #[x]:=by apply Array.toList_inj.1; rw [h1]
    have hct:ctypes = #[t]:=by apply Array.toList_inj.1; rw [h2]
    subst hca hct;split at h
    ·rename_i hu;cases hx:arg x <;> rw [hx] at h <;> simp only [Option.map_none,Option.map_some,reduceCtorEq,snJ] at h
     subst h;exact lenS_ok hs hact hu hx ho
    ·rename_i e hu;cases hx:arg x <;> rw [hx] at h <;> simp only [Option.map_none,Option.map_some,reduceCtorEq,snJ] at h
     subst h;exact len_ok hs hact hu hx ho
    ·cases h
   ·cases h
  ·split at h
   ·rename_i x y h1;have hca:cargs = #[x,y]:=by apply Array.toList_inj.1; rw [h1]
    subst hca;split at h
    ·rename_i x' y' h2 h3;cases h;simp only [runP];split
     ·rename_i p u q v h4 h5;refine qBi hact fun hp=>?_
      exact mm_ok false u v rfl rfl (qAh hs hact h2 h4 hp.1).1 (qAh hs hact h3 h5 hp.2).1 ho
     ·trivial
    ·cases h
   ·cases h
  ·split at h
   ·rename_i x y h1;have hca:cargs = #[x,y]:=by apply Array.toList_inj.1; rw [h1]
    subst hca;split at h
    ·rename_i x' y' h2 h3;cases h;simp only [runP];split
     ·rename_i p u q v h4 h5;refine qBi hact fun hp=>?_
      exact mm_ok true u v rfl rfl (qAh hs hact h2 h4 hp.1).1 (qAh hs hact h3 h5 hp.2).1 ho
     ·trivial
    ·cases h
   ·cases h
  ·split at h
   ·rename_i s x t t' h1 h2;have hca:cargs = #[s,x]:=by apply Array.toList_inj.1; rw [h1]
    have hct:ctypes = #[t,t']:=by apply Array.toList_inj.1; rw [h2]
    subst hca hct;split at h
    ·rename_i htt;have htt':t=t':=by simpa using htt
     subst htt';split at h
     ·rename_i e hu;split at h
      ·rename_i i z s' x' h3 h4 h5 h6;split at h
       ·rename_i hc;cases h;simp only [Bool.and_eq_true,beq_iff_eq,decide_eq_true_eq] at hc;simp only [runP];split
        ·rename_i p sv q xv h7 h8;refine qBi hact fun hp=>?_
         exact append_ok hu h3 h4 hc.1 rfl (qAh hs hact h5 h7 hp.1).1 (qAh hs hact h6 h8 hp.2).1 ho
        ·trivial
       ·cases h
      ·cases h
     ·cases h
    ·split at h
     ·rename_i e s' x' hu hu2 h3 h4;split at h
      ·rename_i hb;cases h;exact ext2 hs hact h3 h4 fun v v2 e1 e2 _ _=>appStr_ok hu hu2 hb e1 e2 ho
      ·cases h
     ·cases h
   ·cases h
  ·cases h
end
theorem put_get {a:Act} {d:Nat} {v:Value} {i:Nat} (hd:d<a.tmps.size):(a.put (some d) v).tmps[i]?=if d=i then some v else a.tmps[i]?:=by
 simp only [Act.put];by_cases h:d=i
 ·subst h;simp [hd]
 ·simp [h,Array.getElem?_setIfInBounds_ne h]
theorem put_size (a:Act) (d:Option Nat) (v:Value):(a.put d v).tmps.size=a.tmps.size:=by cases d <;> simp [Act.put]
theorem put_defers (a:Act) (d:Option Nat) (v:Value):(a.put d v).defers=a.defers:=by cases d <;> rfl
section
variable {E:Env} {Γ:Nat→Option Con} {raws:List Nat} {nv:Nat}
theorem Sat.next {ρ ρ':Nat→Value} {S:St} {a:Act} {w w':World} (h:Sat E ρ S a w) {act:Prop} {d:Option Nat} {v:SV} {u:Value} {hp:List SB} (hd:dstOk E.nt d) (hag:∀i<S.hp.length,ρ' i=ρ i) (hlen:S.hp.length≤hp.length)
  (hc:Cls E ρ' hp w') (hv1:act→u=v.den ρ') (hv2:¬act→u=undef) (hlt:act→v.lt hp.length):Sat E ρ' (putD nv S d act v hp) (a.put d u) w':=by
 have hhp:(putD nv S d act v hp).hp=hp:=by cases d <;> rfl
 refine ⟨by rw [put_defers]; exact h.nd,by rw [put_size]; exact h.sz,?_,by rw [hhp]; exact hc.1,hc.2,by rw [hhp]; exact Nat.le_trans h.n0 hlen,fun i hi=>(hag i (Nat.lt_of_lt_of_le hi h.n0)).trans (h.ag i hi)⟩;intro i c x hx;rw [hhp];have old:∀c x,getE S.sl i=some (c,x)→(c→a.tmps[i]?=some (x.den ρ'))∧(¬c→a.tmps[i]?=some undef)∧(c→x.lt hp.length):=fun c x hx=>by
  obtain ⟨h1,h2,h3⟩:=h.sl i c x hx;exact ⟨fun hc=>by rw [h1 hc,SV.den_congr hag (h3 hc)],h2,fun hc=>SV.lt_mono hlen (h3 hc)⟩
 cases d with
 | none=>exact old c x hx
 | some d =>
  simp only [putD,getE_putE] at hx;have hd':d<a.tmps.size:=by rw [h.sz]; exact hd
  rw [put_get hd'];by_cases hdi:d=i
  ·rw [if_pos hdi] at hx ⊢;simp only [snJ,Prod.mk.injEq] at hx;obtain ⟨rfl,rfl⟩:=hx;exact ⟨fun hc=>by rw [hv1 hc],fun hc=>by rw [hv2 hc],hlt⟩
  ·rw [if_neg hdi] at hx ⊢;exact old c x hx
theorem qHh {S:St} {ρ:Nat→Value} {a:Act} {w:World} (h:Sat E ρ S a w) {P:Program} {ops:Array Oper} {o:Oper} {io:IOp} (hc:oper P raws ops o=some io) {act:Prop} (ha:actOf S io.g=some act) :
  (Region.wanted o (yielded ops a.tmps)=true↔act)∧io.d=o.dst:=by
 unfold oper at hc;split at hc
 ·rename_i hg;cases hc;simp only [actOf,snJ] at ha;subst ha;simp [Region.wanted,hg]
 ·rename_i j b hg;split at hc
  ·rename_i q hq;split at hc
   ·rename_i s hs;cases hc;simp only [actOf] at ha;split at ha
    ·rename_i c x hx;simp only [snJ] at ha;subst ha;obtain ⟨h1,h2,_⟩:=h.sl s c _ hx;refine ⟨?_,rfl⟩;simp only [Region.wanted,hg,yielded,hq,obS,hs];by_cases hcc:c
     ·rw [h1 hcc];simp [SV.den,SC.den,S0.den,hcc]
     ·rw [h2 hcc];simp [undef,hcc]
    ·cases ha
   ·cases hc
  ·cases hc
theorem oper_prim {P:Program} {ops:Array Oper} {o:Oper} {io:IOp} (h1:oper P raws ops o=some io):∃raw,io.p=qHb P raw o.op:=by
 unfold oper at h1;split at h1
 ·cases h1;exact ⟨_,rfl⟩
 ·split at h1
  ·split at h1
   ·cases h1;exact ⟨_,rfl⟩
   ·cases h1
  ·cases h1
section
variable {E:Env} {ρ:Nat→Value} {S:St} {a:Act} {o:Oper} {act:Prop}
theorem HpSat.drew {X:Nat→Prop} {w0 w:World} {hp:List SB} (h:HpSat X w0 w ρ hp):HpSat X w0 w.drew ρ hp :=
 ⟨h.ref,fun i sb hi=>SB.sat_keep (h.sat i sb hi) (fun _ _ _=>rfl) (fun _ _=>rfl) (fun _ _ _=>rfl),h.lt,h.apart,h.tab⟩
theorem Stays.drew {X:Nat→Prop} {w w':World} (h:Stays X w w'):Stays X w w'.drew:=⟨h.os,h.output,h.size,h.block⟩
theorem Cls.drew {hp:List SB} {w:World} (h:Cls E ρ hp w):Cls E ρ hp w.drew:=⟨h.1.drew,h.2.drew⟩
theorem any_of_run {p:Prop} {k:FloatKind} (h:p→∀w,∃b w',(execOp a.eval o).run E.P w=.ok (.value (.float k b)) w'∧(w'=w∨w'=w.drew)):OpOK E ρ S a o (.any p k):=by
 intro hp w hw K Q hK;obtain ⟨b,w',h1,h2⟩:=h hp w;unfold Oper.wp;rw [h1];refine hK b w' ?_;rcases h2 with rfl | rfl
 ·exact hw
 ·exact hw.drew
theorem qGy {P:Program} (w:World) (q:Question):∃n w',(choose q).run P w=.ok n w'∧(w'=w∨w'=w.drew):=by
 by_cases h:q.forced=true
 ·exact ⟨0,w,by simp [h],.inl rfl⟩
 ·exact ⟨_,w.drew,by simp [h]; rfl,.inr rfl⟩
theorem run_arith_any {P:Program} (w:World) {op:BinOp} (h:arithB op=true) (k:FloatKind) (x y:Nat):∃b w',(Op.floatArith op k x y).run P w=.ok (.float k b) w'∧(w'=w∨w'=w.drew):=by
 obtain ⟨n,w',h1,h2⟩:=qGy (P:=P) w (.nanBits k x y);cases op <;> simp only [arithB,Bool.false_eq_true] at h
 all_goals
  simp only [Op.floatArith,pure_bind];split
  ·exact ⟨_,_,rfl,.inl rfl⟩
  ·exact ⟨n,w',by simp [h1],h2⟩
theorem run_f2f_any {P:Program} (w:World) (s k:FloatKind) (x:Nat):∃b w',(Conv.floatToFloat s x k).run P w=.ok (.float k b) w'∧(w'=w∨w'=w.drew):=by
 unfold Conv.floatToFloat;split
 ·exact ⟨_,_,rfl,.inl rfl⟩
 ·split
  ·obtain ⟨n,w',h1,h2⟩:=qGy (P:=P) w (.nanConv k x);exact ⟨n,w',by simp [h1],h2⟩
  ·exact ⟨_,_,rfl,.inl rfl⟩
  ·dsimp only;split
   ·obtain ⟨n,w',h1,h2⟩:=qGy (P:=P) w (.floatToFloat x);exact ⟨n,w',by simp [h1],h2⟩
   ·exact ⟨_,_,rfl,.inl rfl⟩
theorem floP_sound (hs:qEz ρ S a) (hact:act) {pr:Pr} (h:floP E.P o.op=some pr) {Γ:Nat→Option Con}:OpOK E ρ S a o (runP Γ S act pr):=by
 unfold floP at h;split at h
 ·rename_i op t x y ty ho;split at h
  ·rename_i x' y' k hx hy hk;cases hb:arithB op with
   | false=>rw [hb] at h; cases h
   | true =>
    rw [hb] at h;simp only [cnT,snJ] at h;subst h;simp only [runP,hb,Bool.and_true];split
    ·rename_i p k1 b1 q k2 b2 h1 h2;by_cases e1:k1=k
     ·by_cases e2:k2=k
      ·subst e1 e2;simp only [decide_true,Bool.and_true,cnT];refine any_of_run fun hp w=>?_
       obtain ⟨a1,_⟩:=qAh hs hact hx h1 hp.1;obtain ⟨a2,_⟩:=qAh hs hact hy h2 hp.2;obtain ⟨b,w',r1,r2⟩:=run_arith_any (P:=E.P) w hb k2 b1 b2;refine ⟨b,w',?_,r2⟩;unfold execOp;simp only [ho,a1,a2,SV.den,SC.den,S0.den];cases op <;> simp only [arithB,Bool.false_eq_true] at hb <;> simp [eqGuard,binOp,r1]
      ·simp only [e2,decide_false,Bool.and_false,cnF]; trivial
     ·simp only [e1,decide_false,Bool.false_and,cnF]; trivial
    ·trivial
  ·cases h
 ·rename_i src dst x ho;split at h
  ·rename_i x' q k hx hs' hd;simp only [snJ] at h;subst h;simp only [runP];split
   ·rename_i p q' n h1;refine any_of_run fun hp w=>?_
    obtain ⟨a1,_⟩:=qAh hs hact hx h1 hp;refine ⟨k.nearest n,w,?_,.inl rfl⟩;unfold execOp;simp [ho,a1,SV.den,SC.den,S0.den,convert,run_underlying hs',run_underlying hd,Conv.intToFloat]
   ·trivial
  ·rename_i x' s k hx hs' hd;simp only [snJ] at h;subst h;simp only [runP];split
   ·rename_i p k1 b1 h1;by_cases e1:k1=s
    ·subst e1;simp only [decide_true,cnT];refine any_of_run fun hp w=>?_
     obtain ⟨a1,_⟩:=qAh hs hact hx h1 hp;obtain ⟨b,w',r1,r2⟩:=run_f2f_any (P:=E.P) w k1 k b1;refine ⟨b,w',?_,r2⟩;unfold execOp;simp [ho,a1,SV.den,SC.den,S0.den,convert,run_underlying hs',run_underlying hd,r1]
    ·simp only [e1,decide_false,cnF]; trivial
   ·trivial
  ·cases h
 ·cases h
end
theorem primB_sound {S:St} {a:Act} {o:Oper} {act:Prop} {ρ:Nat→Value} (hw0:∀i<S.hp.length,qD1 (ρ i)) (hw1:∀(h:Nat) (sb:SB),S.hp[h]?=some sb→sb.lt S.hp.length) (hs:qEz ρ S a) (hact:act) {raw:Bool} {pr:Pr} (h:pr=qHb E.P raw o.op)
  (hΓ:∀f C,Γ f=some C→Valid E.P f C):OpOK E ρ S a o (runP Γ S act pr):=by
 unfold qHb at h;split at h
 ·rename_i p hp;subst h;exact floP_sound hs hact hp
 ·split at h
  ·rename_i p hp;subst h;exact prim_sound hw0 hw1 hs hact hp hΓ
  ·subst h;trivial
end
def S0.ltB (n:Nat):S0→Bool
 | .val _=>true
 | .hd h _=>Nat.blt h n
 | .own h=>Nat.blt h n
 | .el h _ _ _=>Nat.blt h n
 | .opt _ h _=>Nat.blt h n
 | .bsl k=>Nat.blt k n
 | .prj k _ _=>Nat.blt k n
 | .pel k _ _ _=>Nat.blt k n
def SC.ltB (n:Nat):SC→Bool
 | .o x=>x.ltB n
 | .agg l=>l.all (S0.ltB n)
def SV.ltB (n:Nat):SV→Bool
 | .c x=>x.ltB n
 | .tup l=>l.all (SC.ltB n)
theorem S0.lt_of {n:Nat} {x:S0} (h:x.ltB n=true):x.lt n:=by cases x <;> simp_all [S0.ltB,S0.lt,Nat.blt_eq]
theorem SC.lt_of {n:Nat} {x:SC} (h:x.ltB n=true):x.lt n:=by
 cases x with
 | o x=>exact S0.lt_of h
 | agg l=>exact fun y hy=>S0.lt_of (List.all_eq_true.1 h y hy)
theorem SV.lt_of {n:Nat} {x:SV} (h:x.ltB n=true):x.lt n:=by
 cases x with
 | c x=>exact SC.lt_of h
 | tup l=>exact fun y hy=>SC.lt_of (List.all_eq_true.1 h y hy)
end Go.Eng
