import Derived.SevenTiedAt
import Derived.Deep.DeepHandedRow
import Derived.Lib.LaidTab
import Derived.WalkKit
import Derived.ProofKit
import Derived.OpenShut
import Derived.ShutString
import Derived.ChangeOld
import Derived.Below
import Derived.Carry
import Derived.SizedLaws
import Derived.Test.YtngikdcgcakaaaaDoorKeysetBindsWalk
import Derived.Test.YtngikdcgcakaaaaDoorCards
import Derived.Test.YtngikdcgcakaaaaDoorTie
namespace Go.Proofs.YtngikdcgcakaaaaDoor.keysetBinds
open Go.ChangeShapes Go.WideShapes Go.ChangeAt Go.RowKit
open Go.ChangeMaps (open_string shut_string)
set_option linter.unusedVariables false
set_option linter.unusedSimpArgs false
theorem own:ownKnob Tryd.prog.godebug=none:=by kernel_rfl
theorem laidOut:laidOutB Tryd.prog=true:=by kernel_rfl
set_option maxRecDepth 100000 in
theorem contract(H:Type)(enc:TypeId × Value->H)(W:World)(base:Nat)(args:Array Value)(ds gs:List (DataW H))(before:List MemPlace)
  (hval:∀(j:Nat) t v,Tryd.f4.params[j]?=some t->args[j]?=some v->Value.okWide Tryd.prog W .any base t v)
  (hW:DataW.Whole enc Tryd.prog Tryd.f4.params.toList Rows.keysetBindsSpec.vars false W args.toList ds gs before)
  (hk:Rows.uptoSmall H (ds++gs)=true) (hL:laidMetH Tryd.prog Rows.keysetBindsUptoRow.laid W) :
  Calls Tryd.prog 4 args W λe W'=>∃v,e=.returned v/\Rows.keysetBindsSpec.post enc Tryd.prog Tryd.f4 false true false false W args v W':=by
 have hb:Rows.uptoBulkAll (ds++gs)<=1048576:=of_decide_eq_true hk;clear hk;have hW':=hW;obtain⟨p,q,hA0,hV,rfl,hfz,hnd⟩:=hW;have hA:DataW.TrodAll enc Tryd.prog W 0 (λ_=>true) true Tryd.f4.params.toList args.toList ds p:=hA0;rw[Tryd.params4] at hA hval;obtain⟨v0,vs0,d0,ds0,p0,q0,hargs,rfl,rfl,h0,r0⟩:=trodAll_cons hA;obtain⟨v1,vs1,d1,ds1,p1,q1,rfl,rfl,rfl,h1,r1⟩:=trodAll_cons r0;obtain⟨rfl,rfl,rfl⟩:=trodAll_nil r1;obtain rfl:args = #[v0,v1]:=by cases args;simp_all
 obtain⟨rfl,rfl⟩:=trodVars_none hV;have k0:=h0;have lt0:∀x∈p0,x.block<W.heap.size:=by obtain⟨m,hm⟩:=k0;exact DataW.trod_lt m _ _ _ hm
 have k1:=h1;have lt1:∀x∈p1,x.block<W.heap.size:=by obtain⟨m,hm⟩:=k1;exact DataW.trod_lt m _ _ _ hm
 have z0:Rows.uptoBulk d0<=1048576:=by simp only[List.append_nil,List.cons_append,List.nil_append,Rows.uptoBulkAll] at hb;omega
 obtain⟨value0V,value0,kty0,kid0,hasKid0,use0,hasUse0,alg0,hasAlg0,ops0V,ops0,hasOps0,rfl,wvalue0,wkty0,wkid0,wuse0,walg0,wops0⟩:=openVS_entry (hval 0 30 v0 rfl rfl) h0 z0;obtain⟨a1,rfl,rfl,rfl,wa1'⟩:=open_int Tryd.underlying22 (hval 1 22 v1 rfl rfl) h1;have wa1:=Go.Eng.i64_of_wf wa1';clear hA0;simp only[List.append_nil,Rows.uptoBulkAll,Rows.uptoBulk,Array.length_toList] at hb;refine(keysetBinds_walk value0V value0 kty0 kid0 hasKid0 use0 hasUse0 alg0 hasAlg0 ops0V ops0 hasOps0 a1 W wvalue0 wkty0 wkid0 wuse0 walg0 wops0 wa1 (keysetBinds_tabs hL)).mono λe W' ⟨he,bel⟩=>?_
 subst he;exact⟨_,rfl,_,_,_,[],_,[],hW',trodAll_mk1 (shut_bool Tryd.underlying4 _),(trodAll_cons_mk (Go.Eng.LowB.trod laidOut (by kernel_rfl) (of_decide_eq_true (by kernel_rfl)) k0 bel lt0) (trodAll_cons_mk (Go.Eng.LowB.trod laidOut (by kernel_rfl) (of_decide_eq_true (by kernel_rfl)) k1 bel lt1) trodAll_mk0)),rfl,bel.frame _,λh=>by cases h⟩
noncomputable def tab_signet_keyset_names:Array Value := #[.string ⟨#[]⟩,.string ⟨#[72,83,50,53,54]⟩,.string ⟨#[72,83,51,56,52]⟩,.string ⟨#[72,83,53,49,50]⟩,.string ⟨#[82,83,50,53,54]⟩,.string ⟨#[82,83,51,56,52]⟩,.string ⟨#[82,83,53,49,50]⟩,.string ⟨#[80,83,50,53,54]⟩,.string ⟨#[80,83,51,56,52]⟩,.string ⟨#[80,83,53,49,50]⟩,.string ⟨#[69,83,50,53,54]⟩,.string ⟨#[69,83,51,56,52]⟩,.string ⟨#[69,100,68,83,65]⟩]
noncomputable def laidWorld(os:Os):World :=
 { World.holding Tryd.prog os ⟨#[],#[],[]⟩ with heap:=((World.holding Tryd.prog os ⟨#[],#[],[]⟩).heap).modify 0 (λ| .cells _ t frozen=>.cells tab_signet_keyset_names t frozen | o=>o) }
theorem laid_met(os:Os):laidMet Tryd.prog Rows.keysetBindsUptoRow.laid ((laidWorld os).forCall (λ_ _=>0) ⟨#[],#[.agg #[.slice none 0 0,.int .i64 0,.string ⟨#[]⟩,.bool false,.string ⟨#[]⟩,.bool false,.string ⟨#[]⟩,.bool false,.slice none 0 0,.bool false],.int .i64 0],[]⟩).memory :=
 laidMet_of_run' 8 (by kernel_rfl) (by kernel_rfl)
theorem reads(os:Os){H:Type}(enc:TypeId × Value->H):∃places,DataW.whole enc Tryd.prog ((laidWorld os).forCall (λ_ _=>0) ⟨#[],#[.agg #[.slice none 0 0,.int .i64 0,.string ⟨#[]⟩,.bool false,.string ⟨#[]⟩,.bool false,.string ⟨#[]⟩,.bool false,.slice none 0 0,.bool false],.int .i64 0],[]⟩).memory Tryd.f4.params.toList Rows.keysetBindsSpec.vars false #[.agg #[.slice none 0 0,.int .i64 0,.string ⟨#[]⟩,.bool false,.string ⟨#[]⟩,.bool false,.string ⟨#[]⟩,.bool false,.slice none 0 0,.bool false],.int .i64 0].toList 8=some ([.agg [.nil,.lit (.int .i64 0),.lit (.string []),.lit (.bool false),.lit (.string []),.lit (.bool false),.lit (.string []),.lit (.bool false),.nil,.lit (.bool false)],.lit (.int .i64 0)],[],places) :=
 ⟨[],by kernel_rfl⟩
set_option maxRecDepth 100000 in
theorem lifted(os:Os)(started:os.Started)(H:Type)(enc:TypeId × Value->H)(F:Stop.Interp) :
  ReturnsInHanded {} Tryd.checked os 4 .any ((Rows.OpenSpec.upto Rows.keysetBindsSpec).preRow enc Tryd.prog Tryd.f4 Rows.keysetBindsUptoRow.domain false Rows.keysetBindsUptoRow.laid) (((Rows.OpenSpec.upto Rows.keysetBindsSpec).at F).post enc Tryd.prog Tryd.f4 false true false false):=by
 obtain⟨places,hx⟩:=reads os enc;refine returnsInHanded_of_row (C:=Tryd.checked) (s:=(Rows.OpenSpec.upto Rows.keysetBindsSpec)) own started (by kernel_rfl) Tryd.func4
  (witness_row_at (enc:=enc) (C:=Tryd.checked) false (laidWorld os) #[.agg #[.slice none 0 0,.int .i64 0,.string ⟨#[]⟩,.bool false,.string ⟨#[]⟩,.bool false,.string ⟨#[]⟩,.bool false,.slice none 0 0,.bool false],.int .i64 0] rfl (by kernel_rfl) (by kernel_rfl) (by kernel_rfl)
   (OpenSpec.preRow_of_cond 8 hx (by kernel_rfl) (λk hk=>by cases hk;kernel_rfl) (by kernel_rfl) (laid_met os))) ?_
 intro W base args ds gs before hval hW _ hcond hsz hL _ _;exact contract H enc W base args ds gs before hval hW (hcond _ rfl) hL
theorem said:Rows.KeysetBindsUptoSaid :=
 OpenClaim.holds_of_cond 4 Tryd.f4 rfl rfl rfl rfl rfl rfl rfl ⟨rfl,rfl,rfl,rfl,rfl⟩ rfl rfl rfl rfl rfl (by kernel_rfl) Tryd.func4 (by kernel_rfl)
  (of_decide_eq_true (by kernel_rfl)) (by unfold Func.isWrapper;first | (rw[if_pos (by decide +kernel)];kernel_rfl) | (rw[if_neg (by decide +kernel)];exact⟨rfl,rfl⟩))
  (λos started H enc _ F=>by rw[OpenClaim.pre_eq_preRow];exact lifted os started H enc F)
theorem plain(f:FuncId)(fn:Func)(hf:Tryd.pinned.checked.prog.funcNamed "signet/signetlaw16.KeysetBinds" = some f)(hfn:Tryd.pinned.checked.prog.funcs[f]?=some fn) :
  false=Tryd.pinned.checked.prog.looks []/\∀(j:Nat) t,fn.params[j]?=some t->Tryd.pinned.checked.prog.wantsStandIn t=false:=by
 obtain rfl:f=4:=Option.some.inj ((show Tryd.prog.funcNamed "signet/signetlaw16.KeysetBinds" = some 4 by kernel_rfl).symm.trans hf) |>.symm
 obtain rfl:fn=Tryd.f4:=(Option.some.inj (Tryd.func4.symm.trans hfn)).symm;refine⟨by kernel_rfl,λj t ht=>?_⟩;rw[Tryd.params4] at ht;have hm:=Array.mem_of_getElem? ht;simp only[List.mem_toArray,List.mem_cons,List.not_mem_nil,or_false] at hm;rcases hm with rfl | rfl
 ·exact(show Tryd.prog.wantsStandIn 30=false by kernel_rfl)
 ·exact(show Tryd.prog.wantsStandIn 22=false by kernel_rfl)
theorem proved:Rows.KeysetBindsUptoCardSaid :=
 Claim7.holds_tied_plain_at .later [] _ _ _ _ said (λ_ h=>by cases h) (by kernel_rfl) (λ_ h=>by cases h) keysetBindsUpto_row_tie rfl ⟨rfl,rfl⟩ (by kernel_rfl) rfl plain (by kernel_rfl)
#print axioms proved
end Go.Proofs.YtngikdcgcakaaaaDoor.keysetBinds
