/-
  Texts of a claim.
-/
import Derived.SevenTiedAt
import Derived.Deep.DeepHandedRow
import Derived.Lib.LaidTab
import Derived.WalkKit
import Derived.ProofKit
import Derived.OpenShut
import Derived.ShutString
import Derived.ChangeOld
import Derived.Below
import Derived.Carry
import Derived.SizedLaws
import Derived.Test.YtobmafbliahplaaDoorIdChecksWalk
import Derived.Test.YtobmafbliahplaaDoorCards
import Derived.Test.YtobmafbliahplaaDoorTie
namespace Go.Proofs.YtobmafbliahplaaDoor.idChecks
open Go.ChangeShapes Go.WideShapes Go.ChangeAt Go.RowKit
open Go.ChangeMaps (open_string shut_string)
set_option linter.unusedVariables false
set_option linter.unusedSimpArgs false
theorem own:ownKnob Tryd.prog.godebug=none:=by kernel_rfl
theorem laidOut:laidOutB Tryd.prog=true:=by kernel_rfl
set_option maxRecDepth 100000 in
theorem contract (H:Type) (enc:TypeId × Value→H) (W:World) (base:Nat) (args:Array Value) (ds gs:List (DataW H)) (before:List MemPlace)
  (hval:∀(j:Nat) t v,Tryd.f4.params[j]?=some t→args[j]?=some v→Value.okWide Tryd.prog W .any base t v)
  (hW:DataW.Whole enc Tryd.prog Tryd.f4.params.toList Rows.idChecksSpec.vars false W args.toList ds gs before)
  (hk:Rows.uptoSmall H (ds++gs)=true) (hL:laidMetH Tryd.prog Rows.idChecksUptoRow.laid W) :
  Calls Tryd.prog 4 args W fun e W'=>∃v,e=.returned v∧Rows.idChecksSpec.post enc Tryd.prog Tryd.f4 false true false false W args v W':=by
 have hb:Rows.uptoBulkAll (ds++gs)≤1048576:=of_decide_eq_true hk;clear hk;have hW':=hW;obtain ⟨p,q,hA0,hV,rfl,hfz,hnd⟩:=hW;have hA:DataW.TrodAll enc Tryd.prog W 0 (fun _=>true) true Tryd.f4.params.toList args.toList ds p:=hA0;rw [Tryd.params4] at hA hval;obtain ⟨v0,vs0,d0,ds0,p0,q0,hargs,rfl,rfl,h0,r0⟩:=trodAll_cons hA;obtain ⟨v1,vs1,d1,ds1,p1,q1,rfl,rfl,rfl,h1,r1⟩:=trodAll_cons r0;obtain ⟨v2,vs2,d2,ds2,p2,q2,rfl,rfl,rfl,h2,r2⟩:=trodAll_cons r1;obtain ⟨v3,vs3,d3,ds3,p3,q3,rfl,rfl,rfl,h3,r3⟩:=trodAll_cons r2;obtain ⟨rfl,rfl,rfl⟩:=trodAll_nil r3;obtain rfl:args = #[v0,v1,v2,v3]:=by cases args; simp_all
 obtain ⟨rfl,rfl⟩:=trodVars_none hV;have k0:=h0;have lt0:∀x∈p0,x.block<W.heap.size:=by obtain ⟨m,hm⟩:=k0; exact DataW.trod_lt m _ _ _ hm
 have k1:=h1;have lt1:∀x∈p1,x.block<W.heap.size:=by obtain ⟨m,hm⟩:=k1; exact DataW.trod_lt m _ _ _ hm
 have k2:=h2;have lt2:∀x∈p2,x.block<W.heap.size:=by obtain ⟨m,hm⟩:=k2; exact DataW.trod_lt m _ _ _ hm
 have k3:=h3;have lt3:∀x∈p3,x.block<W.heap.size:=by obtain ⟨m,hm⟩:=k3; exact DataW.trod_lt m _ _ _ hm
 have z0:Rows.uptoBulk d0≤1048576:=by simp only [List.append_nil,List.cons_append,List.nil_append,Rows.uptoBulkAll] at hb; omega
 have z2:Rows.uptoBulk d2≤1048576:=by simp only [List.append_nil,List.cons_append,List.nil_append,Rows.uptoBulkAll] at hb; omega
 obtain ⟨value0V,value0,iss0,hasIss0,sub0,hasSub0,aud0V,aud0,hasAud0,jti0,hasJti0,exp0H,exp0,nbf0H,nbf0,iat0H,iat0,rfl,wvalue0,wiss0,wsub0,waud0,wjti0,wexp0,wnbf0,wiat0⟩:=openVS_claims (hval 0 32 v0 rfl rfl) h0 z0;obtain ⟨a1,rfl,rfl,rfl,wa1'⟩:=open_int Tryd.underlying22 (hval 1 22 v1 rfl rfl) h1;have wa1:=Go.Eng.i64_of_wf wa1';obtain ⟨client2,nonce2,hasNonce2,access2,hasAccess2,code2,hasCode2,maxAge2,hasAge2,leeway2,rfl,wclient2,wnonce2,waccess2,wcode2,wmaxAge2,wleeway2⟩:=openVS_want (hval 2 34 v2 rfl rfl) h2 z2;obtain ⟨a3,rfl,rfl,rfl,wa3'⟩:=open_int Tryd.underlying2 (hval 3 2 v3 rfl rfl) h3;have wa3:=Go.Eng.i64_of_wf wa3';clear hA0;simp only [List.append_nil,Rows.uptoBulkAll,Rows.uptoBulk,Array.length_toList] at hb;refine (idChecks_walk value0V value0 iss0 hasIss0 sub0 hasSub0 aud0V aud0 hasAud0 jti0 hasJti0 exp0H exp0 nbf0H nbf0 iat0H iat0 a1 client2 nonce2 hasNonce2 access2 hasAccess2 code2 hasCode2 maxAge2 hasAge2 leeway2 a3 W wvalue0 wiss0 wsub0 waud0 wjti0 wexp0 wnbf0 wiat0 wa1 wclient2 wnonce2 waccess2 wcode2 wmaxAge2 wleeway2 wa3 (idChecks_tabs hL)).mono fun e W' ⟨he,bel⟩=>?_
 subst he;exact ⟨_,rfl,_,_,_,[],_,[],hW',trodAll_mk1 (shut_bool Tryd.underlying4 _),(trodAll_cons_mk (Go.Eng.LowB.trod laidOut (by kernel_rfl) (of_decide_eq_true (by kernel_rfl)) k0 bel lt0) (trodAll_cons_mk (Go.Eng.LowB.trod laidOut (by kernel_rfl) (of_decide_eq_true (by kernel_rfl)) k1 bel lt1) (trodAll_cons_mk (Go.Eng.LowB.trod laidOut (by kernel_rfl) (of_decide_eq_true (by kernel_rfl)) k2 bel lt2) (trodAll_cons_mk (Go.Eng.LowB.trod laidOut (by kernel_rfl) (of_decide_eq_true (by kernel_rfl)) k3 bel lt3) trodAll_mk0)))),rfl,bel.frame _,fun h=>by cases h⟩
noncomputable def tab_signet_sha_k256:Array Value:=(Go.Eng.shaK256.map fun z=>Value.int .u32 z).toArray
noncomputable def tab_signet_sha_k512:Array Value:=(Go.Eng.shaK512.map fun z=>Value.int .u64 z).toArray
noncomputable def tab_signet_sha_start256:Array Value:=(Go.Eng.shaS256.map fun z=>Value.int .u32 z).toArray
noncomputable def tab_signet_sha_start384:Array Value:=(Go.Eng.shaS384.map fun z=>Value.int .u64 z).toArray
noncomputable def tab_signet_sha_start512:Array Value:=(Go.Eng.shaS512.map fun z=>Value.int .u64 z).toArray
noncomputable def qFr:Array Value:=(Go.Eng.shaK256.map fun z=>Value.int .u32 z).toArray
noncomputable def qFs:Array Value:=(Go.Eng.shaK512.map fun z=>Value.int .u64 z).toArray
noncomputable def qEi:Array Value:=(Go.Eng.shaS256.map fun z=>Value.int .u32 z).toArray
noncomputable def qEj:Array Value:=(Go.Eng.shaS384.map fun z=>Value.int .u64 z).toArray
noncomputable def qEk:Array Value:=(Go.Eng.shaS512.map fun z=>Value.int .u64 z).toArray
noncomputable def laidWorld (os:Os):World :=
 { World.holding Tryd.prog os ⟨#[],#[],[]⟩ with heap:=(((((((((((World.holding Tryd.prog os ⟨#[],#[],[]⟩).heap).modify 8 (fun | .cells _ t frozen=>.cells tab_signet_sha_k256 t frozen | o=>o)).modify 9 (fun | .cells _ t frozen=>.cells tab_signet_sha_k512 t frozen | o=>o)).modify 2 (fun | .cells _ t frozen=>.cells tab_signet_sha_start256 t frozen | o=>o)).modify 3 (fun | .cells _ t frozen=>.cells tab_signet_sha_start384 t frozen | o=>o)).modify 4 (fun | .cells _ t frozen=>.cells tab_signet_sha_start512 t frozen | o=>o)).modify 6 (fun | .cells _ t frozen=>.cells qFr t frozen | o=>o)).modify 7 (fun | .cells _ t frozen=>.cells qFs t frozen | o=>o)).modify 5 (fun | .cells _ t frozen=>.cells qEi t frozen | o=>o)).modify 0 (fun | .cells _ t frozen=>.cells qEj t frozen | o=>o)).modify 1 (fun | .cells _ t frozen=>.cells qEk t frozen | o=>o) }
theorem laid_met (os:Os):laidMet Tryd.prog Rows.idChecksUptoRow.laid ((laidWorld os).forCall (fun _ _=>0) ⟨#[],#[.agg #[.slice none 0 0,.string ⟨#[]⟩,.bool false,.string ⟨#[]⟩,.bool false,.slice none 0 0,.bool false,.string ⟨#[]⟩,.bool false,.bool false,.int .i64 0,.bool false,.int .i64 0,.bool false,.int .i64 0],.int .i64 0,.agg #[.string ⟨#[]⟩,.string ⟨#[]⟩,.bool false,.string ⟨#[]⟩,.bool false,.string ⟨#[]⟩,.bool false,.int .i64 0,.bool false,.int .i64 0],.int .i64 0],[]⟩).memory :=
 laidMet_of_run' 8 (by kernel_rfl) (by kernel_rfl)
theorem reads (os:Os) {H:Type} (enc:TypeId × Value→H):∃places,DataW.whole enc Tryd.prog ((laidWorld os).forCall (fun _ _=>0) ⟨#[],#[.agg #[.slice none 0 0,.string ⟨#[]⟩,.bool false,.string ⟨#[]⟩,.bool false,.slice none 0 0,.bool false,.string ⟨#[]⟩,.bool false,.bool false,.int .i64 0,.bool false,.int .i64 0,.bool false,.int .i64 0],.int .i64 0,.agg #[.string ⟨#[]⟩,.string ⟨#[]⟩,.bool false,.string ⟨#[]⟩,.bool false,.string ⟨#[]⟩,.bool false,.int .i64 0,.bool false,.int .i64 0],.int .i64 0],[]⟩).memory Tryd.f4.params.toList Rows.idChecksSpec.vars false #[.agg #[.slice none 0 0,.string ⟨#[]⟩,.bool false,.string ⟨#[]⟩,.bool false,.slice none 0 0,.bool false,.string ⟨#[]⟩,.bool false,.bool false,.int .i64 0,.bool false,.int .i64 0,.bool false,.int .i64 0],.int .i64 0,.agg #[.string ⟨#[]⟩,.string ⟨#[]⟩,.bool false,.string ⟨#[]⟩,.bool false,.string ⟨#[]⟩,.bool false,.int .i64 0,.bool false,.int .i64 0],.int .i64 0].toList 8=some ([.agg [.nil,.lit (.string []),.lit (.bool false),.lit (.string []),.lit (.bool false),.nil,.lit (.bool false),.lit (.string []),.lit (.bool false),.agg [.lit (.bool false),.lit (.int .i64 0)],.agg [.lit (.bool false),.lit (.int .i64 0)],.agg [.lit (.bool false),.lit (.int .i64 0)]],.lit (.int .i64 0),.agg [.lit (.string []),.lit (.string []),.lit (.bool false),.lit (.string []),.lit (.bool false),.lit (.string []),.lit (.bool false),.lit (.int .i64 0),.lit (.bool false),.lit (.int .i64 0)],.lit (.int .i64 0)],[],places) :=
 ⟨[],by kernel_rfl⟩
set_option maxRecDepth 100000 in
theorem lifted (os:Os) (started:os.Started) (H:Type) (enc:TypeId × Value→H) (F:Stop.Interp) :
  ReturnsInHanded {} Tryd.checked os 4 .any ((Rows.OpenSpec.upto Rows.idChecksSpec).preRow enc Tryd.prog Tryd.f4 Rows.idChecksUptoRow.domain false Rows.idChecksUptoRow.laid) (((Rows.OpenSpec.upto Rows.idChecksSpec).at F).post enc Tryd.prog Tryd.f4 false true false false):=by
 obtain ⟨places,hx⟩:=reads os enc;refine returnsInHanded_of_row (C:=Tryd.checked) (s:=(Rows.OpenSpec.upto Rows.idChecksSpec)) own started (by kernel_rfl) Tryd.func4
  (witness_row_at (enc:=enc) (C:=Tryd.checked) false (laidWorld os) #[.agg #[.slice none 0 0,.string ⟨#[]⟩,.bool false,.string ⟨#[]⟩,.bool false,.slice none 0 0,.bool false,.string ⟨#[]⟩,.bool false,.bool false,.int .i64 0,.bool false,.int .i64 0,.bool false,.int .i64 0],.int .i64 0,.agg #[.string ⟨#[]⟩,.string ⟨#[]⟩,.bool false,.string ⟨#[]⟩,.bool false,.string ⟨#[]⟩,.bool false,.int .i64 0,.bool false,.int .i64 0],.int .i64 0] rfl (by kernel_rfl) (by kernel_rfl) (by kernel_rfl)
   (OpenSpec.preRow_of_cond 8 hx (by kernel_rfl) (fun k hk=>by cases hk; kernel_rfl) (by kernel_rfl) (laid_met os))) ?_
 intro W base args ds gs before hval hW _ hcond hsz hL _ _;exact contract H enc W base args ds gs before hval hW (hcond _ rfl) hL
theorem said:Rows.IdChecksUptoSaid :=
 OpenClaim.holds_of_cond 4 Tryd.f4 rfl rfl rfl rfl rfl rfl rfl ⟨rfl,rfl,rfl,rfl,rfl⟩ rfl rfl rfl rfl rfl (by kernel_rfl) Tryd.func4 (by kernel_rfl)
  (of_decide_eq_true (by kernel_rfl)) (by unfold Func.isWrapper; first | (rw [if_pos (by decide +kernel)]; kernel_rfl) | (rw [if_neg (by decide +kernel)]; exact ⟨rfl,rfl⟩))
  (fun os started H enc _ F=>by rw [OpenClaim.pre_eq_preRow]; exact lifted os started H enc F)
theorem plain (f:FuncId) (fn:Func) (hf:Tryd.pinned.checked.prog.funcNamed "signet/signetlaw22.IdChecks" = some f) (hfn:Tryd.pinned.checked.prog.funcs[f]?=some fn) :
  false=Tryd.pinned.checked.prog.looks []∧∀(j:Nat) t,fn.params[j]?=some t→Tryd.pinned.checked.prog.wantsStandIn t=false:=by
 obtain rfl:f=4:=Option.some.inj ((show Tryd.prog.funcNamed "signet/signetlaw22.IdChecks" = some 4 by kernel_rfl).symm.trans hf) |>.symm
 obtain rfl:fn=Tryd.f4:=(Option.some.inj (Tryd.func4.symm.trans hfn)).symm;refine ⟨by kernel_rfl,fun j t ht=>?_⟩;rw [Tryd.params4] at ht;have hm:=Array.mem_of_getElem? ht;simp only [List.mem_toArray,List.mem_cons,List.not_mem_nil,or_false] at hm;rcases hm with rfl | rfl | rfl | rfl
 ·exact (show Tryd.prog.wantsStandIn 32=false by kernel_rfl)
 ·exact (show Tryd.prog.wantsStandIn 22=false by kernel_rfl)
 ·exact (show Tryd.prog.wantsStandIn 34=false by kernel_rfl)
 ·exact (show Tryd.prog.wantsStandIn 2=false by kernel_rfl)
theorem proved:Rows.IdChecksUptoCardSaid :=
 Claim7.holds_tied_plain_at .later [] _ _ _ _ said (fun _ h=>by cases h) (by kernel_rfl) (fun _ h=>by cases h) idChecksUpto_row_tie rfl ⟨rfl,rfl⟩ (by kernel_rfl) rfl plain (by kernel_rfl)
#print axioms proved
end Go.Proofs.YtobmafbliahplaaDoor.idChecks
