/-
  HeaderNone: its call returns true.
-/
import Derived.Test.YticplgndjpljiaaDoorUtf8NTabs
namespace Go.Proofs.YticplgndjpljiaaDoor
open Go.Eng
set_option linter.unusedVariables false
set_option linter.unusedSimpArgs false
theorem headerNone_tabs {W:World} (h:laidMetH Tryd.prog Rows.headerNoneRow.laid W):tabOK noX W:=by
 have h':laidMet Tryd.prog Rows.headerNoneRow.laid W:=h;exact utf8N_tabs (Lib.laidMet.reads h' (List.mem_cons_of_mem _ (List.mem_cons_of_mem _ List.mem_cons_self))) (Lib.laidMet.reads h' List.mem_cons_self) (Lib.laidMet.reads h' (List.mem_cons_of_mem _ List.mem_cons_self))
theorem headerNone_walk {B B2:Nat} (algsV:Value) (algs:List BA) (iss:BA) (hasIss:Bool) (aud:BA) (hasAud:Bool) (typ:BA) (hasTyp:Bool) (leeway:Int) (needV:Value) (need:List BA)
  (s1:BA) (alg:Int) (kid htyp:BA) (hhasTyp:Bool) (s3:BA) (W:World)
  (h0:qEc noX W W .str algsV algs∧(∀s∈algs,s.size≤B)∧algs.length≤B∧algs.length≤9223372036854775807) (h1:iss.size≤B) (h2:aud.size≤B) (h3:typ.size≤B) (h4 : -9223372036854775808≤leeway∧leeway≤9223372036854775807)
  (h5:qEc noX W W .str needV need∧(∀s∈need,s.size≤B)∧need.length≤B∧need.length≤9223372036854775807)
  (h9:s1.size≤140737488351232) (h6 : -9223372036854775808≤alg∧alg≤9223372036854775807) (h7:kid.size≤B2) (h8:htyp.size≤B2) (h10:s3.size≤140737488351232) (hw:algs.length*16≤140737488351232) (hT:tabOK noX W) :
  Calls Tryd.prog 4 #[.agg #[algsV,.string iss,.bool hasIss,.string aud,.bool hasAud,.string typ,.bool hasTyp,.int .i64 leeway,needV],.string s1,.agg #[.int .i64 alg,.string kid,.string htyp,.bool hhasTyp],.string s3] W fun e w'=>e=.returned (.bool true)∧LowB W w':=by
 have hs:HpSat noX W W (fun i=>[algsV,needV].getD i undef) [.view .str algs,.view .str need]:=views_sat (vs:=[algsV,needV]) ⟨h0.1,h5.1,tV⟩ hT;have hv:=callV zbq_val
  (args:=[.c (.agg [.own 0,.val (.string iss),.val (.bool hasIss),.val (.string aud),.val (.bool hasAud),.val (.string typ),.val (.bool hasTyp),.val (.int .i64 leeway),.own 1]),.c (.o (.val (.string s1))),
   .c (.agg [.val (.int .i64 alg),.val (.string kid),.val (.string htyp),.val (.bool hhasTyp)]),.c (.o (.val (.string s3)))])
  (hp:=[.view .str algs,.view .str need]) (hp':=[.view .str algs,.view .str need]) (v:=.c (.o (.val (.bool true)))) ?_ ?_ rfl W hs
  [.agg #[algsV,.string iss,.bool hasIss,.string aud,.bool hasAud,.string typ,.bool hasTyp,.int .i64 leeway,needV],.string s1,.agg #[.int .i64 alg,.string kid,.string htyp,.bool hhasTyp],.string s3] rfl
 ·exact hv
 ·show ((zbq_s ⟨algs,iss,hasIss,aud,hasAud,typ,hasTyp,leeway,need⟩ s1 ⟨alg,kid,htyp,hhasTyp⟩ s3).bind fun r=>some ((.c (.o (.val (.bool r))),[.view .str algs,.view .str need]):SV × List SB))=_;have hp:=headerNone_plain ⟨algs,iss,hasIss,aud,hasAud,typ,hasTyp,leeway,need⟩ s1 ⟨alg,kid,htyp,hhasTyp⟩ s3 (show qAe alg by unfold qAe; omega) (show algs.length*16≤140737488351232 from hw);rw [hp];rfl
 ·intro x hx;simp only [List.mem_cons,List.not_mem_nil,or_false] at hx;rcases hx with rfl | rfl | rfl | rfl
  ·intro y hy;simp only [List.mem_cons,List.not_mem_nil,or_false] at hy;rcases hy with rfl | rfl | rfl | rfl | rfl | rfl | rfl | rfl | rfl <;> first | trivial | (show _<2; omega)
  ·trivial
  ·intro y hy;simp only [List.mem_cons,List.not_mem_nil,or_false] at hy;rcases hy with rfl | rfl | rfl | rfl <;> trivial
  ·trivial
end Go.Proofs.YticplgndjpljiaaDoor
