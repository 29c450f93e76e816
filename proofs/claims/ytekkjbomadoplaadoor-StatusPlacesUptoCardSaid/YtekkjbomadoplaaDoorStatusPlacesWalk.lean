/-
 StatusPlaces: its call returns true.
-/
import Derived.Test.YtekkjbomadoplaaDoorPStatus
import Derived.Test.YtekkjbomadoplaaDoorOpenVS
import Derived.Test.YtekkjbomadoplaaDoorUtf8Tabs
namespace Go.Proofs.YtekkjbomadoplaaDoor
open Go.Eng
set_option linter.unusedVariables false
set_option linter.unusedSimpArgs false

theorem statusPlaces_tabs {W : World} (h : laidMetH Tryd.prog Rows.statusPlacesUptoRow.laid W) : tabOK noX W := by
 have h' : laidMet Tryd.prog Rows.statusPlacesUptoRow.laid W := h
 exact utf8_tabs (Lib.laidMet.reads h' (List.mem_cons_of_mem _ List.mem_cons_self)) (Lib.laidMet.reads h' List.mem_cons_self)
theorem statusPlaces_walk (valueV : Value) (value : List Eng.Node) (iss : ByteArray) (hasIss : Bool) (sub : ByteArray) (hasSub : Bool) (audV : Value) (aud : List ByteArray) (hasAud : Bool) (jti : ByteArray) (hasJti : Bool) (expH : Bool) (exp : Int) (nbfH : Bool) (nbf : Int) (iatH : Bool) (iat : Int) (W : World)
  (h0 : ViewAt noX W W .node valueV value ∧ (∀ n ∈ value, NodeB 1048576 n) ∧ value.length ≤ 1048576) (h1 : iss.size ≤ 1048576) (h2 : sub.size ≤ 1048576) (h3 : ViewAt noX W W .str audV aud ∧ (∀ s ∈ aud, s.size ≤ 1048576) ∧ aud.length ≤ 1048576) (h4 : jti.size ≤ 1048576)
  (h5 : -9223372036854775808 ≤ exp ∧ exp ≤ 9223372036854775807) (h6 : -9223372036854775808 ≤ nbf ∧ nbf ≤ 9223372036854775807) (h7 : -9223372036854775808 ≤ iat ∧ iat ≤ 9223372036854775807) (hT : tabOK noX W) :
  Calls Tryd.prog 3 #[.agg #[valueV, .string iss, .bool hasIss, .string sub, .bool hasSub, audV, .bool hasAud, .string jti, .bool hasJti, .bool expH, .int .i64 exp, .bool nbfH, .int .i64 nbf, .bool iatH, .int .i64 iat]] W fun e w' => e = .returned (.bool true) ∧ LowB W w' := by
 refine callV zak_val
  (args := [.c (.agg [.own 0, .val (.string iss), .val (.bool hasIss), .val (.string sub), .val (.bool hasSub), .own 1, .val (.bool hasAud), .val (.string jti), .val (.bool hasJti), .val (.bool expH), .val (.int .i64 exp), .val (.bool nbfH), .val (.int .i64 nbf), .val (.bool iatH), .val (.int .i64 iat)])])
  (hp := [.view .node value, .view .str aud]) (hp' := [.view .node value, .view .str aud]) (v := .c (.o (.val (.bool true)))) ?_ ?_ rfl W
  (views_sat (vs := [valueV, audV]) ⟨h0.1, h3.1, trivial⟩ hT) _ rfl
 ·show ((zak_s ⟨value, iss, hasIss, sub, hasSub, aud, hasAud, jti, hasJti, ⟨expH, exp⟩, ⟨nbfH, nbf⟩, ⟨iatH, iat⟩⟩).bind fun r => some ((.c (.o (.val (.bool r))), [.view .node value, .view .str aud]) : SV × List SB)) = _
  rw [statusPlaces_plain _ h0.2.2 (fun n hn => ⟨(h0.2.1 n hn).key, (h0.2.1 n hn).text, (h0.2.1 n hn).kids⟩)]
  rfl
 ·intro x hx
  simp only [List.mem_cons, List.not_mem_nil, or_false] at hx
  rcases hx with rfl
  intro y hy
  simp only [List.mem_cons, List.not_mem_nil, or_false] at hy
  rcases hy with rfl | rfl | rfl | rfl | rfl | rfl | rfl | rfl | rfl | rfl | rfl | rfl | rfl | rfl | rfl <;> first | trivial | (show _ < 2; omega)
end Go.Proofs.YtekkjbomadoplaaDoor
