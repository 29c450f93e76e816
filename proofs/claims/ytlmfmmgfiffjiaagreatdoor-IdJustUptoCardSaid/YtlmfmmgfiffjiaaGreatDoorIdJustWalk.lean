/-
  Texts of a claim.
-/
import Derived.Test.YtlmfmmgfiffjiaaGreatDoorEngO
import Derived.Test.YtlmfmmgfiffjiaaGreatDoorProg
import Derived.Test.YtlmfmmgfiffjiaaGreatDoorPDecRef
import Derived.Test.YtlmfmmgfiffjiaaGreatDoorEngPan
import Derived.Test.YtlmfmmgfiffjiaaGreatDoorJP
import Derived.Test.YtlmfmmgfiffjiaaGreatDoorPIdCheck
import Derived.Test.YtlmfmmgfiffjiaaGreatDoorPSha
import Derived.Test.YtlmfmmgfiffjiaaGreatDoorDecRel
import Derived.Test.YtlmfmmgfiffjiaaGreatDoorIdAgeWalk
set_option linter.unusedSimpArgs false
set_option linter.unusedVariables false
namespace Go.Proofs.YtlmfmmgfiffjiaaGreatDoor
open Go.Eng
set_option maxRecDepth 100000
noncomputable section
def zcb_b4:IQ:=(.seq (.reg 12 (some [0,1,2,3,5,6,7,8,4,9,10,11]) [oP 59 (.load (some 15) t6),oM 60 t1,oP 61 (.load (some 10) t8),oM 62 t3,oP 64 (.load (some 15) t6),oM 65 t1,oP 66 (.load (some 10) t13),oM 67 t14,oP 63 (.call 9 [t59,t60,t61,t62]),oP 68 (.call 9 [t64,t65,t66,t67]),oP 69 (.bi .eql t63 t68),oM 12 t69]) (.cn [12] .ret))
def zcb_b3:IQ:=(.seq (rg 14 [oM 54 t3,oM 14 t54]) (.seq (.seq (rg 57 [oP 55 (.faddr 8 t8),oP 56 (.load none t55),oP 57 (.un .not t56)]) (.cond t57 (rg 14 [oM 58 t5,oM 14 t58]) .skip)) (.cn [1,3,6,8,13,14] (.sub 4 zcb_b4))))
def zcb_b2:IQ:=(.seq (.seq (rg 50 [oP 48 (.faddr 8 t8),oP 49 (.load none t48),oP 50 (.un .not t49)]) (.cond t50 (rg 0 [oP 51 (.faddr 7 t10),oP 52 (.load none t51),oP 53 (.faddr 7 t13),oN (.store 1 t53 t52)]) .skip)) (.cn [1,3,5,6,8,13] (.sub 3 zcb_b3)))
def zcb_b1:IQ:=(.seq (.seq (rg 44 [oP 42 (.faddr 6 t8),oP 43 (.load none t42),oP 44 (.un .not t43)]) (.cond t44 (rg 0 [oP 45 (.faddr 5 t10),oP 46 (.load none t45),oP 47 (.faddr 5 t13),oN (.store 1 t47 t46)]) .skip)) (.cn [1,3,5,6,8,10,13] (.sub 2 zcb_b2)))
def zcb_b0:IQ:=(.seq (.seq (rg 38 [oP 36 (.faddr 4 t8),oP 37 (.load none t36),oP 38 (.un .not t37)]) (.cond t38 (rg 0 [oP 39 (.faddr 3 t10),oP 40 (.load none t39),oP 41 (.faddr 3 t13),oN (.store 1 t41 t40)]) .skip)) (.cn [1,3,5,6,8,10,13] (.sub 1 zcb_b1)))
def zcb_q:IQ:=(.seq (rg 12 [oP 6 (.box 27 15 t0),oP 8 (.box 30 10 t2),oP 10 (.box 30 10 t4),oP 12 (.mv vF)]) (.seq (.seq (rg 27 [oP 15 (.call 6 []),oP 16 (.un .not t15),oM 17 t16,oE 18 (.faddr 0 t6) 17,oE 19 (.load none t18) 17,oE 20 (.call 7 [t19]) 17,oP 21 (.pick t17 vT t20),oM 22 t21,oE 23 (.faddr 0 t6) 22,oE 24 (.load none t23) 22,oE 25 (.call 8 [t24]) 22,oE 26 (.un .not t25) 22,oP 27 (.pick t22 vT t26)]) (.cond t27 (.seq (rg 12 [oP 28 (.call 6 []),oM 12 t28]) (.cn [12] .ret)) .skip)) (.seq (rg 0 [oP 29 (.load (some 10) t8),oP 13 (.alloc 30 [.string ⟨#[]⟩,.string ⟨#[]⟩,.bool false,.string ⟨#[]⟩,.bool false,.string ⟨#[]⟩,.bool false,.int .i64 0,.bool false,.int .i64 0]),oN (.store 10 t13 t29)]) (.seq (.seq (rg 32 [oP 30 (.faddr 2 t8),oP 31 (.load none t30),oP 32 (.un .not t31)]) (.cond t32 (rg 0 [oP 33 (.faddr 1 t10),oP 34 (.load none t33),oP 35 (.faddr 1 t13),oN (.store 1 t35 t34)]) .skip)) (.cn [1,3,5,6,8,10,13] (.sub 0 zcb_b0))))))
def zcb_p4 (a now when:Int) (c_value:List Eng.Node) (c_aud:List BA) (qHq:BA) (qG5:Bool) (qHs:BA) (qG6 qG4:Bool) (qHr:BA) (qHe qGz:Bool) (qHd:Int) (qG9:Bool) (qHg:Int) (qG0:Bool) (qHf:Int) (qGx qG7:BA) (qGt:Bool) (qGu:BA) (qGo:Bool) (qG8:BA) (qGq:Bool) (qGp:Int) (qGn:Bool) (qGs:Int) (qHk qHt:BA) (qHi:Bool) (qHo:BA) (qHh:Bool) (qHx:BA) (qHj:Bool) (qHp:Int) (qHl:Bool) (qHm:Int):Option Bool :=
 (qF4 (⟨c_value,qHq,qG5,qHs,qG6,c_aud,qG4,qHr,qHe,(⟨qGz,qHd⟩:qGk),(⟨qG9,qHg⟩:qGk),(⟨qG0,qHf⟩:qGk)⟩:qGj) a (⟨qGx,qG7,qGt,qGu,qGo,qG8,qGq,qGp,qGn,qGs⟩:qHc) now).bind fun r7 =>
 (qF4 (⟨c_value,qHq,qG5,qHs,qG6,c_aud,qG4,qHr,qHe,(⟨qGz,qHd⟩:qGk),(⟨qG9,qHg⟩:qGk),(⟨qG0,qHf⟩:qGk)⟩:qGj) a (⟨qHk,qHt,qHi,qHo,qHh,qHx,qHj,qHp,qHl,qHm⟩:qHc) when).bind fun r8 =>
 some (decide (r7=r8))
def zcb_p3 (a now later:Int) (c_value:List Eng.Node) (c_aud:List BA) (qHq:BA) (qG5:Bool) (qHs:BA) (qG6 qG4:Bool) (qHr:BA) (qHe qGz:Bool) (qHd:Int) (qG9:Bool) (qHg:Int) (qG0:Bool) (qHf:Int) (qGx qG7:BA) (qGt:Bool) (qGu:BA) (qGo:Bool) (qG8:BA) (qGq:Bool) (qGp:Int) (qGn:Bool) (qGs:Int) (qHk qHt:BA) (qHi:Bool) (qHo:BA) (qHh:Bool) (qHx:BA) (qHj:Bool) (qHp:Int) (qHl:Bool) (qHm:Int):Option Bool :=
 bif (!qGn) then (
  (zcb_p4 a now later c_value c_aud qHq qG5 qHs qG6 qG4 qHr qHe qGz qHd qG9 qHg qG0 qHf qGx qG7 qGt qGu qGo qG8 qGq qGp qGn qGs qHk qHt qHi qHo qHh qHx qHj qHp qHl qHm).bind fun o9 =>
  some o9)
 else (
  (zcb_p4 a now now c_value c_aud qHq qG5 qHs qG6 qG4 qHr qHe qGz qHd qG9 qHg qG0 qHf qGx qG7 qGt qGu qGo qG8 qGq qGp qGn qGs qHk qHt qHi qHo qHh qHx qHj qHp qHl qHm).bind fun o10 =>
  some o10)
def zcb_p2 (a now later:Int) (c_value:List Eng.Node) (c_aud:List BA) (qHq:BA) (qG5:Bool) (qHs:BA) (qG6 qG4:Bool) (qHr:BA) (qHe qGz:Bool) (qHd:Int) (qG9:Bool) (qHg:Int) (qG0:Bool) (qHf:Int) (qGx qG7:BA) (qGt:Bool) (qGu:BA) (qGo:Bool) (qG8:BA) (qGq:Bool) (qGp:Int) (qGn:Bool) (qGs qHu:Int) (qHk qHt:BA) (qHi:Bool) (qHo:BA) (qHh:Bool) (qHx:BA) (qHj:Bool) (qHp:Int) (qHl:Bool) (qHm:Int):Option Bool :=
 bif (!qGn) then (
  (zcb_p3 a now later c_value c_aud qHq qG5 qHs qG6 qG4 qHr qHe qGz qHd qG9 qHg qG0 qHf qGx qG7 qGt qGu qGo qG8 qGq qGp qGn qGs qHk qHt qHi qHo qHh qHx qHj qHu qHl qHm).bind fun o11 =>
  some o11)
 else (
  (zcb_p3 a now later c_value c_aud qHq qG5 qHs qG6 qG4 qHr qHe qGz qHd qG9 qHg qG0 qHf qGx qG7 qGt qGu qGo qG8 qGq qGp qGn qGs qHk qHt qHi qHo qHh qHx qHj qHp qHl qHm).bind fun o12 =>
  some o12)
def zcb_p1 (a now later:Int) (c_value:List Eng.Node) (c_aud:List BA) (qHq:BA) (qG5:Bool) (qHs:BA) (qG6 qG4:Bool) (qHr:BA) (qHe qGz:Bool) (qHd:Int) (qG9:Bool) (qHg:Int) (qG0:Bool) (qHf:Int) (qGx qG7:BA) (qGt:Bool) (qGu:BA) (qGo:Bool) (qG8:BA) (qGq:Bool) (qGp:Int) (qGn:Bool) (qGs:Int) (qH4:BA) (qHu:Int) (qHk qHt:BA) (qHi:Bool) (qHo:BA) (qHh:Bool) (qHx:BA) (qHj:Bool) (qHp:Int) (qHl:Bool) (qHm:Int):Option Bool :=
 bif (!qGq) then (
  (zcb_p2 a now later c_value c_aud qHq qG5 qHs qG6 qG4 qHr qHe qGz qHd qG9 qHg qG0 qHf qGx qG7 qGt qGu qGo qG8 qGq qGp qGn qGs qHu qHk qHt qHi qHo qHh qH4 qHj qHp qHl qHm).bind fun o13 =>
  some o13)
 else (
  (zcb_p2 a now later c_value c_aud qHq qG5 qHs qG6 qG4 qHr qHe qGz qHd qG9 qHg qG0 qHf qGx qG7 qGt qGu qGo qG8 qGq qGp qGn qGs qHu qHk qHt qHi qHo qHh qHx qHj qHp qHl qHm).bind fun o14 =>
  some o14)
def zcb_p0 (a now later:Int) (c_value:List Eng.Node) (c_aud:List BA) (qHq:BA) (qG5:Bool) (qHs:BA) (qG6 qG4:Bool) (qHr:BA) (qHe qGz:Bool) (qHd:Int) (qG9:Bool) (qHg:Int) (qG0:Bool) (qHf:Int) (qGx qG7:BA) (qGt:Bool) (qGu:BA) (qGo:Bool) (qG8:BA) (qGq:Bool) (qGp:Int) (qGn:Bool) (qGs:Int) (qIz qH4:BA) (qHu:Int) (qHk qHt:BA) (qHi:Bool) (qHo:BA) (qHh:Bool) (qHx:BA) (qHj:Bool) (qHp:Int) (qHl:Bool) (qHm:Int):Option Bool :=
 bif (!qGo) then (
  (zcb_p1 a now later c_value c_aud qHq qG5 qHs qG6 qG4 qHr qHe qGz qHd qG9 qHg qG0 qHf qGx qG7 qGt qGu qGo qG8 qGq qGp qGn qGs qH4 qHu qHk qHt qHi qIz qHh qHx qHj qHp qHl qHm).bind fun o15 =>
  some o15)
 else (
  (zcb_p1 a now later c_value c_aud qHq qG5 qHs qG6 qG4 qHr qHe qGz qHd qG9 qHg qG0 qHf qGx qG7 qGt qGu qGo qG8 qGq qGp qGn qGs qH4 qHu qHk qHt qHi qHo qHh qHx qHj qHp qHl qHm).bind fun o16 =>
  some o16)
def zcb_s (c:qGj) (a:Int) (w:qHc) (now:Int) (other:qHc) (later:Int):Option Bool :=
 (zcc_s).bind fun r1 =>
 bif (!r1) then (
  (zcc_s).bind fun r2 =>
  some r2)
 else (
  (zcm_s c.value).bind fun r3 =>
  bif r3 then (
   (zcc_s).bind fun r4 =>
   some r4)
  else (
   (zcn_s c.value).bind fun r5 =>
   bif (!r5) then (
    (zcc_s).bind fun r6 =>
    some r6)
   else (
    bif (!w.hasNonce) then (
     (zcb_p0 a now later c.value c.aud c.iss c.hasIss c.sub c.hasSub c.hasAud c.jti c.hasJti c.exp_.has c.exp_.at_ c.nbf.has c.nbf.at_ c.iat.has c.iat.at_ w.client w.nonce w.hasNonce w.access w.hasAccess w.code w.hasCode w.maxAge w.hasAge w.leeway other.access other.code other.maxAge w.client other.nonce w.hasNonce w.access w.hasAccess w.code w.hasCode w.maxAge w.hasAge w.leeway).bind fun o17 =>
     some o17)
    else (
     (zcb_p0 a now later c.value c.aud c.iss c.hasIss c.sub c.hasSub c.hasAud c.jti c.hasJti c.exp_.has c.exp_.at_ c.nbf.has c.nbf.at_ c.iat.has c.iat.at_ w.client w.nonce w.hasNonce w.access w.hasAccess w.code w.hasCode w.maxAge w.hasAge w.leeway other.access other.code other.maxAge w.client w.nonce w.hasNonce w.access w.hasAccess w.code w.hasCode w.maxAge w.hasAge w.leeway).bind fun o18 =>
     some o18))))
def zcb_G:Nat→Option CQ:=tblQ [(6,zcc_w),(7,zcm_w),(8,zcn_w),(9,zai_w)]
def zDHQ1:=(qAa dS (qAa dS (qAa dB (qAa dS (qAa dB (qAa dS (qAa dB (qAa dZ (qAa dB (qAa dZ dNil))))))))))
def zDHQ2:=(qAa (dO 0) (qAa dS (qAa dB (qAa dS (qAa dB (qAa (dO 1) (qAa dB (qAa dS (qAa dB (qAa dB (qAa dZ (qAa dB (qAa dZ (qAa dB (qAa dZ dNil)))))))))))))))
def zDHQ4:=(qAa (qBi 30 zDHQ1) (qAa (qBi 30 zDHQ1) dNil))
def zcb_d4:=(dQS (qAa (dSO 1 dZ) (qAa (dSO 3 dZ) (qAa (dSO 6 (dH 2 0)) (qAa (dSO 8 (dH 3 0)) (qAa (dSO 13 (dH 4 0)) (qAa (dSO 14 dZ) dNil)))))) (qAa (qBa .node) (qAa (qBa .str) (qAa (qBi 27 zDHQ2) zDHQ4))))
def zcb_l4:SubQ:=mkL zcb_d4 (fun x=>zcb_p4 x.1.1 x.1.2.1 x.1.2.2.2.2.2.1 x.2.1 x.2.2.1 x.2.2.2.1.2.1 x.2.2.2.1.2.2.1 x.2.2.2.1.2.2.2.1 x.2.2.2.1.2.2.2.2.1 x.2.2.2.1.2.2.2.2.2.2.1 x.2.2.2.1.2.2.2.2.2.2.2.1 x.2.2.2.1.2.2.2.2.2.2.2.2.1 x.2.2.2.1.2.2.2.2.2.2.2.2.2.1 x.2.2.2.1.2.2.2.2.2.2.2.2.2.2.1 x.2.2.2.1.2.2.2.2.2.2.2.2.2.2.2.1 x.2.2.2.1.2.2.2.2.2.2.2.2.2.2.2.2.1 x.2.2.2.1.2.2.2.2.2.2.2.2.2.2.2.2.2.1 x.2.2.2.1.2.2.2.2.2.2.2.2.2.2.2.2.2.2.1 x.2.2.2.2.1.1 x.2.2.2.2.1.2.1 x.2.2.2.2.1.2.2.1 x.2.2.2.2.1.2.2.2.1 x.2.2.2.2.1.2.2.2.2.1 x.2.2.2.2.1.2.2.2.2.2.1 x.2.2.2.2.1.2.2.2.2.2.2.1 x.2.2.2.2.1.2.2.2.2.2.2.2.1 x.2.2.2.2.1.2.2.2.2.2.2.2.2.1 x.2.2.2.2.1.2.2.2.2.2.2.2.2.2.1 x.2.2.2.2.2.1.1 x.2.2.2.2.2.1.2.1 x.2.2.2.2.2.1.2.2.1 x.2.2.2.2.2.1.2.2.2.1 x.2.2.2.2.2.1.2.2.2.2.1 x.2.2.2.2.2.1.2.2.2.2.2.1 x.2.2.2.2.2.1.2.2.2.2.2.2.1 x.2.2.2.2.2.1.2.2.2.2.2.2.2.1 x.2.2.2.2.2.1.2.2.2.2.2.2.2.2.1 x.2.2.2.2.2.1.2.2.2.2.2.2.2.2.2.1) fun x r R kn kx kr=>kr ⟨[sL 12 (.vB r)],[],[.view .node x.2.1,.view .str x.2.2.1]⟩
def zcb_d3:=(dQS (qAa (dSO 1 dZ) (qAa (dSO 3 dZ) (qAa (dSO 5 dZ) (qAa (dSO 6 (dH 2 0)) (qAa (dSO 8 (dH 3 0)) (qAa (dSO 13 (dH 4 0)) dNil)))))) (qAa (qBa .node) (qAa (qBa .str) (qAa (qBi 27 zDHQ2) zDHQ4))))
def zcb_l3:SubQ:=mkL zcb_d3 (fun x=>zcb_p3 x.1.1 x.1.2.1 x.1.2.2.1 x.2.1 x.2.2.1 x.2.2.2.1.2.1 x.2.2.2.1.2.2.1 x.2.2.2.1.2.2.2.1 x.2.2.2.1.2.2.2.2.1 x.2.2.2.1.2.2.2.2.2.2.1 x.2.2.2.1.2.2.2.2.2.2.2.1 x.2.2.2.1.2.2.2.2.2.2.2.2.1 x.2.2.2.1.2.2.2.2.2.2.2.2.2.1 x.2.2.2.1.2.2.2.2.2.2.2.2.2.2.1 x.2.2.2.1.2.2.2.2.2.2.2.2.2.2.2.1 x.2.2.2.1.2.2.2.2.2.2.2.2.2.2.2.2.1 x.2.2.2.1.2.2.2.2.2.2.2.2.2.2.2.2.2.1 x.2.2.2.1.2.2.2.2.2.2.2.2.2.2.2.2.2.2.1 x.2.2.2.2.1.1 x.2.2.2.2.1.2.1 x.2.2.2.2.1.2.2.1 x.2.2.2.2.1.2.2.2.1 x.2.2.2.2.1.2.2.2.2.1 x.2.2.2.2.1.2.2.2.2.2.1 x.2.2.2.2.1.2.2.2.2.2.2.1 x.2.2.2.2.1.2.2.2.2.2.2.2.1 x.2.2.2.2.1.2.2.2.2.2.2.2.2.1 x.2.2.2.2.1.2.2.2.2.2.2.2.2.2.1 x.2.2.2.2.2.1.1 x.2.2.2.2.2.1.2.1 x.2.2.2.2.2.1.2.2.1 x.2.2.2.2.2.1.2.2.2.1 x.2.2.2.2.2.1.2.2.2.2.1 x.2.2.2.2.2.1.2.2.2.2.2.1 x.2.2.2.2.2.1.2.2.2.2.2.2.1 x.2.2.2.2.2.1.2.2.2.2.2.2.2.1 x.2.2.2.2.2.1.2.2.2.2.2.2.2.2.1 x.2.2.2.2.2.1.2.2.2.2.2.2.2.2.2.1) fun x r R kn kx kr=>kr ⟨[sL 12 (.vB r)],[],[.view .node x.2.1,.view .str x.2.2.1]⟩
def zDHQ3:=(qAa (dSO 1 dZ) (qAa (dSO 3 dZ) (qAa (dSO 5 dZ) (qAa (dSO 6 (dH 2 0)) (qAa (dSO 8 (dH 3 0)) (qAa (dSO 10 (dH 4 0)) (qAa (dSO 13 (dH 5 0)) dNil)))))))
def zDHQ5:=(qAa (qBa .node) (qAa (qBa .str) (qAa (qBi 27 zDHQ2) (qAa (qBi 30 zDHQ1) zDHQ4))))
def zcb_d2:=(dQS zDHQ3 zDHQ5)
def zcb_l2:SubQ:=mkL zcb_d2 (fun x=>zcb_p2 x.1.1 x.1.2.1 x.1.2.2.1 x.2.1 x.2.2.1 x.2.2.2.1.2.1 x.2.2.2.1.2.2.1 x.2.2.2.1.2.2.2.1 x.2.2.2.1.2.2.2.2.1 x.2.2.2.1.2.2.2.2.2.2.1 x.2.2.2.1.2.2.2.2.2.2.2.1 x.2.2.2.1.2.2.2.2.2.2.2.2.1 x.2.2.2.1.2.2.2.2.2.2.2.2.2.1 x.2.2.2.1.2.2.2.2.2.2.2.2.2.2.1 x.2.2.2.1.2.2.2.2.2.2.2.2.2.2.2.1 x.2.2.2.1.2.2.2.2.2.2.2.2.2.2.2.2.1 x.2.2.2.1.2.2.2.2.2.2.2.2.2.2.2.2.2.1 x.2.2.2.1.2.2.2.2.2.2.2.2.2.2.2.2.2.2.1 x.2.2.2.2.1.1 x.2.2.2.2.1.2.1 x.2.2.2.2.1.2.2.1 x.2.2.2.2.1.2.2.2.1 x.2.2.2.2.1.2.2.2.2.1 x.2.2.2.2.1.2.2.2.2.2.1 x.2.2.2.2.1.2.2.2.2.2.2.1 x.2.2.2.2.1.2.2.2.2.2.2.2.1 x.2.2.2.2.1.2.2.2.2.2.2.2.2.1 x.2.2.2.2.1.2.2.2.2.2.2.2.2.2.1 x.2.2.2.2.2.1.2.2.2.2.2.2.2.1 x.2.2.2.2.2.2.1.1 x.2.2.2.2.2.2.1.2.1 x.2.2.2.2.2.2.1.2.2.1 x.2.2.2.2.2.2.1.2.2.2.1 x.2.2.2.2.2.2.1.2.2.2.2.1 x.2.2.2.2.2.2.1.2.2.2.2.2.1 x.2.2.2.2.2.2.1.2.2.2.2.2.2.1 x.2.2.2.2.2.2.1.2.2.2.2.2.2.2.1 x.2.2.2.2.2.2.1.2.2.2.2.2.2.2.2.1 x.2.2.2.2.2.2.1.2.2.2.2.2.2.2.2.2.1) fun x r R kn kx kr=>kr ⟨[sL 12 (.vB r)],[],[.view .node x.2.1,.view .str x.2.2.1]⟩
def zcb_d1:=(dQS zDHQ3 zDHQ5)
def zcb_l1:SubQ:=mkL zcb_d1 (fun x=>zcb_p1 x.1.1 x.1.2.1 x.1.2.2.1 x.2.1 x.2.2.1 x.2.2.2.1.2.1 x.2.2.2.1.2.2.1 x.2.2.2.1.2.2.2.1 x.2.2.2.1.2.2.2.2.1 x.2.2.2.1.2.2.2.2.2.2.1 x.2.2.2.1.2.2.2.2.2.2.2.1 x.2.2.2.1.2.2.2.2.2.2.2.2.1 x.2.2.2.1.2.2.2.2.2.2.2.2.2.1 x.2.2.2.1.2.2.2.2.2.2.2.2.2.2.1 x.2.2.2.1.2.2.2.2.2.2.2.2.2.2.2.1 x.2.2.2.1.2.2.2.2.2.2.2.2.2.2.2.2.1 x.2.2.2.1.2.2.2.2.2.2.2.2.2.2.2.2.2.1 x.2.2.2.1.2.2.2.2.2.2.2.2.2.2.2.2.2.2.1 x.2.2.2.2.1.1 x.2.2.2.2.1.2.1 x.2.2.2.2.1.2.2.1 x.2.2.2.2.1.2.2.2.1 x.2.2.2.2.1.2.2.2.2.1 x.2.2.2.2.1.2.2.2.2.2.1 x.2.2.2.2.1.2.2.2.2.2.2.1 x.2.2.2.2.1.2.2.2.2.2.2.2.1 x.2.2.2.2.1.2.2.2.2.2.2.2.2.1 x.2.2.2.2.1.2.2.2.2.2.2.2.2.2.1 x.2.2.2.2.2.1.2.2.2.2.2.1 x.2.2.2.2.2.1.2.2.2.2.2.2.2.1 x.2.2.2.2.2.2.1.1 x.2.2.2.2.2.2.1.2.1 x.2.2.2.2.2.2.1.2.2.1 x.2.2.2.2.2.2.1.2.2.2.1 x.2.2.2.2.2.2.1.2.2.2.2.1 x.2.2.2.2.2.2.1.2.2.2.2.2.1 x.2.2.2.2.2.2.1.2.2.2.2.2.2.1 x.2.2.2.2.2.2.1.2.2.2.2.2.2.2.1 x.2.2.2.2.2.2.1.2.2.2.2.2.2.2.2.1 x.2.2.2.2.2.2.1.2.2.2.2.2.2.2.2.2.1) fun x r R kn kx kr=>kr ⟨[sL 12 (.vB r)],[],[.view .node x.2.1,.view .str x.2.2.1]⟩
def zcb_d0:=(dQS zDHQ3 zDHQ5)
def zcb_l0:SubQ:=mkL zcb_d0 (fun x=>zcb_p0 x.1.1 x.1.2.1 x.1.2.2.1 x.2.1 x.2.2.1 x.2.2.2.1.2.1 x.2.2.2.1.2.2.1 x.2.2.2.1.2.2.2.1 x.2.2.2.1.2.2.2.2.1 x.2.2.2.1.2.2.2.2.2.2.1 x.2.2.2.1.2.2.2.2.2.2.2.1 x.2.2.2.1.2.2.2.2.2.2.2.2.1 x.2.2.2.1.2.2.2.2.2.2.2.2.2.1 x.2.2.2.1.2.2.2.2.2.2.2.2.2.2.1 x.2.2.2.1.2.2.2.2.2.2.2.2.2.2.2.1 x.2.2.2.1.2.2.2.2.2.2.2.2.2.2.2.2.1 x.2.2.2.1.2.2.2.2.2.2.2.2.2.2.2.2.2.1 x.2.2.2.1.2.2.2.2.2.2.2.2.2.2.2.2.2.2.1 x.2.2.2.2.1.1 x.2.2.2.2.1.2.1 x.2.2.2.2.1.2.2.1 x.2.2.2.2.1.2.2.2.1 x.2.2.2.2.1.2.2.2.2.1 x.2.2.2.2.1.2.2.2.2.2.1 x.2.2.2.2.1.2.2.2.2.2.2.1 x.2.2.2.2.1.2.2.2.2.2.2.2.1 x.2.2.2.2.1.2.2.2.2.2.2.2.2.1 x.2.2.2.2.1.2.2.2.2.2.2.2.2.2.1 x.2.2.2.2.2.1.2.2.2.1 x.2.2.2.2.2.1.2.2.2.2.2.1 x.2.2.2.2.2.1.2.2.2.2.2.2.2.1 x.2.2.2.2.2.2.1.1 x.2.2.2.2.2.2.1.2.1 x.2.2.2.2.2.2.1.2.2.1 x.2.2.2.2.2.2.1.2.2.2.1 x.2.2.2.2.2.2.1.2.2.2.2.1 x.2.2.2.2.2.2.1.2.2.2.2.2.1 x.2.2.2.2.2.2.1.2.2.2.2.2.2.1 x.2.2.2.2.2.2.1.2.2.2.2.2.2.2.1 x.2.2.2.2.2.2.1.2.2.2.2.2.2.2.2.1 x.2.2.2.2.2.2.1.2.2.2.2.2.2.2.2.2.1) fun x r R kn kx kr=>kr ⟨[sL 12 (.vB r)],[],[.view .node x.2.1,.view .str x.2.2.1]⟩
def zcb_L:Nat→SubQ:=tblL [(4,zcb_l4),(3,zcb_l3),(2,zcb_l2),(1,zcb_l1),(0,zcb_l0)]
theorem zcb_sub4:qA0 zcb_L zcb_G 2 15 70 4 zcb_b4:=qAh (show zcb_L 4=zcb_l4 from by kernel_rfl) fun x R kn kx kr=>by
 simp only [zcb_p4,-eq_self,sZ];kernel_rfl
theorem zcb_sub3:qA0 zcb_L zcb_G 2 15 70 3 zcb_b3:=qAh (show zcb_L 3=zcb_l3 from by kernel_rfl) fun x R kn kx kr=>by
 simp only [zcb_p3,-eq_self,sZ];kernel_rfl
theorem zcb_sub2:qA0 zcb_L zcb_G 2 15 70 2 zcb_b2:=qAh (show zcb_L 2=zcb_l2 from by kernel_rfl) fun x R kn kx kr=>by
 simp only [zcb_p2,-eq_self,sZ];kernel_rfl
theorem zcb_sub1:qA0 zcb_L zcb_G 2 15 70 1 zcb_b1:=qAh (show zcb_L 1=zcb_l1 from by kernel_rfl) fun x R kn kx kr=>by
 simp only [zcb_p1,-eq_self,sZ];kernel_rfl
theorem zcb_sub0:qA0 zcb_L zcb_G 2 15 70 0 zcb_b0:=qAh (show zcb_L 0=zcb_l0 from by kernel_rfl) fun x R kn kx kr=>by
 simp only [zcb_p0,-eq_self,sZ];kernel_rfl
def zcb_c:CS:=mkC (qAa (dVC (dCA zDHQ2)) (qAa (dVC (dCO dZ)) (qAa (dVC (dCA zDHQ1)) (qAa (dVC (dCO dZ)) (qAa (dVC (dCA zDHQ1)) (qAa (dVC (dCO dZ)) dNil)))))) (qAa (qBa .node) (qAa (qBa .str) dNil)) (fun x y=>zcb_s (⟨y.1,x.1.2.1,x.1.2.2.1,x.1.2.2.2.1,x.1.2.2.2.2.1,y.2.1,x.1.2.2.2.2.2.2.1,x.1.2.2.2.2.2.2.2.1,x.1.2.2.2.2.2.2.2.2.1,(⟨x.1.2.2.2.2.2.2.2.2.2.1,x.1.2.2.2.2.2.2.2.2.2.2.1⟩:qGk),(⟨x.1.2.2.2.2.2.2.2.2.2.2.2.1,x.1.2.2.2.2.2.2.2.2.2.2.2.2.1⟩:qGk),(⟨x.1.2.2.2.2.2.2.2.2.2.2.2.2.2.1,x.1.2.2.2.2.2.2.2.2.2.2.2.2.2.2.1⟩:qGk)⟩:qGj) x.2.1 (⟨x.2.2.1.1,x.2.2.1.2.1,x.2.2.1.2.2.1,x.2.2.1.2.2.2.1,x.2.2.1.2.2.2.2.1,x.2.2.1.2.2.2.2.2.1,x.2.2.1.2.2.2.2.2.2.1,x.2.2.1.2.2.2.2.2.2.2.1,x.2.2.1.2.2.2.2.2.2.2.2.1,x.2.2.1.2.2.2.2.2.2.2.2.2.1⟩:qHc) x.2.2.2.1 (⟨x.2.2.2.2.1.1,x.2.2.2.2.1.2.1,x.2.2.2.2.1.2.2.1,x.2.2.2.2.1.2.2.2.1,x.2.2.2.2.1.2.2.2.2.1,x.2.2.2.2.1.2.2.2.2.2.1,x.2.2.2.2.1.2.2.2.2.2.2.1,x.2.2.2.2.1.2.2.2.2.2.2.2.1,x.2.2.2.2.1.2.2.2.2.2.2.2.2.1,x.2.2.2.2.1.2.2.2.2.2.2.2.2.2.1⟩:qHc) x.2.2.2.2.2.1) (fun x y r=>.c (.o (.vB r))) fun x y r=>[.view .node y.1,.view .str y.2.1]
theorem zcb_val:qAf Tryz.prog 3 zcb_c:=vl1 zcb_q [.tmp 12] 70 15 2 (show qA3 zcb_L zcb_G 2 15 70 [(0,zcb_b0),(1,zcb_b1),(2,zcb_b2),(3,zcb_b3),(4,zcb_b4)] from ⟨zcb_sub0,zcb_sub1,zcb_sub2,zcb_sub3,zcb_sub4,tV⟩) (qAq ⟨zcc_ok,zcm_ok,zcn_ok,zai_ok,tV⟩) fun x y=>by
 simp only [zcb_s,-eq_self,sZ];kernel_rfl
end
theorem quiet (m:BA→Int) (c:qGj) (a:Int) (client nonce:BA) (hasNonce:Bool) (access:BA) (hasAccess:Bool) (code:BA) (hasCode:Bool) (maxAge:Int) (hasAge:Bool) (leeway:Int) (n2 a2 c2:BA) (m2 now later:Int) :
  chkV m c a ⟨client,nonce,hasNonce,access,hasAccess,code,hasCode,maxAge,hasAge,leeway⟩ now=chkV m c a ⟨client,bif !hasNonce then n2 else nonce,hasNonce,bif !hasAccess then a2 else access,hasAccess,bif !hasCode then c2 else code,hasCode,bif !hasAge then m2 else maxAge,hasAge,leeway⟩ (bif !hasAge then later else now):=by
 unfold chkV qBx azpB qDe hashB ageB;cases hasNonce <;> cases hasAccess <;> cases hasCode <;> cases hasAge <;> simp only [Bool.false_and,Bool.true_and,Bool.not_false,Bool.not_true,cnT,cnF]
theorem quiet_p4 {m:BA→Int} {c:qGj} {a:Int} (hk:∀w n,qAc n→qF4 c a w n=some (chkV m c a w n)) {now when_:Int} (hn:qAc now) (hw:qAc when_) (w v:qHc) :
  zcb_p4 a now when_ c.value c.aud c.iss c.hasIss c.sub c.hasSub c.hasAud c.jti c.hasJti c.exp_.has c.exp_.at_ c.nbf.has c.nbf.at_ c.iat.has c.iat.at_ w.client w.nonce w.hasNonce w.access w.hasAccess w.code w.hasCode w.maxAge w.hasAge w.leeway v.client v.nonce v.hasNonce v.access v.hasAccess v.code v.hasCode v.maxAge v.hasAge v.leeway=some (decide (chkV m c a w now=chkV m c a v when_)):=by
 unfold zcb_p4;refine Eq.trans (b:=Option.bind (qF4 c a w now) fun r7=>(qF4 c a v when_).bind fun r8=>some (decide (r7=r8))) rfl ?_;rw [hk w now hn,hk v when_ hw];rfl
theorem idQuiet_plain {c:qGj} {a now later:Int} {w other:qHc} (hv:OkL c.value) (hi:∀n∈c.value,qAc n.int) (hl:c.aud.length≤3000000) (hn:qAc now) (hb:qAc later):zcb_s c a w now other later=some true:=by
 obtain ⟨b1,e1⟩:=beyond_total hv;obtain ⟨b2,e2,ht⟩:=shaped_some hv;unfold zcb_s;rw [awake_is,obS,Bool.not_true,cnF,e1,obS];cases b1 with
 | true=>rfl
 | false =>
 rw [cnF,e2,obS];cases b2 with
 | false=>rfl
 | true =>
 obtain ⟨m,hm⟩:=mem_tree hv.1 (ht rfl);have hk:∀w' n',qAc n'→qF4 c a w' n'=some (chkV m c a w' n'):=fun w' n' h=>check_v a w' n' hm hi hl h
 rw [Bool.not_true,cnF,qB9,qB9];obtain ⟨client,nonce,hasNonce,access,hasAccess,code,hasCode,maxAge,hasAge,leeway⟩:=w;have hq:=quiet m c a client nonce hasNonce access hasAccess code hasCode maxAge hasAge leeway other.nonce other.access other.code other.maxAge now later;have h4:=quiet_p4 hk hn (when_:=bif !hasAge then later else now) (by cases hasAge; exact hb; exact hn) ⟨client,nonce,hasNonce,access,hasAccess,code,hasCode,maxAge,hasAge,leeway⟩ ⟨client,bif !hasNonce then other.nonce else nonce,hasNonce,bif !hasAccess then other.access else access,hasAccess,bif !hasCode then other.code else code,hasCode,bif !hasAge then other.maxAge else maxAge,hasAge,leeway⟩;rw [deT hq] at h4;unfold zcb_p0 zcb_p1 zcb_p2 zcb_p3;simp only [qB9];cases hasNonce <;> cases hasAccess <;> cases hasCode <;> cases hasAge <;> exact h4
theorem idQuiet_tabs {W:World} (h:laidMetH Tryz.prog Rows.idQuietUptoRow.laid W):tabOK noX W:=by
 have h':laidMet Tryz.prog Rows.idQuietUptoRow.laid W:=h;have r:=fun {n d} hm=>Lib.laidMet.reads h' (n:=n) (d:=d) hm
 refine sha_tabs (r ?_) (r ?_) (r ?_) (r ?_) (r ?_) (r ?_) (r ?_) <;> (show _∈[_,_,_,_,_,_,_]; simp only [List.mem_cons,true_or,or_true])
theorem idQuiet_walk (valueV:Value) (value:List Eng.Node) (iss:BA) (hasIss:Bool) (sub:BA) (hasSub:Bool) (audV:Value) (aud:List BA) (hasAud:Bool) (jti:BA) (hasJti:Bool) (expH:Bool) (exp:Int) (nbfH:Bool) (nbf:Int) (iatH:Bool) (iat:Int) (a:Int) (client:BA) (nonce:BA) (hasNonce:Bool) (access:BA) (hasAccess:Bool) (code:BA) (hasCode:Bool) (maxAge:Int) (hasAge:Bool) (leeway:Int) (now:Int) (otherClient:BA) (otherNonce:BA) (otherHasNonce:Bool) (otherAccess:BA) (otherHasAccess:Bool) (otherCode:BA) (otherHasCode:Bool) (otherMaxAge:Int) (otherHasAge:Bool) (otherLeeway:Int) (later:Int) (W:World)
  (h0:qB8 noX W W .node valueV value∧(∀n∈value,NodeB 1048576 n)∧value.length≤1048576) (h1:iss.size≤1048576) (h2:sub.size≤1048576) (h3:qB8 noX W W .str audV aud∧(∀s∈aud,s.size≤1048576)∧aud.length≤1048576∧aud.length≤9223372036854775807) (h4:jti.size≤1048576) (h5 : -9223372036854775808≤exp∧exp≤9223372036854775807) (h6 : -9223372036854775808≤nbf∧nbf≤9223372036854775807) (h7 : -9223372036854775808≤iat∧iat≤9223372036854775807) (f1 : -9223372036854775808≤a∧a≤9223372036854775807) (g2client:client.size≤1048576) (g2nonce:nonce.size≤1048576) (g2access:access.size≤1048576) (g2code:code.size≤1048576) (g2maxAge : -9223372036854775808≤maxAge∧maxAge≤9223372036854775807) (g2leeway : -9223372036854775808≤leeway∧leeway≤9223372036854775807) (f3 : -9223372036854775808≤now∧now≤9223372036854775807) (g4client:otherClient.size≤1048576) (g4nonce:otherNonce.size≤1048576) (g4access:otherAccess.size≤1048576) (g4code:otherCode.size≤1048576) (g4maxAge : -9223372036854775808≤otherMaxAge∧otherMaxAge≤9223372036854775807) (g4leeway : -9223372036854775808≤otherLeeway∧otherLeeway≤9223372036854775807) (f5 : -9223372036854775808≤later∧later≤9223372036854775807) (hT:tabOK noX W) :
  Calls Tryz.prog 3 #[.agg #[valueV,.string iss,.bool hasIss,.string sub,.bool hasSub,audV,.bool hasAud,.string jti,.bool hasJti,.bool expH,.int .i64 exp,.bool nbfH,.int .i64 nbf,.bool iatH,.int .i64 iat],.int .i64 a,.agg #[.string client,.string nonce,.bool hasNonce,.string access,.bool hasAccess,.string code,.bool hasCode,.int .i64 maxAge,.bool hasAge,.int .i64 leeway],.int .i64 now,.agg #[.string otherClient,.string otherNonce,.bool otherHasNonce,.string otherAccess,.bool otherHasAccess,.string otherCode,.bool otherHasCode,.int .i64 otherMaxAge,.bool otherHasAge,.int .i64 otherLeeway],.int .i64 later] W fun e w'=>e=.returned (.bool true)∧LowB W w':=by
 refine callV zcb_val
  (args:=[.c (.agg [.own 0,.val (.string iss),.val (.bool hasIss),.val (.string sub),.val (.bool hasSub),.own 1,.val (.bool hasAud),.val (.string jti),.val (.bool hasJti),.val (.bool expH),.val (.int .i64 exp),.val (.bool nbfH),.val (.int .i64 nbf),.val (.bool iatH),.val (.int .i64 iat)]),.c (.o (.val (.int .i64 a))),.c (.agg [.val (.string client),.val (.string nonce),.val (.bool hasNonce),.val (.string access),.val (.bool hasAccess),.val (.string code),.val (.bool hasCode),.val (.int .i64 maxAge),.val (.bool hasAge),.val (.int .i64 leeway)]),.c (.o (.val (.int .i64 now))),.c (.agg [.val (.string otherClient),.val (.string otherNonce),.val (.bool otherHasNonce),.val (.string otherAccess),.val (.bool otherHasAccess),.val (.string otherCode),.val (.bool otherHasCode),.val (.int .i64 otherMaxAge),.val (.bool otherHasAge),.val (.int .i64 otherLeeway)]),.c (.o (.val (.int .i64 later)))])
  (hp:=[.view .node value,.view .str aud]) (hp':=[.view .node value,.view .str aud]) (v:=.c (.o (.val (.bool true)))) ?_ ?_ rfl W
  (views_sat (vs:=[valueV,audV]) ⟨h0.1,h3.1,tV⟩ hT) _ rfl
 ·show ((zcb_s ⟨value,iss,hasIss,sub,hasSub,aud,hasAud,jti,hasJti,⟨expH,exp⟩,⟨nbfH,nbf⟩,⟨iatH,iat⟩⟩ a ⟨client,nonce,hasNonce,access,hasAccess,code,hasCode,maxAge,hasAge,leeway⟩ now ⟨otherClient,otherNonce,otherHasNonce,otherAccess,otherHasAccess,otherCode,otherHasCode,otherMaxAge,otherHasAge,otherLeeway⟩ later).bind fun r=>some ((.c (.o (.val (.bool r))),[.view .node value,.view .str aud]):SV × List SB))=_;rw [idQuiet_plain (c:=⟨value,iss,hasIss,sub,hasSub,aud,hasAud,jti,hasJti,⟨expH,exp⟩,⟨nbfH,nbf⟩,⟨iatH,iat⟩⟩) (a:=a) (now:=now) (later:=later) (w:=⟨client,nonce,hasNonce,access,hasAccess,code,hasCode,maxAge,hasAge,leeway⟩) (other:=⟨otherClient,otherNonce,otherHasNonce,otherAccess,otherHasAccess,otherCode,otherHasCode,otherMaxAge,otherHasAge,otherLeeway⟩) ⟨by show value.length≤_; omega,fun n hn=>⟨by have:=(h0.2.1 n hn).key; omega,by have:=(h0.2.1 n hn).text; omega,(h0.2.1 n hn).kids⟩⟩ (fun n hn=>(h0.2.1 n hn).int) (by show aud.length≤_; omega) ⟨f3.1,f3.2⟩ ⟨f5.1,f5.2⟩];rfl
 ·intro x hx;simp only [List.mem_cons,List.not_mem_nil,or_false] at hx;rcases hx with rfl | rfl | rfl | rfl | rfl | rfl
  ·intro y hy;simp only [List.mem_cons,List.not_mem_nil,or_false] at hy;rcases hy with rfl | rfl | rfl | rfl | rfl | rfl | rfl | rfl | rfl | rfl | rfl | rfl | rfl | rfl | rfl <;> first | trivial | (show _<2; omega)
  ·trivial
  ·intro y hy;simp only [List.mem_cons,List.not_mem_nil,or_false] at hy;rcases hy with rfl | rfl | rfl | rfl | rfl | rfl | rfl | rfl | rfl | rfl <;> first | trivial | (show _<2; omega)
  ·trivial
  ·intro y hy;simp only [List.mem_cons,List.not_mem_nil,or_false] at hy;rcases hy with rfl | rfl | rfl | rfl | rfl | rfl | rfl | rfl | rfl | rfl <;> first | trivial | (show _<2; omega)
  ·trivial
noncomputable section
def zcd_b1:IQ:=(.join [] [] (.cond t9 (.seq (rg 2 [oP 2 (.mv (vI 2))]) (.cn [2] .ret)) (.seq (.seq (rg 14 [oP 15 (.bi .eql t3 (vI 3)),oM 14 t15]) (.cond t14 .skip (.seq (rg 14 [oP 16 (.bi .eql t3 (vI 6)),oM 14 t16]) (.cond t14 .skip (.seq (rg 14 [oP 17 (.bi .eql t3 (vI 9)),oM 14 t17]) (.cond t14 .skip (rg 14 [oP 18 (.bi .eql t3 (vI 12)),oM 14 t18]))))))) (.cond t14 (.seq (rg 2 [oP 2 (.mv (vI 3))]) (.cn [2] .ret)) .skip))))
def zcd_b0:IQ:=(.join [] [] (.cond t4 (.seq (rg 2 [oP 2 (.mv (vI 1))]) (.cn [2] .ret)) (.seq (.seq (rg 9 [oP 10 (.bi .eql t3 (vI 2)),oM 9 t10]) (.cond t9 .skip (.seq (rg 9 [oP 11 (.bi .eql t3 (vI 5)),oM 9 t11]) (.cond t9 .skip (.seq (rg 9 [oP 12 (.bi .eql t3 (vI 8)),oM 9 t12]) (.cond t9 .skip (rg 9 [oP 13 (.bi .eql t3 (vI 11)),oM 9 t13]))))))) (.cn [3,9] (.sub 1 zcd_b1)))))
def zcd_q:IQ:=(.seq (rg 2 [oP 2 (.mv (vI 0))]) (.seq (.seq (rg 3 [oM 3 t0]) (.block 0 (.seq (.seq (rg 4 [oP 5 (.bi .eql t3 (vI 1)),oM 4 t5]) (.cond t4 .skip (.seq (rg 4 [oP 6 (.bi .eql t3 (vI 4)),oM 4 t6]) (.cond t4 .skip (.seq (rg 4 [oP 7 (.bi .eql t3 (vI 7)),oM 4 t7]) (.cond t4 .skip (rg 4 [oP 8 (.bi .eql t3 (vI 10)),oM 4 t8]))))))) (.cn [3,4] (.sub 0 zcd_b0))))) (.seq (rg 2 [oP 2 (.mv (vI 0))]) (.cn [2] .ret))))
def zcd_p1 (x3_:Int) (x9_:Bool):Option (Int ⊕ Unit) :=
 bif x9_ then (
  some (.inl (2:Int)))
 else (
  bif decide (x3_=(3:Int)) then (
   bif decide (x3_=(3:Int)) then (
    some (.inl (3:Int)))
   else (
    some (.inr ())))
  else (
   bif decide (x3_=(6:Int)) then (
    bif decide (x3_=(6:Int)) then (
     some (.inl (3:Int)))
    else (
     some (.inr ())))
   else (
    bif decide (x3_=(9:Int)) then (
     bif decide (x3_=(9:Int)) then (
      some (.inl (3:Int)))
     else (
      some (.inr ())))
    else (
     bif decide (x3_=(12:Int)) then (
      some (.inl (3:Int)))
     else (
      some (.inr ()))))))
def zcd_p0 (x3_:Int) (x4_:Bool):Option (Int ⊕ Unit) :=
 bif x4_ then (
  some (.inl (1:Int)))
 else (
  bif decide (x3_=(2:Int)) then (
   (zcd_p1 x3_ (decide (x3_=(2:Int)))).bind fun o1=>(Sum.elim (fun (o1_0:Int) =>
    some (.inl o1_0)) (fun (o1_1:Unit) =>
    some (.inr ()))) o1)
  else (
   bif decide (x3_=(5:Int)) then (
    (zcd_p1 x3_ (decide (x3_=(5:Int)))).bind fun o2=>(Sum.elim (fun (o2_0:Int) =>
     some (.inl o2_0)) (fun (o2_1:Unit) =>
     some (.inr ()))) o2)
   else (
    bif decide (x3_=(8:Int)) then (
     (zcd_p1 x3_ (decide (x3_=(8:Int)))).bind fun o3=>(Sum.elim (fun (o3_0:Int) =>
      some (.inl o3_0)) (fun (o3_1:Unit) =>
      some (.inr ()))) o3)
    else (
     (zcd_p1 x3_ (decide (x3_=(11:Int)))).bind fun o4=>(Sum.elim (fun (o4_0:Int) =>
      some (.inl o4_0)) (fun (o4_1:Unit) =>
      some (.inr ()))) o4))))
def zcd_s (a:Int):Option Int :=
 bif decide (a=(1:Int)) then (
  (zcd_p0 a (decide (a=(1:Int)))).bind fun o5=>(Sum.elim (fun (o5_0:Int) =>
   some o5_0) (fun (o5_1:Unit) =>
   some (0:Int))) o5)
 else (
  bif decide (a=(4:Int)) then (
   (zcd_p0 a (decide (a=(4:Int)))).bind fun o6=>(Sum.elim (fun (o6_0:Int) =>
    some o6_0) (fun (o6_1:Unit) =>
    some (0:Int))) o6)
  else (
   bif decide (a=(7:Int)) then (
    (zcd_p0 a (decide (a=(7:Int)))).bind fun o7=>(Sum.elim (fun (o7_0:Int) =>
     some o7_0) (fun (o7_1:Unit) =>
     some (0:Int))) o7)
   else (
    (zcd_p0 a (decide (a=(10:Int)))).bind fun o8=>(Sum.elim (fun (o8_0:Int) =>
     some o8_0) (fun (o8_1:Unit) =>
     some (0:Int))) o8)))
def zcd_G:Nat→Option CQ:=tblQ []
def zcd_d1:=(dQS (qAa (dSO 3 dZ) (qAa (dSO 9 dB) dNil)) dNil)
def zcd_l1:SubQ:=mkL zcd_d1 (fun x=>zcd_p1 x.1.1 x.1.2.1) fun x r R kn kx kr=>(Sum.elim (fun (r_0:Int)=>kr ⟨[sL 2 (.vI r_0)],[],[]⟩) (fun (r_1:Unit)=>kn ⟨[],[],[]⟩)) r
def zcd_d0:=(dQS (qAa (dSO 3 dZ) (qAa (dSO 4 dB) dNil)) dNil)
def zcd_l0:SubQ:=mkL zcd_d0 (fun x=>zcd_p0 x.1.1 x.1.2.1) fun x r R kn kx kr=>(Sum.elim (fun (r_0:Int)=>kr ⟨[sL 2 (.vI r_0)],[],[]⟩) (fun (r_1:Unit)=>kn ⟨[],[],[]⟩)) r
def zcd_L:Nat→SubQ:=tblL [(1,zcd_l1),(0,zcd_l0)]
theorem zcd_sub1:qA0 zcd_L zcd_G 0 4 19 1 zcd_b1:=qAh (show zcd_L 1=zcd_l1 from by kernel_rfl) fun x R kn kx kr=>by
 simp only [zcd_p1,-eq_self,sZ];kernel_rfl
theorem zcd_sub0:qA0 zcd_L zcd_G 0 4 19 0 zcd_b0:=qAh (show zcd_L 0=zcd_l0 from by kernel_rfl) fun x R kn kx kr=>by
 simp only [zcd_p0,-eq_self,sZ];kernel_rfl
def zcd_c:CS:=mkC (qAa (dVC (dCO dZ)) dNil) dNil (fun x y=>zcd_s x.1) (fun x y r=>.c (.o (.vI r))) fun x y r=>[]
theorem zcd_val:qAf Tryz.prog 22 zcd_c:=vl1 zcd_q [.tmp 2] 19 4 0 (show qA3 zcd_L zcd_G 0 4 19 [(0,zcd_b0),(1,zcd_b1)] from ⟨zcd_sub0,zcd_sub1,tV⟩) (fun f C h=>by cases h) fun x y=>by
 simp only [zcd_s,-eq_self,sZ];kernel_rfl
def zcd_w:CQ:=qCc [] zcd_c
theorem zcd_ok:qAe Tryz.prog 22 zcd_w:=qAn zcd_val
def zcf_q:IQ:=(.seq (rg 6 [oP 6 (.mv vF)]) (.seq (rg 7 [oM 8 t0,oM 9 t1,oP 10 (.call 23 [t8,(vI 0),t9]),oM 7 t10]) (.seq (rg 6 [oM 11 t7,oP 12 (.bi .geq t11 (vI 0)),oM 13 t12,oF 14 (.mv t0) 13,oF 15 (.mv t7) 13,oF 16 (.iaddr 6 t14 t15) 13,oF 17 (.faddr 0 t16) 13,oF 18 (.load none t17) 13,oF 19 (.bi .eql t18 (vI 5)) 13,oP 20 (.pick t13 t19 vF),oM 21 t20,oF 22 (.mv t0) 21,oF 23 (.mv t7) 21,oF 24 (.iaddr 6 t22 t23) 21,oF 25 (.faddr 2 t24) 21,oF 26 (.load none t25) 21,oF 27 (.mv t2) 21,oF 28 (.bi .eql t26 t27) 21,oP 29 (.pick t21 t28 vF),oM 6 t29]) (.cn [6] .ret))))
def zcf_s (v:(List Eng.Node)) (name text:BA):Option Bool :=
 (zba_s v (0:Int) name).bind fun r1 =>
 gd ((decide ((0:Int)≤r1))=true→0≤r1∧r1<v.length) <|
 gd ((decide ((0:Int)≤r1))=true→(Int.toNat r1)<v.length) <|
 gd ((decide ((0:Int)≤r1))=true→(Int.toNat r1)<v.length) <|
 gd (((decide ((0:Int)≤r1)) && (decide (((v.getD (Int.toNat r1) (ET.dft .node)).kind)=(5:Int))))=true→0≤r1∧r1<v.length) <|
 gd (((decide ((0:Int)≤r1)) && (decide (((v.getD (Int.toNat r1) (ET.dft .node)).kind)=(5:Int))))=true→(Int.toNat r1)<v.length) <|
 gd (((decide ((0:Int)≤r1)) && (decide (((v.getD (Int.toNat r1) (ET.dft .node)).kind)=(5:Int))))=true→(Int.toNat r1)<v.length) <|
 some (((decide ((0:Int)≤r1)) && (decide (((v.getD (Int.toNat r1) (ET.dft .node)).kind)=(5:Int)))) && (decide (((v.getD (Int.toNat r1) (ET.dft .node)).text)=text)))
def zcf_c:CS:=mkC (qAa (dVC (dCO (dO 0))) (qAa (dVC (dCO dS)) (qAa (dVC (dCO dS)) dNil))) (qAa (qBa .node) dNil) (fun x y=>zcf_s y.1 x.2.1 x.2.2.1) (fun x y r=>.c (.o (.vB r))) fun x y r=>[.view .node y.1]
theorem zcf_val:qAf Tryz.prog 24 zcf_c:=vl0 zcf_q [.tmp 6] 30 8 1 [(23,zba_w)] ⟨zba_ok,tV⟩ fun x y=>by
 simp only [zcf_s,-eq_self,sZ];kernel_rfl
def zcf_w:CQ:=qBs [(0,none,some (.node,47))] (qCc [false] zcf_c)
theorem zcf_ok:qAe Tryz.prog 24 zcf_w:=qB3 zcf_val
def zce_q:IQ:=(.seq (rg 8 [oP 8 (.mv vF)]) (.seq (rg 9 [oM 11 t0,oP 12 (.bi .and t11 (vI 4294967295)),oM 13 t1,oP 14 (.bin true .add t12 t13),oM 15 t2,oP 16 (.bin true .add t14 t15),oM 9 t16]) (.seq (rg 10 [oM 17 t0,oP 18 (.bi .shr t17 (.v (.int .u64 32))),oM 19 t9,oP 20 (.bi .shr t19 (.v (.int .u64 32))),oP 21 (.bin true .add t18 t20),oM 10 t21]) (.seq (rg 9 [oM 22 t9,oP 23 (.bi .and t22 (vI 4294967295)),oM 9 t23]) (.seq (rg 8 [oM 24 t3,oP 25 (.bi .shr t24 (.v (.int .u64 32))),oM 26 t10,oP 27 (.bi .gtr t25 t26),oM 28 t27,oE 29 (.mv t3) 28,oE 30 (.bi .shr t29 (.v (.int .u64 32))) 28,oE 31 (.mv t10) 28,oE 32 (.bi .eql t30 t31) 28,oE 33 (.mv t32) 28,oF 34 (.mv t3) 33,oF 35 (.bi .and t34 (vI 4294967295)) 33,oF 36 (.mv t9) 33,oF 37 (.bi .gtr t35 t36) 33,oE 38 (.pick t33 t37 vF) 28,oP 39 (.pick t28 vT t38),oM 8 t39]) (.cn [8] .ret))))))
def zce_s (at_ age leeway now:Int):Option Bool :=
 gd (0≤(32:Int)) <|
 gd (0≤(32:Int)) <|
 gd (0≤(32:Int)) <|
 gd ((decide ((w64 ((at_ / 4294967296)+((w64 ((w64 ((qAm .i64 at_ (4294967295:Int))+age))+leeway)) / 4294967296)))<(now / 4294967296)))=false→0≤(32:Int)) <|
 some ((decide ((w64 ((at_ / 4294967296)+((w64 ((w64 ((qAm .i64 at_ (4294967295:Int))+age))+leeway)) / 4294967296)))<(now / 4294967296))) || ((decide ((now / 4294967296)=(w64 ((at_ / 4294967296)+((w64 ((w64 ((qAm .i64 at_ (4294967295:Int))+age))+leeway)) / 4294967296))))) && (decide ((qAm .i64 (w64 ((w64 ((qAm .i64 at_ (4294967295:Int))+age))+leeway)) (4294967295:Int))<(qAm .i64 now (4294967295:Int))))))
def zce_c:CS:=mkC (qAa (dVC (dCO dZ)) (qAa (dVC (dCO dZ)) (qAa (dVC (dCO dZ)) (qAa (dVC (dCO dZ)) dNil)))) dNil (fun x y=>zce_s x.1 x.2.1 x.2.2.1 x.2.2.2.1) (fun x y r=>.c (.o (.vB r))) fun x y r=>[]
theorem zce_val:qAf Tryz.prog 25 zce_c:=vl0 zce_q [.tmp 8] 40 11 0 [] trivial (raws:=[14,16,21]) fun x y=>by
 simp only [zce_s,-eq_self,sZ];kernel_rfl
def zce_w:CQ:=qCc [] zce_c
theorem zce_ok:qAe Tryz.prog 25 zce_w:=qAn zce_val
def zcg_b3:IQ:=(.loop [1,3,4,6,9,10,11,12] (.seq (.seq (rg 80 [oM 76 t12,oP 77 (.faddr 5 t4),oP 78 (.load none t77),oP 79 (.len t78),oP 80 (.bi .lss t76 t79)]) (.cond t80 .skip (.cn [1,3,4,6,9,10,11] (.exit 0)))) (.seq (.block 1 (.seq (.reg 10 (some [0,1,2,3,4,5,6,7,8,9,10,11]) [oM 83 t10,oM 84 t83,oE 85 (.faddr 5 t4) 84,oE 86 (.load none t85) 84,oE 87 (.mv t12) 84,oE 88 (.iaddr 1 t86 t87) 84,oE 89 (.load none t88) 84,oE 90 (.faddr 0 t6) 84,oE 91 (.load none t90) 84,oE 92 (.bi .eql t89 t91) 84,oP 93 (.pick t84 vT t92),oM 10 t93]) (.reg 11 (some [0,1,2,3,4,5,6,7,8,9,10,11]) [oM 94 t11,oM 95 t94,oE 96 (.faddr 5 t4) 95,oE 97 (.load none t96) 95,oE 98 (.mv t12) 95,oE 99 (.iaddr 1 t97 t98) 95,oE 100 (.load none t99) 95,oE 101 (.faddr 0 t6) 95,oE 102 (.load none t101) 95,oE 103 (.bi .neq t100 t102) 95,oP 104 (.pick t95 vT t103),oM 11 t104]))) (rg 12 [oM 81 t12,oP 82 (.bi .add t81 (vI 1)),oM 12 t82]))))
def zcg_b7:IQ:=(.seq (rg 18 [oP 179 (.faddr 0 t4),oP 180 (.load none t179),oP 181 (.call 23 [t180,(vI 0),(.v (.string ⟨#[97,117,116,104,95,116,105,109,101]⟩))]),oM 18 t181]) (.seq (.seq (.reg 219 (some [0,1,2,3,4,5,6,7,8,9,10,11,12,13,14,15,16,17,18,19,20,21,22,23,24,25,26,27,28,29,30,31,32,33,34,35,36,37]) [oP 182 (.faddr 8 t6),oP 183 (.load none t182),oM 184 t183,oF 185 (.mv t18) 184,oF 186 (.bi .lss t185 (vI 0)) 184,oF 187 (.mv t186) 184,oE 188 (.faddr 0 t4) 187,oE 189 (.load none t188) 187,oE 190 (.mv t18) 187,oE 191 (.iaddr 6 t189 t190) 187,oE 192 (.faddr 0 t191) 187,oE 193 (.load none t192) 187,oE 194 (.bi .neq t193 (vI 4)) 187,oF 195 (.pick t187 vT t194) 184,oF 196 (.mv t195) 184,oE 197 (.faddr 0 t4) 196,oE 198 (.load none t197) 196,oE 199 (.mv t18) 196,oE 200 (.iaddr 6 t198 t199) 196,oE 201 (.faddr 3 t200) 196,oE 202 (.load none t201) 196,oE 203 (.un .not t202) 196,oF 204 (.pick t196 vT t203) 184,oF 205 (.mv t204) 184,oE 206 (.faddr 0 t4) 205,oE 207 (.load none t206) 205,oE 208 (.mv t18) 205,oE 209 (.iaddr 6 t207 t208) 205,oE 210 (.faddr 4 t209) 205,oE 211 (.load none t210) 205,oE 212 (.faddr 7 t6) 205,oE 213 (.load none t212) 205,oE 214 (.faddr 9 t6) 205,oE 215 (.load none t214) 205,oE 216 (.mv t3) 205,oE 217 (.call 25 [t211,t213,t215,t216]) 205,oF 218 (.pick t205 vT t217) 184,oP 219 (.pick t184 t218 vF)]) (.cond t219 (rg 0 [oM 220 t9,oP 221 (.iaddr 1 t220 (vI 7)),oN (.store 1 t221 (vI 153))]) .skip)) (.seq (rg 8 [oM 222 t9,oM 8 t222]) (.canon [(8,none,.i64,33)] [8] .ret))))
def zcg_b6:IQ:=(.seq (rg 15 [oM 144 t1,oP 145 (.faddr 3 t6),oP 146 (.load none t145),oP 147 (.call 12 [t144,t146]),oM 143 t147,oP 148 (.extract t143 0),oP 149 (.extract t143 1),oM 14 t148,oM 15 t149]) (.seq (rg 17 [oM 151 t1,oP 152 (.faddr 5 t6),oP 153 (.load none t152),oP 154 (.call 12 [t151,t153]),oM 150 t154,oP 155 (.extract t150 0),oP 156 (.extract t150 1),oM 16 t155,oM 17 t156]) (.seq (.seq (rg 176 [oP 157 (.faddr 4 t6),oP 158 (.load none t157),oM 159 t158,oF 160 (.faddr 0 t4) 159,oF 161 (.load none t160) 159,oF 162 (.mv t14) 159,oF 163 (.call 24 [t161,(.v (.string ⟨#[97,116,95,104,97,115,104]⟩)),t162]) 159,oF 164 (.un .not t163) 159,oP 165 (.pick t159 t164 vF),oM 166 t165,oE 167 (.faddr 6 t6) 166,oE 168 (.load none t167) 166,oE 169 (.mv t168) 166,oF 170 (.faddr 0 t4) 169,oF 171 (.load none t170) 169,oF 172 (.mv t16) 169,oF 173 (.call 24 [t171,(.v (.string ⟨#[99,95,104,97,115,104]⟩)),t172]) 169,oF 174 (.un .not t173) 169,oE 175 (.pick t169 t174 vF) 166,oP 176 (.pick t166 vT t175)]) (.cond t176 (rg 0 [oM 177 t9,oP 178 (.iaddr 1 t177 (vI 6)),oN (.store 1 t178 (vI 152))]) .skip)) (.cn [3,4,6,9] (.sub 7 zcg_b7)))))
def zcg_b5:IQ:=(.seq (.seq (rg 140 [oP 131 (.faddr 2 t6),oP 132 (.load none t131),oM 133 t132,oF 134 (.faddr 0 t4) 133,oF 135 (.load none t134) 133,oF 136 (.faddr 1 t6) 133,oF 137 (.load none t136) 133,oF 138 (.call 24 [t135,(.v (.string ⟨#[110,111,110,99,101]⟩)),t137]) 133,oF 139 (.un .not t138) 133,oP 140 (.pick t133 t139 vF)]) (.cond t140 (rg 0 [oM 141 t9,oP 142 (.iaddr 1 t141 (vI 5)),oN (.store 1 t142 (vI 150))]) .skip)) (.cn [1,3,4,6,9] (.sub 6 zcg_b6)))
def zcg_b4:IQ:=(.seq (rg 13 [oP 109 (.faddr 0 t4),oP 110 (.load none t109),oP 111 (.call 23 [t110,(vI 0),(.v (.string ⟨#[97,122,112]⟩))]),oP 112 (.bi .geq t111 (vI 0)),oM 13 t112]) (.seq (.seq (rg 128 [oM 113 t13,oM 114 t113,oF 115 (.faddr 0 t4) 114,oF 116 (.load none t115) 114,oF 117 (.faddr 0 t6) 114,oF 118 (.load none t117) 114,oF 119 (.call 24 [t116,(.v (.string ⟨#[97,122,112]⟩)),t118]) 114,oF 120 (.un .not t119) 114,oP 121 (.pick t114 t120 vF),oM 122 t121,oE 123 (.mv t13) 122,oE 124 (.un .not t123) 122,oE 125 (.mv t124) 122,oF 126 (.mv t11) 125,oE 127 (.pick t125 t126 vF) 122,oP 128 (.pick t122 vT t127)]) (.cond t128 (rg 0 [oM 129 t9,oP 130 (.iaddr 1 t129 (vI 4)),oN (.store 1 t130 (vI 151))]) .skip)) (.cn [1,3,4,6,9] (.sub 5 zcg_b5))))
def zcg_b2:IQ:=(.seq (rg 10 [oP 10 (.mv vF)]) (.seq (rg 11 [oP 11 (.mv vF)]) (.seq (.seq (rg 12 [oP 12 (.mv (vI 0))]) (.block 0 (.cn [1,3,4,6,9,10,11,12] (.sub 3 zcg_b3)))) (.seq (.seq (rg 106 [oM 105 t10,oP 106 (.un .not t105)]) (.cond t106 (rg 0 [oM 107 t9,oP 108 (.iaddr 1 t107 (vI 3)),oN (.store 1 t108 (vI 133))]) .skip)) (.cn [1,3,4,6,9,11] (.sub 4 zcg_b4))))))
def zcg_b1:IQ:=(.seq (.seq (rg 73 [oP 49 (.faddr 2 t4),oP 50 (.load none t49),oP 51 (.un .not t50),oM 52 t51,oE 53 (.faddr 4 t4) 52,oE 54 (.load none t53) 52,oE 55 (.un .not t54) 52,oP 56 (.pick t52 vT t55),oM 57 t56,oE 58 (.faddr 6 t4) 57,oE 59 (.load none t58) 57,oE 60 (.un .not t59) 57,oP 61 (.pick t57 vT t60),oM 62 t61,oE 63 (.faddr 9 t4) 62,oE 64 (.faddr 0 t63) 62,oE 65 (.load none t64) 62,oE 66 (.un .not t65) 62,oP 67 (.pick t62 vT t66),oM 68 t67,oE 69 (.faddr 13 t4) 68,oE 70 (.faddr 0 t69) 68,oE 71 (.load none t70) 68,oE 72 (.un .not t71) 68,oP 73 (.pick t68 vT t72)]) (.cond t73 (rg 0 [oM 74 t9,oP 75 (.iaddr 1 t74 (vI 2)),oN (.store 1 t75 (vI 137))]) .skip)) (.cn [1,3,4,6,9] (.sub 2 zcg_b2)))
def zcg_b0:IQ:=(.seq (.seq (rg 46 [oM 44 t1,oP 45 (.call 22 [t44]),oP 46 (.bi .eql t45 (vI 0))]) (.cond t46 (rg 0 [oM 47 t9,oP 48 (.iaddr 1 t47 (vI 1)),oN (.store 1 t48 (vI 111))]) .skip)) (.cn [1,3,4,6,9] (.sub 1 zcg_b1)))
def zcg_q:IQ:=(.seq (rg 8 [oP 4 (.box 27 15 t0),oP 6 (.box 30 10 t2),oP 8 (.mv (.v (.slice none 0 0)))]) (.seq (rg 9 [oP 19 (.ext (.mkslice 33 1 8 [.int .i64 0]) [(vI 8),(vI 8)]),oM 9 t19]) (.seq (.seq (rg 41 [oP 20 (.faddr 9 t6),oP 21 (.load none t20),oP 22 (.bi .lss t21 (vI 0)),oM 23 t22,oE 24 (.faddr 9 t6) 23,oE 25 (.load none t24) 23,oE 26 (.bi .gtr t25 (vI 600)) 23,oP 27 (.pick t23 vT t26),oM 28 t27,oE 29 (.faddr 8 t6) 28,oE 30 (.load none t29) 28,oE 31 (.mv t30) 28,oF 32 (.faddr 7 t6) 31,oF 33 (.load none t32) 31,oF 34 (.bi .lss t33 (vI 0)) 31,oF 35 (.mv t34) 31,oE 36 (.faddr 7 t6) 35,oE 37 (.load none t36) 35,oE 38 (.bi .gtr t37 (vI 2147483648)) 35,oF 39 (.pick t35 vT t38) 31,oE 40 (.pick t31 t39 vF) 28,oP 41 (.pick t28 vT t40)]) (.cond t41 (rg 0 [oM 42 t9,oP 43 (.iaddr 1 t42 (vI 0)),oN (.store 1 t43 (vI 12))]) .skip)) (.cn [1,3,4,6,9] (.sub 0 zcg_b0)))))
def qC9 (mine others:Bool) (i:Int) (c_aud:List BA) (qGx:BA):Option ((Bool × Bool × Int) ⊕ (Bool × Bool)) :=
 bif decide (i<(c_aud.length:Int)) then (
  gd (mine=false→0≤i∧i<c_aud.length) <|
  gd (mine=false→(Int.toNat i)<c_aud.length) <|
  gd (others=false→0≤i∧i<c_aud.length) <|
  gd (others=false→(Int.toNat i)<c_aud.length) <|
  gd (qAc (i+(1:Int))) <|
  some (.inl ((mine || (decide ((c_aud.getD (Int.toNat i) (ET.dft .str))=qGx))),(others || (!decide ((c_aud.getD (Int.toNat i) (ET.dft .str))=qGx))),(i+(1:Int)))))
 else (
  some (.inr (mine,others)))
def zcg_p3 (mine others:Bool) (i:Int) (c_aud:List BA) (qGx:BA):Option (Bool × Bool) :=
 qAt (fun x:(Bool × Bool × Int)=>qC9 x.1 x.2.1 x.2.2 c_aud qGx) (mine,others,i)
def zcg_p7 (now:Int) (c_value:List Eng.Node) (qGp:Int) (qGn:Bool) (qGs:Int) (l:List Int):Option ((List Int)) :=
 (zba_s c_value (0:Int) (⟨#[97,117,116,104,95,116,105,109,101]⟩:BA)).bind fun r12 =>
 gd ((decide (r12<(0:Int)))=false→qGn=true→0≤r12∧r12<c_value.length) <|
 gd ((decide (r12<(0:Int)))=false→qGn=true→(Int.toNat r12)<c_value.length) <|
 gd ((decide (r12<(0:Int)))=false→qGn=true→(Int.toNat r12)<c_value.length) <|
 gd (((decide (r12<(0:Int))) || (!decide (((c_value.getD (Int.toNat r12) (ET.dft .node)).kind)=(4:Int))))=false→qGn=true→0≤r12∧r12<c_value.length) <|
 gd (((decide (r12<(0:Int))) || (!decide (((c_value.getD (Int.toNat r12) (ET.dft .node)).kind)=(4:Int))))=false→qGn=true→(Int.toNat r12)<c_value.length) <|
 gd (((decide (r12<(0:Int))) || (!decide (((c_value.getD (Int.toNat r12) (ET.dft .node)).kind)=(4:Int))))=false→qGn=true→(Int.toNat r12)<c_value.length) <|
 gd ((((decide (r12<(0:Int))) || (!decide (((c_value.getD (Int.toNat r12) (ET.dft .node)).kind)=(4:Int)))) || (!((c_value.getD (Int.toNat r12) (ET.dft .node)).whole)))=false→qGn=true→0≤r12∧r12<c_value.length) <|
 gd ((((decide (r12<(0:Int))) || (!decide (((c_value.getD (Int.toNat r12) (ET.dft .node)).kind)=(4:Int)))) || (!((c_value.getD (Int.toNat r12) (ET.dft .node)).whole)))=false→qGn=true→(Int.toNat r12)<c_value.length) <|
 gd ((((decide (r12<(0:Int))) || (!decide (((c_value.getD (Int.toNat r12) (ET.dft .node)).kind)=(4:Int)))) || (!((c_value.getD (Int.toNat r12) (ET.dft .node)).whole)))=false→qGn=true→(Int.toNat r12)<c_value.length) <|
 (zce_s ((c_value.getD (Int.toNat r12) (ET.dft .node)).int) qGp qGs now).bind fun r13 =>
 bif (qGn && ((((decide (r12<(0:Int))) || (!decide (((c_value.getD (Int.toNat r12) (ET.dft .node)).kind)=(4:Int)))) || (!((c_value.getD (Int.toNat r12) (ET.dft .node)).whole))) || r13)) then (
  gd (0≤(7:Int)∧(7:Int)<l.length) <|
  gd ((Int.toNat (7:Int))<l.length) <|
  some (l.set (Int.toNat (7:Int)) (153:Int)))
 else (
  some l)
def zcg_p6 (a now:Int) (c_value:List Eng.Node) (qGu:BA) (qGo:Bool) (qG8:BA) (qGq:Bool) (qGp:Int) (qGn:Bool) (qGs:Int) (l:List Int):Option ((List Int)) :=
 (zaj_s a qGu).bind fun r9 =>
 (zaj_s a qG8).bind fun r10 =>
 bif qGo then (
  (zcf_s c_value (⟨#[97,116,95,104,97,115,104]⟩:BA) r9.1).bind fun r11 =>
  bif (!r11) then (
   gd (0≤(6:Int)∧(6:Int)<l.length) <|
   gd ((Int.toNat (6:Int))<l.length) <|
   (zcg_p7 now c_value qGp qGn qGs (l.set (Int.toNat (6:Int)) (152:Int))).bind fun o14 =>
   some o14)
  else (
   bif qGq then (
    (zcf_s c_value (⟨#[99,95,104,97,115,104]⟩:BA) r10.1).bind fun r15 =>
    bif (!r15) then (
     gd (0≤(6:Int)∧(6:Int)<l.length) <|
     gd ((Int.toNat (6:Int))<l.length) <|
     (zcg_p7 now c_value qGp qGn qGs (l.set (Int.toNat (6:Int)) (152:Int))).bind fun o16 =>
     some o16)
    else (
     (zcg_p7 now c_value qGp qGn qGs l).bind fun o17 =>
     some o17))
   else (
    (zcg_p7 now c_value qGp qGn qGs l).bind fun o18 =>
    some o18)))
 else (
  bif qGq then (
   (zcf_s c_value (⟨#[99,95,104,97,115,104]⟩:BA) r10.1).bind fun r19 =>
   bif (!r19) then (
    gd (0≤(6:Int)∧(6:Int)<l.length) <|
    gd ((Int.toNat (6:Int))<l.length) <|
    (zcg_p7 now c_value qGp qGn qGs (l.set (Int.toNat (6:Int)) (152:Int))).bind fun o20 =>
    some o20)
   else (
    (zcg_p7 now c_value qGp qGn qGs l).bind fun o21 =>
    some o21))
  else (
   (zcg_p7 now c_value qGp qGn qGs l).bind fun o22 =>
   some o22))
def zcg_p5 (a now:Int) (c_value:List Eng.Node) (qG7:BA) (qGt:Bool) (qGu:BA) (qGo:Bool) (qG8:BA) (qGq:Bool) (qGp:Int) (qGn:Bool) (qGs:Int) (l:List Int):Option ((List Int)) :=
 bif qGt then (
  (zcf_s c_value (⟨#[110,111,110,99,101]⟩:BA) qG7).bind fun r8 =>
  bif (!r8) then (
   gd (0≤(5:Int)∧(5:Int)<l.length) <|
   gd ((Int.toNat (5:Int))<l.length) <|
   (zcg_p6 a now c_value qGu qGo qG8 qGq qGp qGn qGs (l.set (Int.toNat (5:Int)) (150:Int))).bind fun o23 =>
   some o23)
  else (
   (zcg_p6 a now c_value qGu qGo qG8 qGq qGp qGn qGs l).bind fun o24 =>
   some o24))
 else (
  (zcg_p6 a now c_value qGu qGo qG8 qGq qGp qGn qGs l).bind fun o25 =>
  some o25)
def zcg_p4 (a now:Int) (others:Bool) (c_value:List Eng.Node) (qGx qG7:BA) (qGt:Bool) (qGu:BA) (qGo:Bool) (qG8:BA) (qGq:Bool) (qGp:Int) (qGn:Bool) (qGs:Int) (l:List Int):Option ((List Int)) :=
 (zba_s c_value (0:Int) (⟨#[97,122,112]⟩:BA)).bind fun r6 =>
 bif decide ((0:Int)≤r6) then (
  (zcf_s c_value (⟨#[97,122,112]⟩:BA) qGx).bind fun r7 =>
  bif ((!r7) || ((!(decide ((0:Int)≤r6))) && others)) then (
   gd (0≤(4:Int)∧(4:Int)<l.length) <|
   gd ((Int.toNat (4:Int))<l.length) <|
   (zcg_p5 a now c_value qG7 qGt qGu qGo qG8 qGq qGp qGn qGs (l.set (Int.toNat (4:Int)) (151:Int))).bind fun o26 =>
   some o26)
  else (
   (zcg_p5 a now c_value qG7 qGt qGu qGo qG8 qGq qGp qGn qGs l).bind fun o27 =>
   some o27))
 else (
  bif ((!(decide ((0:Int)≤r6))) && others) then (
   gd (0≤(4:Int)∧(4:Int)<l.length) <|
   gd ((Int.toNat (4:Int))<l.length) <|
   (zcg_p5 a now c_value qG7 qGt qGu qGo qG8 qGq qGp qGn qGs (l.set (Int.toNat (4:Int)) (151:Int))).bind fun o28 =>
   some o28)
  else (
   (zcg_p5 a now c_value qG7 qGt qGu qGo qG8 qGq qGp qGn qGs l).bind fun o29 =>
   some o29))
def zcg_p2 (a now:Int) (c_value:List Eng.Node) (c_aud:List BA) (qGx qG7:BA) (qGt:Bool) (qGu:BA) (qGo:Bool) (qG8:BA) (qGq:Bool) (qGp:Int) (qGn:Bool) (qGs:Int) (l:List Int):Option ((List Int)) :=
 (zcg_p3 false false (0:Int) c_aud qGx).bind fun o5 =>
 bif (!o5.1) then (
  gd (0≤(3:Int)∧(3:Int)<l.length) <|
  gd ((Int.toNat (3:Int))<l.length) <|
  (zcg_p4 a now o5.2 c_value qGx qG7 qGt qGu qGo qG8 qGq qGp qGn qGs (l.set (Int.toNat (3:Int)) (133:Int))).bind fun o30 =>
  some o30)
 else (
  (zcg_p4 a now o5.2 c_value qGx qG7 qGt qGu qGo qG8 qGq qGp qGn qGs l).bind fun o31 =>
  some o31)
def zcg_p1 (a now:Int) (c_value:List Eng.Node) (c_aud:List BA) (qG5 qG6 qG4 qGz qG0:Bool) (qGx qG7:BA) (qGt:Bool) (qGu:BA) (qGo:Bool) (qG8:BA) (qGq:Bool) (qGp:Int) (qGn:Bool) (qGs:Int) (l:List Int):Option ((List Int)) :=
 bif (((((!qG5) || (!qG6)) || (!qG4)) || (!qGz)) || (!qG0)) then (
  gd (0≤(2:Int)∧(2:Int)<l.length) <|
  gd ((Int.toNat (2:Int))<l.length) <|
  (zcg_p2 a now c_value c_aud qGx qG7 qGt qGu qGo qG8 qGq qGp qGn qGs (l.set (Int.toNat (2:Int)) (137:Int))).bind fun o32 =>
  some o32)
 else (
  (zcg_p2 a now c_value c_aud qGx qG7 qGt qGu qGo qG8 qGq qGp qGn qGs l).bind fun o33 =>
  some o33)
def zcg_p0 (a now:Int) (c_value:List Eng.Node) (c_aud:List BA) (qG5 qG6 qG4 qGz qG0:Bool) (qGx qG7:BA) (qGt:Bool) (qGu:BA) (qGo:Bool) (qG8:BA) (qGq:Bool) (qGp:Int) (qGn:Bool) (qGs:Int) (l:List Int):Option ((List Int)) :=
 (zcd_s a).bind fun r4 =>
 bif decide (r4=(0:Int)) then (
  gd (0≤(1:Int)∧(1:Int)<l.length) <|
  gd ((Int.toNat (1:Int))<l.length) <|
  (zcg_p1 a now c_value c_aud qG5 qG6 qG4 qGz qG0 qGx qG7 qGt qGu qGo qG8 qGq qGp qGn qGs (l.set (Int.toNat (1:Int)) (111:Int))).bind fun o34 =>
  some o34)
 else (
  (zcg_p1 a now c_value c_aud qG5 qG6 qG4 qGz qG0 qGx qG7 qGt qGu qGo qG8 qGq qGp qGn qGs l).bind fun o35 =>
  some o35)
def zcg_s (c:qGj) (a:Int) (w:qHc) (now:Int):Option ((List Int)) :=
 gd (0≤(8:Int)∧(8:Int)≤(8:Int)∧(8:Int)≤9223372036854775807∧(8:Int)*8≤140737488355328) <|
 bif (((decide (w.leeway<(0:Int))) || (decide ((600:Int)<w.leeway))) || (w.hasAge && ((decide (w.maxAge<(0:Int))) || (decide ((2147483648:Int)<w.maxAge))))) then (
  gd (0≤(0:Int)∧(0:Int)<(List.replicate 8 (0:Int)).length) <|
  gd ((Int.toNat (0:Int))<(List.replicate 8 (0:Int)).length) <|
  (zcg_p0 a now c.value c.aud c.hasIss c.hasSub c.hasAud c.exp_.has c.iat.has w.client w.nonce w.hasNonce w.access w.hasAccess w.code w.hasCode w.maxAge w.hasAge w.leeway ((List.replicate 8 (0:Int)).set (Int.toNat (0:Int)) (12:Int))).bind fun o36 =>
  some o36)
 else (
  (zcg_p0 a now c.value c.aud c.hasIss c.hasSub c.hasAud c.exp_.has c.iat.has w.client w.nonce w.hasNonce w.access w.hasAccess w.code w.hasCode w.maxAge w.hasAge w.leeway (List.replicate 8 (0:Int))).bind fun o37 =>
  some o37)
def zcg_G:Nat→Option CQ:=tblQ [(22,zcd_w),(23,zba_w),(24,zcf_w),(12,zaj_w),(25,zce_w)]
def zDHJ3:=(qAa (dO 0) (qAa dS (qAa dB (qAa dS (qAa dB (qAa (dO 1) (qAa dB (qAa dS (qAa dB (qAa dB (qAa dZ (qAa dB (qAa dZ (qAa dB (qAa dZ dNil)))))))))))))))
def zDHJ4:=(qAa dS (qAa dS (qAa dB (qAa dS (qAa dB (qAa dS (qAa dB (qAa dZ (qAa dB (qAa dZ dNil))))))))))
def zDHJ1:=(qAa (qBa .node) (qAa (qBa .str) (qAa (qBi 27 zDHJ3) (qAa (qBi 30 zDHJ4) (qAa (dRow .i64 33) dNil)))))
def zcg_d3:=(dQS (qAa (dSO 1 dZ) (qAa (dSO 3 dZ) (qAa (dSO 4 (dH 2 0)) (qAa (dSO 6 (dH 3 0)) (qAa (dSO 9 (dO 4)) (qAa (dSO 10 dB) (qAa (dSO 11 dB) (qAa (dSO 12 dZ) dNil)))))))) zDHJ1)
def zcg_l3:SubQ:=mkL zcg_d3 (fun x=>zcg_p3 x.1.2.2.2.2.2.1 x.1.2.2.2.2.2.2.1 x.1.2.2.2.2.2.2.2.1 x.2.2.1 x.2.2.2.2.1.1) fun x r R kn kx kr=>kx 0 ⟨[sL 1 (.vI x.1.1),sL 3 (.vI x.1.2.1),sL 4 (.hd 2 0),sL 6 (.hd 3 0),sL 9 (.own 4),sL 10 (.vB r.1),sL 11 (.vB r.2)],[],[.view .node x.2.1,.view .str x.2.2.1,.cells 27 [.own 0,.vS x.2.2.2.1.2.1,.vB x.2.2.2.1.2.2.1,.vS x.2.2.2.1.2.2.2.1,.vB x.2.2.2.1.2.2.2.2.1,.own 1,.vB x.2.2.2.1.2.2.2.2.2.2.1,.vS x.2.2.2.1.2.2.2.2.2.2.2.1,.vB x.2.2.2.1.2.2.2.2.2.2.2.2.1,.vB x.2.2.2.1.2.2.2.2.2.2.2.2.2.1,.vI x.2.2.2.1.2.2.2.2.2.2.2.2.2.2.1,.vB x.2.2.2.1.2.2.2.2.2.2.2.2.2.2.2.1,.vI x.2.2.2.1.2.2.2.2.2.2.2.2.2.2.2.2.1,.vB x.2.2.2.1.2.2.2.2.2.2.2.2.2.2.2.2.2.1,.vI x.2.2.2.1.2.2.2.2.2.2.2.2.2.2.2.2.2.2.1],.cells 30 [.vS x.2.2.2.2.1.1,.vS x.2.2.2.2.1.2.1,.vB x.2.2.2.2.1.2.2.1,.vS x.2.2.2.2.1.2.2.2.1,.vB x.2.2.2.2.1.2.2.2.2.1,.vS x.2.2.2.2.1.2.2.2.2.2.1,.vB x.2.2.2.2.1.2.2.2.2.2.2.1,.vI x.2.2.2.2.1.2.2.2.2.2.2.2.1,.vB x.2.2.2.2.1.2.2.2.2.2.2.2.2.1,.vI x.2.2.2.2.1.2.2.2.2.2.2.2.2.2.1],.row .i64 33 x.2.2.2.2.2.1]⟩
def zDHJ2:=(qAa (dSO 3 dZ) (qAa (dSO 4 (dH 2 0)) (qAa (dSO 6 (dH 3 0)) (qAa (dSO 9 (dO 4)) dNil))))
def zcg_d7:=(dQS zDHJ2 zDHJ1)
def zcg_l7:SubQ:=mkL zcg_d7 (fun x=>zcg_p7 x.1.1 x.2.1 x.2.2.2.2.1.2.2.2.2.2.2.2.1 x.2.2.2.2.1.2.2.2.2.2.2.2.2.1 x.2.2.2.2.1.2.2.2.2.2.2.2.2.2.1 x.2.2.2.2.2.1) fun x r R kn kx kr=>kr ⟨[sL 8 (.own 2)],[],[.view .node x.2.1,.view .str x.2.2.1,.row .i64 33 r]⟩
def zcg_d6:=(dQS (qAa (dSO 1 dZ) zDHJ2) zDHJ1)
def zcg_l6:SubQ:=mkL zcg_d6 (fun x=>zcg_p6 x.1.1 x.1.2.1 x.2.1 x.2.2.2.2.1.2.2.2.1 x.2.2.2.2.1.2.2.2.2.1 x.2.2.2.2.1.2.2.2.2.2.1 x.2.2.2.2.1.2.2.2.2.2.2.1 x.2.2.2.2.1.2.2.2.2.2.2.2.1 x.2.2.2.2.1.2.2.2.2.2.2.2.2.1 x.2.2.2.2.1.2.2.2.2.2.2.2.2.2.1 x.2.2.2.2.2.1) fun x r R kn kx kr=>kr ⟨[sL 8 (.own 2)],[],[.view .node x.2.1,.view .str x.2.2.1,.row .i64 33 r]⟩
def zcg_d5:=(dQS (qAa (dSO 1 dZ) zDHJ2) zDHJ1)
def zcg_l5:SubQ:=mkL zcg_d5 (fun x=>zcg_p5 x.1.1 x.1.2.1 x.2.1 x.2.2.2.2.1.2.1 x.2.2.2.2.1.2.2.1 x.2.2.2.2.1.2.2.2.1 x.2.2.2.2.1.2.2.2.2.1 x.2.2.2.2.1.2.2.2.2.2.1 x.2.2.2.2.1.2.2.2.2.2.2.1 x.2.2.2.2.1.2.2.2.2.2.2.2.1 x.2.2.2.2.1.2.2.2.2.2.2.2.2.1 x.2.2.2.2.1.2.2.2.2.2.2.2.2.2.1 x.2.2.2.2.2.1) fun x r R kn kx kr=>kr ⟨[sL 8 (.own 2)],[],[.view .node x.2.1,.view .str x.2.2.1,.row .i64 33 r]⟩
def zcg_d4:=(dQS (qAa (dSO 1 dZ) (qAa (dSO 3 dZ) (qAa (dSO 4 (dH 2 0)) (qAa (dSO 6 (dH 3 0)) (qAa (dSO 9 (dO 4)) (qAa (dSO 11 dB) dNil)))))) zDHJ1)
def zcg_l4:SubQ:=mkL zcg_d4 (fun x=>zcg_p4 x.1.1 x.1.2.1 x.1.2.2.2.2.2.1 x.2.1 x.2.2.2.2.1.1 x.2.2.2.2.1.2.1 x.2.2.2.2.1.2.2.1 x.2.2.2.2.1.2.2.2.1 x.2.2.2.2.1.2.2.2.2.1 x.2.2.2.2.1.2.2.2.2.2.1 x.2.2.2.2.1.2.2.2.2.2.2.1 x.2.2.2.2.1.2.2.2.2.2.2.2.1 x.2.2.2.2.1.2.2.2.2.2.2.2.2.1 x.2.2.2.2.1.2.2.2.2.2.2.2.2.2.1 x.2.2.2.2.2.1) fun x r R kn kx kr=>kr ⟨[sL 8 (.own 2)],[],[.view .node x.2.1,.view .str x.2.2.1,.row .i64 33 r]⟩
def zcg_d2:=(dQS (qAa (dSO 1 dZ) zDHJ2) zDHJ1)
def zcg_l2:SubQ:=mkL zcg_d2 (fun x=>zcg_p2 x.1.1 x.1.2.1 x.2.1 x.2.2.1 x.2.2.2.2.1.1 x.2.2.2.2.1.2.1 x.2.2.2.2.1.2.2.1 x.2.2.2.2.1.2.2.2.1 x.2.2.2.2.1.2.2.2.2.1 x.2.2.2.2.1.2.2.2.2.2.1 x.2.2.2.2.1.2.2.2.2.2.2.1 x.2.2.2.2.1.2.2.2.2.2.2.2.1 x.2.2.2.2.1.2.2.2.2.2.2.2.2.1 x.2.2.2.2.1.2.2.2.2.2.2.2.2.2.1 x.2.2.2.2.2.1) fun x r R kn kx kr=>kr ⟨[sL 8 (.own 2)],[],[.view .node x.2.1,.view .str x.2.2.1,.row .i64 33 r]⟩
def zcg_d1:=(dQS (qAa (dSO 1 dZ) zDHJ2) zDHJ1)
def zcg_l1:SubQ:=mkL zcg_d1 (fun x=>zcg_p1 x.1.1 x.1.2.1 x.2.1 x.2.2.1 x.2.2.2.1.2.2.1 x.2.2.2.1.2.2.2.2.1 x.2.2.2.1.2.2.2.2.2.2.1 x.2.2.2.1.2.2.2.2.2.2.2.2.2.1 x.2.2.2.1.2.2.2.2.2.2.2.2.2.2.2.2.2.1 x.2.2.2.2.1.1 x.2.2.2.2.1.2.1 x.2.2.2.2.1.2.2.1 x.2.2.2.2.1.2.2.2.1 x.2.2.2.2.1.2.2.2.2.1 x.2.2.2.2.1.2.2.2.2.2.1 x.2.2.2.2.1.2.2.2.2.2.2.1 x.2.2.2.2.1.2.2.2.2.2.2.2.1 x.2.2.2.2.1.2.2.2.2.2.2.2.2.1 x.2.2.2.2.1.2.2.2.2.2.2.2.2.2.1 x.2.2.2.2.2.1) fun x r R kn kx kr=>kr ⟨[sL 8 (.own 2)],[],[.view .node x.2.1,.view .str x.2.2.1,.row .i64 33 r]⟩
def zcg_d0:=(dQS (qAa (dSO 1 dZ) zDHJ2) zDHJ1)
def zcg_l0:SubQ:=mkL zcg_d0 (fun x=>zcg_p0 x.1.1 x.1.2.1 x.2.1 x.2.2.1 x.2.2.2.1.2.2.1 x.2.2.2.1.2.2.2.2.1 x.2.2.2.1.2.2.2.2.2.2.1 x.2.2.2.1.2.2.2.2.2.2.2.2.2.1 x.2.2.2.1.2.2.2.2.2.2.2.2.2.2.2.2.2.1 x.2.2.2.2.1.1 x.2.2.2.2.1.2.1 x.2.2.2.2.1.2.2.1 x.2.2.2.2.1.2.2.2.1 x.2.2.2.2.1.2.2.2.2.1 x.2.2.2.2.1.2.2.2.2.2.1 x.2.2.2.2.1.2.2.2.2.2.2.1 x.2.2.2.2.1.2.2.2.2.2.2.2.1 x.2.2.2.2.1.2.2.2.2.2.2.2.2.1 x.2.2.2.2.1.2.2.2.2.2.2.2.2.2.1 x.2.2.2.2.2.1) fun x r R kn kx kr=>kr ⟨[sL 8 (.own 2)],[],[.view .node x.2.1,.view .str x.2.2.1,.row .i64 33 r]⟩
def zcg_L:Nat→SubQ:=tblL [(3,zcg_l3),(7,zcg_l7),(6,zcg_l6),(5,zcg_l5),(4,zcg_l4),(2,zcg_l2),(1,zcg_l1),(0,zcg_l0)]
theorem zcg_sub3:qA0 zcg_L zcg_G 2 19 223 3 zcg_b3:=qAh (show zcg_L 3=zcg_l3 from by kernel_rfl) fun x R kn kx kr=>qAg (step:=fun y=>qC9 y.1 y.2.1 y.2.2 x.2.2.1 x.2.2.2.2.1.1) (enc:=fun (y:Bool × Bool × Int)=>zcg_d3.e ((x.1.1,x.1.2.1,x.1.2.2.1,x.1.2.2.2.1,x.1.2.2.2.2.1,y.1,y.2.1,y.2.2,x.1.2.2.2.2.2.2.2.2),x.2)) (fun y=>by kernel_rfl) (fun y ki=>by simp only [qC9,-eq_self,sZ]; kernel_rfl) (x.1.2.2.2.2.2.1,x.1.2.2.2.2.2.2.1,x.1.2.2.2.2.2.2.2.1)
theorem zcg_sub7:qA0 zcg_L zcg_G 2 19 223 7 zcg_b7:=qAh (show zcg_L 7=zcg_l7 from by kernel_rfl) fun x R kn kx kr=>by
 simp only [zcg_p7,-eq_self,sZ];kernel_rfl
theorem zcg_sub6:qA0 zcg_L zcg_G 2 19 223 6 zcg_b6:=qAh (show zcg_L 6=zcg_l6 from by kernel_rfl) fun x R kn kx kr=>by
 simp only [zcg_p6,-eq_self,sZ];kernel_rfl
theorem zcg_sub5:qA0 zcg_L zcg_G 2 19 223 5 zcg_b5:=qAh (show zcg_L 5=zcg_l5 from by kernel_rfl) fun x R kn kx kr=>by
 simp only [zcg_p5,-eq_self,sZ];kernel_rfl
theorem zcg_sub4:qA0 zcg_L zcg_G 2 19 223 4 zcg_b4:=qAh (show zcg_L 4=zcg_l4 from by kernel_rfl) fun x R kn kx kr=>by
 simp only [zcg_p4,-eq_self,sZ];kernel_rfl
theorem zcg_sub2:qA0 zcg_L zcg_G 2 19 223 2 zcg_b2:=qAh (show zcg_L 2=zcg_l2 from by kernel_rfl) fun x R kn kx kr=>by
 simp only [zcg_p2,-eq_self,sZ];kernel_rfl
theorem zcg_sub1:qA0 zcg_L zcg_G 2 19 223 1 zcg_b1:=qAh (show zcg_L 1=zcg_l1 from by kernel_rfl) fun x R kn kx kr=>by
 simp only [zcg_p1,-eq_self,sZ];kernel_rfl
theorem zcg_sub0:qA0 zcg_L zcg_G 2 19 223 0 zcg_b0:=qAh (show zcg_L 0=zcg_l0 from by kernel_rfl) fun x R kn kx kr=>by
 simp only [zcg_p0,-eq_self,sZ];kernel_rfl
def zcg_c:CS:=mkC (qAa (dVC (dCA zDHJ3)) (qAa (dVC (dCO dZ)) (qAa (dVC (dCA zDHJ4)) (qAa (dVC (dCO dZ)) dNil)))) (qAa (qBa .node) (qAa (qBa .str) dNil)) (fun x y=>zcg_s (⟨y.1,x.1.2.1,x.1.2.2.1,x.1.2.2.2.1,x.1.2.2.2.2.1,y.2.1,x.1.2.2.2.2.2.2.1,x.1.2.2.2.2.2.2.2.1,x.1.2.2.2.2.2.2.2.2.1,(⟨x.1.2.2.2.2.2.2.2.2.2.1,x.1.2.2.2.2.2.2.2.2.2.2.1⟩:qGk),(⟨x.1.2.2.2.2.2.2.2.2.2.2.2.1,x.1.2.2.2.2.2.2.2.2.2.2.2.2.1⟩:qGk),(⟨x.1.2.2.2.2.2.2.2.2.2.2.2.2.2.1,x.1.2.2.2.2.2.2.2.2.2.2.2.2.2.2.1⟩:qGk)⟩:qGj) x.2.1 (⟨x.2.2.1.1,x.2.2.1.2.1,x.2.2.1.2.2.1,x.2.2.1.2.2.2.1,x.2.2.1.2.2.2.2.1,x.2.2.1.2.2.2.2.2.1,x.2.2.1.2.2.2.2.2.2.1,x.2.2.1.2.2.2.2.2.2.2.1,x.2.2.1.2.2.2.2.2.2.2.2.1,x.2.2.1.2.2.2.2.2.2.2.2.2.1⟩:qHc) x.2.2.2.1) (fun x y r=>.c (.o (.own 2))) fun x y r=>[.view .node y.1,.view .str y.2.1,.row .i64 33 r]
theorem zcg_val:qAf Tryz.prog 10 zcg_c:=vl1 zcg_q [.tmp 8] 223 19 2 (show qA3 zcg_L zcg_G 2 19 223 [(0,zcg_b0),(1,zcg_b1),(2,zcg_b2),(3,zcg_b3),(4,zcg_b4),(5,zcg_b5),(6,zcg_b6),(7,zcg_b7)] from ⟨zcg_sub0,zcg_sub1,zcg_sub2,zcg_sub3,zcg_sub4,zcg_sub5,zcg_sub6,zcg_sub7,tV⟩) (qAq ⟨zcd_ok,zba_ok,zcf_ok,zaj_ok,zce_ok,tV⟩) fun x y=>by
 simp only [zcg_s,-eq_self,sZ];kernel_rfl
def zcg_w:CQ:=qBs [(0,some 0,some (.node,47)),(0,some 5,some (.str,9))] (qB4 [false,false] zcg_c)
theorem zcg_ok:qAe Tryz.prog 10 zcg_w:=qAv zcg_val
def zca_b0:IQ:=(.loop [9,10,11] (.seq (.seq (rg 39 [oM 36 t11,oM 37 t10,oP 38 (.len t37),oP 39 (.bi .lss t36 t38)]) (.cond t39 .skip (.cn [9] (.exit 0)))) (.seq (.block 1 (.seq (rg 46 [oM 42 t10,oM 43 t11,oP 44 (.iaddr 1 t42 t43),oP 45 (.load none t44),oP 46 (.bi .neq t45 (vI 0))]) (.cond t46 (.seq (rg 8 [oM 47 t9,oM 48 t10,oM 49 t11,oP 50 (.iaddr 1 t48 t49),oP 51 (.load none t50),oP 52 (.bi .eql t47 t51),oM 8 t52]) (.cn [8] .ret)) .skip))) (rg 11 [oM 40 t11,oP 41 (.bi .add t40 (vI 1)),oM 11 t41]))))
def zca_q:IQ:=(.seq (rg 8 [oP 4 (.box 27 15 t0),oP 6 (.box 30 10 t2),oP 8 (.mv vF)]) (.seq (.seq (rg 24 [oP 12 (.call 6 []),oP 13 (.un .not t12),oM 14 t13,oE 15 (.faddr 0 t4) 14,oE 16 (.load none t15) 14,oE 17 (.call 7 [t16]) 14,oP 18 (.pick t14 vT t17),oM 19 t18,oE 20 (.faddr 0 t4) 19,oE 21 (.load none t20) 19,oE 22 (.call 8 [t21]) 19,oE 23 (.un .not t22) 19,oP 24 (.pick t19 vT t23)]) (.cond t24 (.seq (rg 8 [oP 25 (.call 6 []),oM 8 t25]) (.cn [8] .ret)) .skip)) (.seq (rg 9 [oP 26 (.load (some 15) t4),oM 27 t1,oP 28 (.load (some 10) t6),oM 29 t3,oP 30 (.call 9 [t26,t27,t28,t29]),oM 9 t30]) (.seq (rg 10 [oP 31 (.load (some 15) t4),oM 32 t1,oP 33 (.load (some 10) t6),oM 34 t3,oP 35 (.call 10 [t31,t32,t33,t34]),oM 10 t35]) (.seq (.seq (rg 11 [oP 11 (.mv (vI 0))]) (.block 0 (.cn [9,10,11] (.sub 0 zca_b0)))) (.seq (rg 8 [oM 53 t9,oP 54 (.bi .eql t53 (vI 0)),oM 8 t54]) (.cn [8] .ret)))))))
def qC8 (got i:Int) (l:List Int):Option (Int ⊕ (Bool ⊕ Unit)) :=
 bif decide (i<(l.length:Int)) then (
  gd (0≤i∧i<l.length) <|
  gd ((Int.toNat i)<l.length) <|
  bif (!decide ((l.getD (Int.toNat i) (ET.dft .i64))=(0:Int))) then (
   gd (0≤i∧i<l.length) <|
   gd ((Int.toNat i)<l.length) <|
   some (.inr (.inl (decide (got=(l.getD (Int.toNat i) (ET.dft .i64)))))))
  else (
   gd (qAc (i+(1:Int))) <|
   some (.inl (i+(1:Int)))))
 else (
  some (.inr (.inr ())))
def zca_p0 (got i:Int) (l:List Int):Option (Bool ⊕ Unit) :=
 qAt (fun x:Int=>qC8 got x l) i
def zca_s (c:qGj) (a:Int) (w:qHc) (now:Int):Option Bool :=
 (zcc_s).bind fun r9 =>
 bif (!r9) then (
  (zcc_s).bind fun r10 =>
  some r10)
 else (
  (zcm_s c.value).bind fun r11 =>
  bif r11 then (
   (zcc_s).bind fun r12 =>
   some r12)
  else (
   (zcn_s c.value).bind fun r13 =>
   bif (!r13) then (
    (zcc_s).bind fun r14 =>
    some r14)
   else (
    (qF4 c a w now).bind fun r15 =>
    (zcg_s c a w now).bind fun r16 =>
    (zca_p0 r15 (0:Int) r16).bind fun o17=>(Sum.elim (fun (o17_0:Bool) =>
     some o17_0) (fun (o17_1:Unit) =>
     some (decide (r15=(0:Int))))) o17)))
def zca_G:Nat→Option CQ:=tblQ [(6,zcc_w),(7,zcm_w),(8,zcn_w),(9,zai_w),(10,zcg_w)]
def zca_d0:=(dQS (qAa (dSO 9 dZ) (qAa (dSO 10 (dO 2)) (qAa (dSO 11 dZ) dNil))) (qAa (qBa .node) (qAa (qBa .str) (qAa (dRow .i64 33) dNil))))
def zca_l0:SubQ:=mkL zca_d0 (fun x=>zca_p0 x.1.1 x.1.2.2.1 x.2.2.2.1) fun x r R kn kx kr=>(Sum.elim (fun (r_0:Bool)=>kr ⟨[sL 8 (.vB r_0)],[],[.view .node x.2.1,.view .str x.2.2.1]⟩) (fun (r_1:Unit)=>kx 0 ⟨[sL 9 (.vI x.1.1)],[],[.view .node x.2.1,.view .str x.2.2.1]⟩)) r
def zca_L:Nat→SubQ:=tblL [(0,zca_l0)]
theorem zca_sub0:qA0 zca_L zca_G 2 12 55 0 zca_b0:=qAh (show zca_L 0=zca_l0 from by kernel_rfl) fun x R kn kx kr=>qAg (step:=fun y=>qC8 x.1.1 y x.2.2.2.1) (enc:=fun (y:Int)=>zca_d0.e ((x.1.1,x.1.2.1,y,x.1.2.2.2),x.2)) (fun y=>by kernel_rfl) (fun y ki=>by simp only [qC8,-eq_self,sZ]; kernel_rfl) x.1.2.2.1
def zca_c:CS:=mkC (qAa (dVC (dCA zDHJ3)) (qAa (dVC (dCO dZ)) (qAa (dVC (dCA zDHJ4)) (qAa (dVC (dCO dZ)) dNil)))) (qAa (qBa .node) (qAa (qBa .str) dNil)) (fun x y=>zca_s (⟨y.1,x.1.2.1,x.1.2.2.1,x.1.2.2.2.1,x.1.2.2.2.2.1,y.2.1,x.1.2.2.2.2.2.2.1,x.1.2.2.2.2.2.2.2.1,x.1.2.2.2.2.2.2.2.2.1,(⟨x.1.2.2.2.2.2.2.2.2.2.1,x.1.2.2.2.2.2.2.2.2.2.2.1⟩:qGk),(⟨x.1.2.2.2.2.2.2.2.2.2.2.2.1,x.1.2.2.2.2.2.2.2.2.2.2.2.2.1⟩:qGk),(⟨x.1.2.2.2.2.2.2.2.2.2.2.2.2.2.1,x.1.2.2.2.2.2.2.2.2.2.2.2.2.2.2.1⟩:qGk)⟩:qGj) x.2.1 (⟨x.2.2.1.1,x.2.2.1.2.1,x.2.2.1.2.2.1,x.2.2.1.2.2.2.1,x.2.2.1.2.2.2.2.1,x.2.2.1.2.2.2.2.2.1,x.2.2.1.2.2.2.2.2.2.1,x.2.2.1.2.2.2.2.2.2.2.1,x.2.2.1.2.2.2.2.2.2.2.2.1,x.2.2.1.2.2.2.2.2.2.2.2.2.1⟩:qHc) x.2.2.2.1) (fun x y r=>.c (.o (.vB r))) fun x y r=>[.view .node y.1,.view .str y.2.1]
theorem zca_val:qAf Tryz.prog 5 zca_c:=vl1 zca_q [.tmp 8] 55 12 2 (show qA3 zca_L zca_G 2 12 55 [(0,zca_b0)] from ⟨zca_sub0,tV⟩) (qAq ⟨zcc_ok,zcm_ok,zcn_ok,zai_ok,zcg_ok,tV⟩) fun x y=>by
 simp only [zca_s,-eq_self,sZ];kernel_rfl
end
theorem l_hash (a:Int):zcd_s a=some (hsh a):=by
 rcases alg_cases a with rfl | rfl | rfl | rfl | rfl | rfl | rfl | rfl | rfl | rfl | rfl | rfl | ⟨h1,h2,h3,h4,h5,h6,h7,h8,h9,h10,h11,h12⟩ <;> try rfl
 unfold zcd_s zcd_p0 zcd_p1 hsh;simp [h1,h2,h3,h4,h5,h6,h7,h8,h9,h10,h11,h12]
theorem l_said {v:List Eng.Node} {m:BA→Int} (hm:Mem v m) (name text:BA):zcf_s v name text=some (sdB v m name text):=by
 have h:=hm.lt name;unfold zcf_s sdB;rw [hm.is,obS];by_cases h0:0≤m name
 ·rw [deT h0]
  repeat refine (qAb (fun _=>by omega) _).trans ?_
  rfl
 ·rw [deF h0]
  repeat refine (qAb (fun h=>by cases h) _).trans ?_
  rfl
theorem and32 (x:Int):qAm .i64 x 4294967295=x % 4294967296:=by
 have h2:(BitVec.ofInt 64 4294967295).toNat=2 ^ 32 - 1:=by decide
 unfold qAm;show IntKind.i64.wrap ((BitVec.ofInt 64 x &&& BitVec.ofInt 64 4294967295).toNat:Int)=_;rw [BitVec.toNat_and,h2,Nat.and_two_pow_sub_one_eq_mod,BitVec.toNat_ofInt];have h3:(((x % (2 ^ 64:Nat)).toNat % 2 ^ 32:Nat):Int)=x % 4294967296:=by
  have:(2 ^ 64:Nat)=18446744073709551616:=by decide
  rw [this];omega
 rw [h3];exact w64_id (by unfold qAc; omega)
noncomputable def lateV (x age lw now:Int):Bool:=(zce_s x age lw now).getD false
theorem late_is (x age lw now:Int):zce_s x age lw now=some (lateV x age lw now):=by
 have h:∃b,zce_s x age lw now=some b:=by
  unfold zce_s;exact ⟨_,(qAb (by decide) _).trans ((qAb (by decide) _).trans ((qAb (by decide) _).trans ((qAb (fun _=>by decide) _).trans rfl)))⟩
 obtain ⟨b,h⟩:=h;unfold lateV;rw [h];rfl
theorem late_plain {x age lw now:Int} (hx:qAc x) (h1:0≤age∧age≤2147483648) (h2:0≤lw∧lw≤600) (hn:qAc now):lateV x age lw now=decide (x+(age+lw)<now):=by
 have e:zce_s x age lw now=some (decide (x+(age+lw)<now)):=by
  unfold qAc at hx hn;unfold zce_s;rw [and32,and32,w64_id (x:=x % 4294967296+age) (by unfold qAc; omega),w64_id (x:=x % 4294967296+age+lw) (by unfold qAc; omega),w64_id (x:=x / 4294967296+(x % 4294967296+age+lw) / 4294967296) (by unfold qAc; omega),and32]
  repeat refine (qAb (by first | decide | exact fun _=>by decide) _).trans ?_
  congr 1
  apply Bool.eq_iff_iff.2;rw [Bool.or_eq_true,Bool.and_eq_true,decide_eq_true_eq,decide_eq_true_eq,decide_eq_true_eq,decide_eq_true_eq];omega
 unfold lateV;rw [e];rfl
noncomputable def ageL (m:BA→Int) (c:qGj) (w:qHc) (now:Int):Bool:=w.hasAge && ((((decide (m qE1<0)) || (!decide ((c.value.getD (m qE1).toNat (ET.dft .node)).kind=4))) || (!(c.value.getD (m qE1).toNat (ET.dft .node)).whole)) || lateV (c.value.getD (m qE1).toNat (ET.dft .node)).int w.maxAge w.leeway now)
section
variable {m:BA→Int} {c:qGj} (hm:Mem c.value m) (a now:Int) (w:qHc)
include hm
theorem s_p7 {l:List Int} (hl:l.length=8):zcg_p7 now c.value w.maxAge w.hasAge w.leeway l=some (bif ageL m c w now then l.set 7 153 else l):=by
 have h:=hm.lt qE1;unfold zcg_p7 ageL;rw [show (⟨#[97,117,116,104,95,116,105,109,101]⟩:BA)=qE1 from rfl,hm.is,obS,late_is];by_cases h0:m qE1<0
 ·rw [deT h0]
  repeat refine (qAb (fun h=>by cases h) _).trans ?_
  rw [obS];simp only [Bool.true_or,Bool.and_true];cases w.hasAge with
  | true =>
   rw [cnT,cnT,qAb (by omega)];exact qAb (by omega) _
  | false=>rfl
 ·rw [deF h0]
  repeat refine (qAb (fun _ _=>by omega) _).trans ?_
  rw [obS];generalize (w.hasAge && _)=B
  cases B with
  | true =>
   rw [cnT,cnT,qAb (by omega)];exact qAb (by omega) _
  | false=>rfl
theorem s_p6 {l:List Int} (hl:l.length=8):zcg_p6 a now c.value w.access w.hasAccess w.code w.hasCode w.maxAge w.hasAge w.leeway l=some (bif ageL m c w now then (bif hashB m c a w then l.set 6 152 else l).set 7 153 else (bif hashB m c a w then l.set 6 152 else l)):=by
 have k1:=s_p7 hm now w (l:=l.set 6 152) (by rw [List.length_set]; exact hl);have k2:=s_p7 hm now w hl;have g1:0≤(6:Int)∧(6:Int)<l.length:=by omega
 have g2:(Int.toNat (6:Int))<l.length:=by rw [hl]; decide
 unfold zcg_p6 hashB;rw [show (⟨#[97,116,95,104,97,115,104]⟩:BA)=kAt from rfl,show (⟨#[99,95,104,97,115,104]⟩:BA)=kC from rfl,p_Half,p_Half,obS,obS];dsimp only;rw [l_said hm,l_said hm,qAb g1,qAb g2,show Int.toNat (6:Int)=6 from rfl,k1,k2];simp only [obS];cases w.hasAccess <;> cases w.hasCode <;> cases sdB c.value m kAt (halfT a w.access) <;> cases sdB c.value m kC (halfT a w.code) <;> rfl
theorem s_p5 {l:List Int} (hl:l.length=8):∃l',l'.length=8∧l'=(bif qDe m c w then l.set 5 150 else l)∧zcg_p5 a now c.value w.nonce w.hasNonce w.access w.hasAccess w.code w.hasCode w.maxAge w.hasAge w.leeway l=zcg_p6 a now c.value w.access w.hasAccess w.code w.hasCode w.maxAge w.hasAge w.leeway l':=by
 refine ⟨_,?_,rfl,?_⟩
 ·cases qDe m c w
  ·exact hl
  ·rw [cnT,List.length_set]; exact hl
 ·have g1:0≤(5:Int)∧(5:Int)<l.length:=by omega
  have g2:(Int.toNat (5:Int))<l.length:=by rw [hl]; decide
  unfold zcg_p5 qDe;rw [show (⟨#[110,111,110,99,101]⟩:BA)=kNonce from rfl,l_said hm,obS,qAb g1,qAb g2,show Int.toNat (5:Int)=5 from rfl];simp only [qB9];cases w.hasNonce <;> cases sdB c.value m kNonce w.nonce <;> rfl
theorem s_p4 {l:List Int} (hl:l.length=8):∃l',l'.length=8∧l'=(bif azpB m c w then l.set 4 151 else l)∧zcg_p4 a now (c.aud.any fun s=>!decide (s=w.client)) c.value w.client w.nonce w.hasNonce w.access w.hasAccess w.code w.hasCode w.maxAge w.hasAge w.leeway l=zcg_p5 a now c.value w.nonce w.hasNonce w.access w.hasAccess w.code w.hasCode w.maxAge w.hasAge w.leeway l':=by
 refine ⟨_,?_,rfl,?_⟩
 ·cases azpB m c w
  ·exact hl
  ·rw [cnT,List.length_set]; exact hl
 ·have g1:0≤(4:Int)∧(4:Int)<l.length:=by omega
  have g2:(Int.toNat (4:Int))<l.length:=by rw [hl]; decide
  unfold zcg_p4 azpB;rw [show (⟨#[97,122,112]⟩:BA)=kAzp from rfl,hm.is,obS,l_said hm,obS,qAb g1,qAb g2,show Int.toNat (4:Int)=4 from rfl];simp only [qB9];cases decide (0≤m kAzp) <;> cases sdB c.value m kAzp w.client <;> cases (c.aud.any fun s=>!decide (s=w.client)) <;> rfl
end
theorem p3_loop (cl:BA) (l:List BA) (hl:l.length≤3000000):∀(j i:Nat) (x y:Bool),i+j=l.length→zcg_p3 x y (i:Int) l cl=some (x || (l.drop i).any (fun s=>decide (s=cl)),y || (l.drop i).any (fun s=>!decide (s=cl)))
 | 0,i,x,y,h=>by
  rw [List.drop_eq_nil_of_le (by omega),List.any_nil,List.any_nil,Bool.or_false,Bool.or_false];unfold zcg_p3;refine qAj ?_;show qC9 x y (i:Int) l cl=_;unfold qC9;rw [deF (by omega),cnF]
 | j+1,i,x,y,h=>by
  have hi:i<l.length:=by omega
  have hd:l.drop i=l[i]::l.drop (i+1):=List.drop_eq_getElem_cons hi;have hst:qC9 x y (i:Int) l cl=some (.inl (x || decide (l[i]=cl),y || !decide (l[i]=cl),((i+1:Nat):Int))):=by
   unfold qC9;rw [deT (by omega),cnT]
   repeat refine (qAb (fun _=>by omega) _).trans ?_
   rw [Int.toNat_natCast,getD_str hi];exact qAb (by unfold qAc; omega) _
  have ih:=p3_loop cl l hl j (i+1) (x || decide (l[i]=cl)) (y || !decide (l[i]=cl)) (by omega)
  rw [hd,List.any_cons,List.any_cons,←Bool.or_assoc,←Bool.or_assoc,←ih];unfold zcg_p3;exact qA9 hst
def eC (b:Bool) (k:Int):Int:=bif b then k else 0
theorem steps_is {m:BA→Int} {c:qGj} (hm:Mem c.value m) (hl:c.aud.length≤3000000) (a now:Int) (w:qHc) :
  zcg_s c a w now=some [eC (qBx w) 12,eC (decide (hsh a=0)) 111,eC (missB c) 137,eC (!inB c.aud w.client) 133,eC (azpB m c w) 151,eC (qDe m c w) 150,eC (hashB m c a w) 152,eC (ageL m c w now) 153]:=by
 have hp3:=p3_loop w.client c.aud hl c.aud.length 0 false false (by omega);rw [List.drop_zero,Bool.false_or,Bool.false_or,show ((0:Nat):Int)=0 from rfl,show (c.aud.any fun s=>decide (s=w.client))=inB c.aud w.client from rfl] at hp3;have key:∀l:List Int,l.length=8→zcg_p4 a now (c.aud.any fun s=>!decide (s=w.client)) c.value w.client w.nonce w.hasNonce w.access w.hasAccess w.code w.hasCode w.maxAge w.hasAge w.leeway l =
   some (bif ageL m c w now then (bif hashB m c a w then (bif qDe m c w then (bif azpB m c w then l.set 4 151 else l).set 5 150 else (bif azpB m c w then l.set 4 151 else l)).set 6 152 else (bif qDe m c w then (bif azpB m c w then l.set 4 151 else l).set 5 150 else (bif azpB m c w then l.set 4 151 else l))).set 7 153 else (bif hashB m c a w then (bif qDe m c w then (bif azpB m c w then l.set 4 151 else l).set 5 150 else (bif azpB m c w then l.set 4 151 else l)).set 6 152 else (bif qDe m c w then (bif azpB m c w then l.set 4 151 else l).set 5 150 else (bif azpB m c w then l.set 4 151 else l)))):=by
  intro l h;obtain ⟨l1,q1,r1,t1⟩:=s_p4 hm a now w h;obtain ⟨l2,q2,r2,t2⟩:=s_p5 hm a now w q1;rw [t1,t2,s_p6 hm a now w q2,r2,r1]
 have hp2:∀l:List Int,l.length=8→zcg_p2 a now c.value c.aud w.client w.nonce w.hasNonce w.access w.hasAccess w.code w.hasCode w.maxAge w.hasAge w.leeway l=zcg_p4 a now (c.aud.any fun s=>!decide (s=w.client)) c.value w.client w.nonce w.hasNonce w.access w.hasAccess w.code w.hasCode w.maxAge w.hasAge w.leeway (bif !inB c.aud w.client then l.set 3 133 else l):=by
  intro l h;unfold zcg_p2;rw [hp3,obS];dsimp only;rw [qAb (by omega),qAb (by rw [h]; decide),show Int.toNat (3:Int)=3 from rfl,qB9,qB9];cases (!inB c.aud w.client) <;> rfl
 have hp1:∀l:List Int,l.length=8→zcg_p1 a now c.value c.aud c.hasIss c.hasSub c.hasAud c.exp_.has c.iat.has w.client w.nonce w.hasNonce w.access w.hasAccess w.code w.hasCode w.maxAge w.hasAge w.leeway l=zcg_p2 a now c.value c.aud w.client w.nonce w.hasNonce w.access w.hasAccess w.code w.hasCode w.maxAge w.hasAge w.leeway (bif missB c then l.set 2 137 else l):=by
  intro l h;unfold zcg_p1;rw [show (((((!c.hasIss) || (!c.hasSub)) || (!c.hasAud)) || (!c.exp_.has)) || (!c.iat.has))=missB c by
   unfold missB;cases c.hasIss <;> cases c.hasSub <;> cases c.hasAud <;> cases c.exp_.has <;> cases c.iat.has <;> rfl]
  rw [qAb (by omega),qAb (by rw [h]; decide),show Int.toNat (2:Int)=2 from rfl,qB9,qB9];cases missB c <;> rfl
 have hp0:∀l:List Int,l.length=8→zcg_p0 a now c.value c.aud c.hasIss c.hasSub c.hasAud c.exp_.has c.iat.has w.client w.nonce w.hasNonce w.access w.hasAccess w.code w.hasCode w.maxAge w.hasAge w.leeway l=zcg_p1 a now c.value c.aud c.hasIss c.hasSub c.hasAud c.exp_.has c.iat.has w.client w.nonce w.hasNonce w.access w.hasAccess w.code w.hasCode w.maxAge w.hasAge w.leeway (bif decide (hsh a=0) then l.set 1 111 else l):=by
  intro l h;unfold zcg_p0;rw [l_hash,obS,qAb (by omega),qAb (by rw [h]; decide),show Int.toNat (1:Int)=1 from rfl,qB9,qB9];cases decide (hsh a=0) <;> rfl
 have hs:zcg_s c a w now=zcg_p0 a now c.value c.aud c.hasIss c.hasSub c.hasAud c.exp_.has c.iat.has w.client w.nonce w.hasNonce w.access w.hasAccess w.code w.hasCode w.maxAge w.hasAge w.leeway (bif qBx w then [12,0,0,0,0,0,0,0] else [0,0,0,0,0,0,0,0]):=by
  unfold zcg_s;rw [qAb (by decide),qAb (by decide),qAb (by decide),qB9,qB9];unfold qBx;cases (((decide (w.leeway<(0:Int))) || (decide ((600:Int)<w.leeway))) || (w.hasAge && ((decide (w.maxAge<(0:Int))) || (decide ((2147483648:Int)<w.maxAge))))) <;> rfl
 rw [hs];generalize qBx w=b0
 have s0:∃x:Int,(bif b0 then [12,0,0,0,0,0,0,0] else [0,0,0,0,0,0,0,0]:List Int)=[x,0,0,0,0,0,0,0]∧x=eC b0 12:=by cases b0 <;> exact ⟨_,rfl,rfl⟩
 obtain ⟨x0,f0,rfl⟩:=s0;rw [f0,hp0 _ rfl];generalize decide (hsh a=0)=b1
 rw [show (bif b1 then ([eC b0 12,0,0,0,0,0,0,0]:List Int).set 1 111 else [eC b0 12,0,0,0,0,0,0,0])=[eC b0 12,eC b1 111,0,0,0,0,0,0] by cases b1 <;> rfl,hp1 _ rfl]
 generalize missB c=b2
 rw [show (bif b2 then ([eC b0 12,eC b1 111,0,0,0,0,0,0]:List Int).set 2 137 else [eC b0 12,eC b1 111,0,0,0,0,0,0])=[eC b0 12,eC b1 111,eC b2 137,0,0,0,0,0] by cases b2 <;> rfl,hp2 _ rfl]
 generalize (!inB c.aud w.client)=b3
 rw [show (bif b3 then ([eC b0 12,eC b1 111,eC b2 137,0,0,0,0,0]:List Int).set 3 133 else [eC b0 12,eC b1 111,eC b2 137,0,0,0,0,0])=[eC b0 12,eC b1 111,eC b2 137,eC b3 133,0,0,0,0] by cases b3 <;> rfl,key _ rfl]
 cases azpB m c w <;> cases qDe m c w <;> cases hashB m c a w <;> cases ageL m c w now <;> rfl
def fnJ (got:Int):List Int→Bool ⊕ Unit
 | []=>.inr ()
 | x::r=>bif !decide (x=0) then .inl (decide (got=x)) else fnJ got r
theorem just_loop (got:Int) (l:List Int) (hl:l.length≤1000):∀(j i:Nat),i+j=l.length→zca_p0 got (i:Int) l=some (fnJ got (l.drop i))
 | 0,i,h=>by
  rw [List.drop_eq_nil_of_le (by omega)];unfold zca_p0;refine qAj ?_;unfold qC8;rw [deF (by omega),cnF];rfl
 | j+1,i,h=>by
  have hi:i<l.length:=by omega
  have hd:l.drop i=l[i]::l.drop (i+1):=List.drop_eq_getElem_cons hi;have hg:l.getD i (ET.dft .i64)=l[i]:=by simp [List.getD,hi]
  rw [hd];cases hb:(!decide (l[i]=0)) with
  | true =>
   unfold zca_p0;refine qAj ?_;unfold qC8 fnJ;rw [deT (by omega),cnT,qAb (by omega),qAb (by omega),qAb (by omega),qAb (by omega),Int.toNat_natCast,hg,hb,cnT,cnT]
  | false =>
   have hst:qC8 got (i:Int) l=some (.inl ((i+1:Nat):Int)):=by
    unfold qC8;rw [deT (by omega),cnT,qAb (by omega),qAb (by omega),Int.toNat_natCast,hg,hb,cnF];exact qAb (by unfold qAc; omega) _
   have ih:=just_loop got l hl j (i+1) (by omega);unfold zca_p0 at ih ⊢;rw [qA9 hst,ih];show _=some (fnJ got (l[i]::l.drop (i+1)));rw [fnJ,hb,cnF]
theorem idJust_plain {c:qGj} {a now:Int} {w:qHc} (hv:OkL c.value) (hi:∀n∈c.value,qAc n.int) (hl:c.aud.length≤3000000) (hn:qAc now):zca_s c a w now=some true:=by
 obtain ⟨b1,e1⟩:=beyond_total hv;obtain ⟨b2,e2,ht⟩:=shaped_some hv;unfold zca_s;rw [awake_is,obS,Bool.not_true,cnF,e1,obS];cases b1 with
 | true=>rfl
 | false =>
 rw [cnF,e2,obS];cases b2 with
 | false=>rfl
 | true =>
 obtain ⟨m,hm⟩:=mem_tree hv.1 (ht rfl);have hs:=steps_is hm hl a now w;rw [Bool.not_true,cnF,check_v a w now hm hi hl hn,obS,hs,obS];have hlp:=just_loop (chkV m c a w now) [eC (qBx w) 12,eC (decide (hsh a=0)) 111,eC (missB c) 137,eC (!inB c.aud w.client) 133,eC (azpB m c w) 151,eC (qDe m c w) 150,eC (hashB m c a w) 152,eC (ageL m c w now) 153] (by show (8:Nat)≤1000; decide) 8 0 rfl;rw [List.drop_zero,show ((0:Nat):Int)=0 from rfl] at hlp;rw [hlp,obS];have hage:qBx w=false→ageL m c w now=ageB m c w now:=by
  intro hp;unfold ageL ageB;cases hA:w.hasAge with
  | false=>rfl
  | true =>
   unfold qBx at hp;rw [hA] at hp;simp only [Bool.true_and,Bool.or_eq_false_iff,decide_eq_false_iff_not] at hp;rw [Bool.true_and,Bool.true_and];by_cases h0:m qE1<0
   ·rw [deT h0];rfl
   ·have hlt:(m qE1).toNat<c.value.length:=by have:=hm.lt qE1; omega
    have hin:qAc (c.value.getD (m qE1).toNat (ET.dft .node)).int:=by
     rw [List.getD_eq_getElem?_getD,List.getElem?_eq_getElem hlt];exact hi _ (List.getElem_mem hlt)
    rw [late_plain hin (by omega) (by omega) hn]
 unfold chkV;cases hp:qBx w with
 | true=>rfl
 | false =>
  rw [hage hp];generalize decide (hsh a=0)=b1
  generalize missB c=b2
  generalize (!inB c.aud w.client)=b3
  generalize azpB m c w=b4
  generalize qDe m c w=b5
  generalize hashB m c a w=b6
  generalize ageB m c w now=b7
  cases b1 with
  | true=>rfl
  | false =>
  cases b2 with
  | true=>rfl
  | false =>
  cases b3 with
  | true=>rfl
  | false =>
  cases b4 with
  | true=>rfl
  | false =>
  cases b5 with
  | true=>rfl
  | false =>
  cases b6 with
  | true=>rfl
  | false =>
  cases b7 <;> rfl
end Go.Proofs.YtlmfmmgfiffjiaaGreatDoor
namespace Go.Proofs.YtlmfmmgfiffjiaaGreatDoor
open Go.Eng
theorem idJust_tabs {W:World} (h:laidMetH Tryz.prog Rows.idJustUptoRow.laid W):tabOK noX W:=by
 have h':laidMet Tryz.prog Rows.idJustUptoRow.laid W:=h;have r:=fun {n d} hm=>Lib.laidMet.reads h' (n:=n) (d:=d) hm
 refine sha_tabs (r ?_) (r ?_) (r ?_) (r ?_) (r ?_) (r ?_) (r ?_) <;> (show _∈[_,_,_,_,_,_,_]; simp only [List.mem_cons,true_or,or_true])
theorem idJust_walk (valueV:Value) (value:List Eng.Node) (iss:BA) (hasIss:Bool) (sub:BA) (hasSub:Bool) (audV:Value) (aud:List BA) (hasAud:Bool) (jti:BA) (hasJti:Bool) (expH:Bool) (exp:Int) (nbfH:Bool) (nbf:Int) (iatH:Bool) (iat:Int) (a:Int) (client:BA) (nonce:BA) (hasNonce:Bool) (access:BA) (hasAccess:Bool) (code:BA) (hasCode:Bool) (maxAge:Int) (hasAge:Bool) (leeway:Int) (now:Int) (W:World)
  (h0:qB8 noX W W .node valueV value∧(∀n∈value,NodeB 1048576 n)∧value.length≤1048576) (h1:iss.size≤1048576) (h2:sub.size≤1048576) (h3:qB8 noX W W .str audV aud∧(∀s∈aud,s.size≤1048576)∧aud.length≤1048576∧aud.length≤9223372036854775807) (h4:jti.size≤1048576) (h5 : -9223372036854775808≤exp∧exp≤9223372036854775807) (h6 : -9223372036854775808≤nbf∧nbf≤9223372036854775807) (h7 : -9223372036854775808≤iat∧iat≤9223372036854775807) (f1 : -9223372036854775808≤a∧a≤9223372036854775807) (g2client:client.size≤1048576) (g2nonce:nonce.size≤1048576) (g2access:access.size≤1048576) (g2code:code.size≤1048576) (g2maxAge : -9223372036854775808≤maxAge∧maxAge≤9223372036854775807) (g2leeway : -9223372036854775808≤leeway∧leeway≤9223372036854775807) (f3 : -9223372036854775808≤now∧now≤9223372036854775807) (hT:tabOK noX W) :
  Calls Tryz.prog 5 #[.agg #[valueV,.string iss,.bool hasIss,.string sub,.bool hasSub,audV,.bool hasAud,.string jti,.bool hasJti,.bool expH,.int .i64 exp,.bool nbfH,.int .i64 nbf,.bool iatH,.int .i64 iat],.int .i64 a,.agg #[.string client,.string nonce,.bool hasNonce,.string access,.bool hasAccess,.string code,.bool hasCode,.int .i64 maxAge,.bool hasAge,.int .i64 leeway],.int .i64 now] W fun e w'=>e=.returned (.bool true)∧LowB W w':=by
 refine callV zca_val
  (args:=[.c (.agg [.own 0,.val (.string iss),.val (.bool hasIss),.val (.string sub),.val (.bool hasSub),.own 1,.val (.bool hasAud),.val (.string jti),.val (.bool hasJti),.val (.bool expH),.val (.int .i64 exp),.val (.bool nbfH),.val (.int .i64 nbf),.val (.bool iatH),.val (.int .i64 iat)]),.c (.o (.val (.int .i64 a))),.c (.agg [.val (.string client),.val (.string nonce),.val (.bool hasNonce),.val (.string access),.val (.bool hasAccess),.val (.string code),.val (.bool hasCode),.val (.int .i64 maxAge),.val (.bool hasAge),.val (.int .i64 leeway)]),.c (.o (.val (.int .i64 now)))])
  (hp:=[.view .node value,.view .str aud]) (hp':=[.view .node value,.view .str aud]) (v:=.c (.o (.val (.bool true)))) ?_ ?_ rfl W
  (views_sat (vs:=[valueV,audV]) ⟨h0.1,h3.1,tV⟩ hT) _ rfl
 ·show ((zca_s ⟨value,iss,hasIss,sub,hasSub,aud,hasAud,jti,hasJti,⟨expH,exp⟩,⟨nbfH,nbf⟩,⟨iatH,iat⟩⟩ a ⟨client,nonce,hasNonce,access,hasAccess,code,hasCode,maxAge,hasAge,leeway⟩ now).bind fun r=>some ((.c (.o (.val (.bool r))),[.view .node value,.view .str aud]):SV × List SB))=_;rw [idJust_plain (c:=⟨value,iss,hasIss,sub,hasSub,aud,hasAud,jti,hasJti,⟨expH,exp⟩,⟨nbfH,nbf⟩,⟨iatH,iat⟩⟩) (a:=a) (now:=now) (w:=⟨client,nonce,hasNonce,access,hasAccess,code,hasCode,maxAge,hasAge,leeway⟩) ⟨by show value.length≤_; omega,fun n hn=>⟨by have:=(h0.2.1 n hn).key; omega,by have:=(h0.2.1 n hn).text; omega,(h0.2.1 n hn).kids⟩⟩ (fun n hn=>(h0.2.1 n hn).int) (by show aud.length≤_; omega) ⟨f3.1,f3.2⟩];rfl
 ·intro x hx;simp only [List.mem_cons,List.not_mem_nil,or_false] at hx;rcases hx with rfl | rfl | rfl | rfl
  ·intro y hy;simp only [List.mem_cons,List.not_mem_nil,or_false] at hy;rcases hy with rfl | rfl | rfl | rfl | rfl | rfl | rfl | rfl | rfl | rfl | rfl | rfl | rfl | rfl | rfl <;> first | trivial | (show _<2; omega)
  ·trivial
  ·intro y hy;simp only [List.mem_cons,List.not_mem_nil,or_false] at hy;rcases hy with rfl | rfl | rfl | rfl | rfl | rfl | rfl | rfl | rfl | rfl <;> first | trivial | (show _<2; omega)
  ·trivial
end Go.Proofs.YtlmfmmgfiffjiaaGreatDoor
