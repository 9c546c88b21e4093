/- RationalSimple: the law's tree. -/
import Derived.Test.YtkmblomkocfldaaZQB
set_option linter.unusedVariables false
set_option linter.unusedSimpArgs false

/- RationalSimple: the law's tree. -/
set_option linter.unusedVariables false
set_option linter.unusedSimpArgs false
namespace Go.Proofs.Ytkmblomkocfldaa.L
open Go Go.V Go.RowKit Go.Proofs.Ytkmblomkocfldaa.Sp Go.Proofs.Ytkmblomkocfldaa.F
open Go.Proofs (Try.prog)
noncomputable section
def CQS (S : Sg) (X : Xg) (Z : Qg) : FuncId → TF := addC 26 (tSimplest Z) (addC 17 (tQCompare Z) (addC 15 (tQParts S Z) (addC 27 (tCompare S) (addC 28 (tOf S) (addC 13 (tQCeil S Z) (addC 22 (tQMul Z) (addC 19 (tQOf Z) (addC 31 (tQNew S X Z) (addC 11 tAwakeQ noC)))))))))
theorem CQS_ok : Meets Try.prog (CQS sg0 xg0 sq0) := ((((((((((meets_none _).add eAwakeQ).add eQNew).add eQOf).add eQMul).add eQCeil).add eOf).add eCompare).add eQParts).add eQCompare).add eSimplest
theorem simple_tree (S : Sg) (X : Xg) (Z : Qg) (b c : Bool) (n d m e : ByteArray) : letI q_15 := (Z.sp (Z.qv b n d) (Z.qv c m e)); letI q_1 := (Z.de (Z.qv (Z.qn q_15) (Z.qs q_15) (Z.qd q_15))); letI q_28 := (Z.fr (10 : Int) (1 : Int)); letI q_2 := (Z.qv b n d * Z.qv (Z.qn q_28) (Z.qs q_28) (Z.qd q_28)); letI q_29 := (Z.fr (11 : Int) (1 : Int)); letI q_3 := (Z.qv b n d * Z.qv (Z.qn q_29) (Z.qs q_29) (Z.qd q_29)); letI q_30 := (Z.fr (12 : Int) (1 : Int)); letI q_4 := (Z.qv b n d * Z.qv (Z.qn q_30) (Z.qs q_30) (Z.qd q_30)); letI q_44 := (Z.fr (1 : Int) (1 : Int)); letI q_5 := (Z.qv b n d * Z.qv (Z.qn q_44) (Z.qs q_44) (Z.qd q_44)); letI q_45 := (Z.fr (2 : Int) (1 : Int)); letI q_6 := (Z.qv b n d * Z.qv (Z.qn q_45) (Z.qs q_45) (Z.qd q_45)); letI q_46 := (Z.fr (3 : Int) (1 : Int)); letI q_7 := (Z.qv b n d * Z.qv (Z.qn q_46) (Z.qs q_46) (Z.qd q_46)); letI q_47 := (Z.fr (4 : Int) (1 : Int)); letI q_8 := (Z.qv b n d * Z.qv (Z.qn q_47) (Z.qs q_47) (Z.qd q_47)); letI q_48 := (Z.fr (5 : Int) (1 : Int)); letI q_9 := (Z.qv b n d * Z.qv (Z.qn q_48) (Z.qs q_48) (Z.qd q_48)); letI q_49 := (Z.fr (6 : Int) (1 : Int)); letI q_10 := (Z.qv b n d * Z.qv (Z.qn q_49) (Z.qs q_49) (Z.qd q_49)); letI q_50 := (Z.fr (7 : Int) (1 : Int)); letI q_11 := (Z.qv b n d * Z.qv (Z.qn q_50) (Z.qs q_50) (Z.qd q_50)); letI q_51 := (Z.fr (8 : Int) (1 : Int)); letI q_12 := (Z.qv b n d * Z.qv (Z.qn q_51) (Z.qs q_51) (Z.qd q_51)); letI q_52 := (Z.fr (9 : Int) (1 : Int)); letI q_13 := (Z.qv b n d * Z.qv (Z.qn q_52) (Z.qs q_52) (Z.qd q_52)); letI q_14 := (S.val (S.ng (1 : Int)) (S.ms (1 : Int))); letI q_53 := (Z.cl (Z.qv (Z.qn q_10) (Z.qs q_10) (Z.qd q_10))); letI q_16 := (Z.fr (S.val (S.ng q_53) (S.ms q_53)) q_14); letI q_54 := (Z.cl (Z.qv (Z.qn q_11) (Z.qs q_11) (Z.qd q_11))); letI q_17 := (Z.fr (S.val (S.ng q_54) (S.ms q_54)) q_14); letI q_55 := (Z.cl (Z.qv (Z.qn q_12) (Z.qs q_12) (Z.qd q_12))); letI q_18 := (Z.fr (S.val (S.ng q_55) (S.ms q_55)) q_14); letI q_56 := (Z.cl (Z.qv (Z.qn q_13) (Z.qs q_13) (Z.qd q_13))); letI q_19 := (Z.fr (S.val (S.ng q_56) (S.ms q_56)) q_14); letI q_58 := (Z.cl (Z.qv (Z.qn q_5) (Z.qs q_5) (Z.qd q_5))); letI q_20 := (Z.fr (S.val (S.ng q_58) (S.ms q_58)) q_14); letI q_59 := (Z.cl (Z.qv (Z.qn q_6) (Z.qs q_6) (Z.qd q_6))); letI q_21 := (Z.fr (S.val (S.ng q_59) (S.ms q_59)) q_14); letI q_60 := (Z.cl (Z.qv (Z.qn q_7) (Z.qs q_7) (Z.qd q_7))); letI q_22 := (Z.fr (S.val (S.ng q_60) (S.ms q_60)) q_14); letI q_23 := (Z.fr (S.val (S.ng (Z.cl (Z.qv (Z.qn q_8) (Z.qs q_8) (Z.qd q_8)))) (S.ms (Z.cl (Z.qv (Z.qn q_8) (Z.qs q_8) (Z.qd q_8))))) q_14); letI q_24 := (Z.fr (S.val (S.ng (Z.cl (Z.qv (Z.qn q_9) (Z.qs q_9) (Z.qd q_9)))) (S.ms (Z.cl (Z.qv (Z.qn q_9) (Z.qs q_9) (Z.qd q_9))))) q_14); letI q_25 := (Z.fr (S.val (S.ng (Z.cl (Z.qv (Z.qn q_2) (Z.qs q_2) (Z.qd q_2)))) (S.ms (Z.cl (Z.qv (Z.qn q_2) (Z.qs q_2) (Z.qd q_2))))) q_14); letI q_26 := (Z.fr (S.val (S.ng (Z.cl (Z.qv (Z.qn q_3) (Z.qs q_3) (Z.qd q_3)))) (S.ms (Z.cl (Z.qv (Z.qn q_3) (Z.qs q_3) (Z.qd q_3))))) q_14); letI q_27 := (Z.fr (S.val (S.ng (Z.cl (Z.qv (Z.qn q_4) (Z.qs q_4) (Z.qd q_4)))) (S.ms (Z.cl (Z.qv (Z.qn q_4) (Z.qs q_4) (Z.qd q_4))))) q_14); letI q_31 := (Z.qv c m e * Z.qv (Z.qn q_44) (Z.qs q_44) (Z.qd q_44)); letI q_32 := (Z.qv c m e * Z.qv (Z.qn q_45) (Z.qs q_45) (Z.qd q_45)); letI q_33 := (Z.qv c m e * Z.qv (Z.qn q_46) (Z.qs q_46) (Z.qd q_46)); letI q_34 := (Z.qv c m e * Z.qv (Z.qn q_47) (Z.qs q_47) (Z.qd q_47)); letI q_35 := (Z.qv c m e * Z.qv (Z.qn q_48) (Z.qs q_48) (Z.qd q_48)); letI q_36 := (Z.qv c m e * Z.qv (Z.qn q_49) (Z.qs q_49) (Z.qd q_49)); letI q_37 := (Z.qv c m e * Z.qv (Z.qn q_50) (Z.qs q_50) (Z.qd q_50)); letI q_38 := (Z.qv c m e * Z.qv (Z.qn q_51) (Z.qs q_51) (Z.qd q_51)); letI q_39 := (Z.qv c m e * Z.qv (Z.qn q_52) (Z.qs q_52) (Z.qd q_52)); letI q_40 := (S.val (S.ng q_1) (S.ms q_1)); letI q_41 := (Z.qv c m e * Z.qv (Z.qn q_28) (Z.qs q_28) (Z.qd q_28)); letI q_42 := (Z.qv c m e * Z.qv (Z.qn q_29) (Z.qs q_29) (Z.qd q_29)); letI q_43 := (Z.qv c m e * Z.qv (Z.qn q_30) (Z.qs q_30) (Z.qd q_30)); letI q_57 := (strEq (Z.qs q_15) (ByteArray.mk #[]) && (strEq (Z.qd q_15) (ByteArray.mk #[]) && true)); 
    (callA Try.prog ⟨CQS S X Z, fun _ => false, noL⟩ 20 10 6 [.agg [.val (.bool b), .val (.string n), .val (.string d)], .agg [.val (.bool c), .val (.string m), .val (.string e)]] = (bif decide ((60 : Int) < (↑n.size : Int)) then some (.val (.bool true)) else (bif decide ((60 : Int) < (↑d.size : Int)) then some (.val (.bool true)) else (bif decide ((60 : Int) < (↑m.size : Int)) then some (.val (.bool true)) else (bif decide ((60 : Int) < (↑e.size : Int)) then some (.val (.bool true)) else (bif Z.oks n d && Z.oks m e then (bif Z.ok n d && Z.ok m e then (bif decide ((0 : Int) < Z.cq (Z.qv b n d) (Z.qv c m e)) then (bif decide (Z.se (Z.qv b n d) (Z.qv c m e) = (8 : Int)) then (bif bif false then !(Z.qn q_15 == false && q_57) else Z.qn q_15 == false && q_57 then some (.val (.bool true)) else some (.val (.bool false))) else some (.val (.bool false))) else (bif !decide (Z.se (Z.qv b n d) (Z.qv c m e) = (0 : Int)) then some (.val (.bool false)) else (bif Z.ok n d && Z.ok (Z.qs q_15) (Z.qd q_15) then (bif decide ((0 : Int) < Z.cq (Z.qv b n d) (Z.qv (Z.qn q_15) (Z.qs q_15) (Z.qd q_15))) then some (.val (.bool false)) else (bif Z.ok (Z.qs q_15) (Z.qd q_15) && Z.ok m e then (bif decide ((0 : Int) < Z.cq (Z.qv (Z.qn q_15) (Z.qs q_15) (Z.qd q_15)) (Z.qv c m e)) then some (.val (.bool false)) else (bif Z.ok (Z.qs q_15) (Z.qd q_15) then (bif S.ok (S.ms (1 : Int)) && S.ok (S.ms q_1) then (bif decide (S.cmz q_14 q_40 < (0 : Int)) then (bif Z.ok n d && Z.ok (Z.qs q_44) (Z.qd q_44) then (bif Z.ok (Z.qs q_5) (Z.qd q_5) then (bif S.ok (S.ms q_58) && S.ok (S.ms (1 : Int)) then (bif Z.ok m e && Z.ok (Z.qs q_44) (Z.qd q_44) then (bif Z.ok (Z.qs q_20) (Z.qd q_20) && Z.ok (Z.qs q_31) (Z.qd q_31) then (bif decide (Z.cq (Z.qv (Z.qn q_20) (Z.qs q_20) (Z.qd q_20)) (Z.qv (Z.qn q_31) (Z.qs q_31) (Z.qd q_31)) ≤ (0 : Int)) then some (.val (.bool false)) else (bif S.ok (S.ms (2 : Int)) && S.ok (S.ms q_1) then (bif decide (S.cmz (S.val (S.ng (2 : Int)) (S.ms (2 : Int))) q_40 < (0 : Int)) then (bif Z.ok n d && Z.ok (Z.qs q_45) (Z.qd q_45) then (bif Z.ok (Z.qs q_6) (Z.qd q_6) then (bif S.ok (S.ms q_59) && S.ok (S.ms (1 : Int)) then (bif Z.ok m e && Z.ok (Z.qs q_45) (Z.qd q_45) then (bif Z.ok (Z.qs q_21) (Z.qd q_21) && Z.ok (Z.qs q_32) (Z.qd q_32) then (bif decide (Z.cq (Z.qv (Z.qn q_21) (Z.qs q_21) (Z.qd q_21)) (Z.qv (Z.qn q_32) (Z.qs q_32) (Z.qd q_32)) ≤ (0 : Int)) then some (.val (.bool false)) else (bif S.ok (S.ms (3 : Int)) && S.ok (S.ms q_1) then (bif decide (S.cmz (S.val (S.ng (3 : Int)) (S.ms (3 : Int))) q_40 < (0 : Int)) then (bif Z.ok n d && Z.ok (Z.qs q_46) (Z.qd q_46) then (bif Z.ok (Z.qs q_7) (Z.qd q_7) then (bif S.ok (S.ms q_60) && S.ok (S.ms (1 : Int)) then (bif Z.ok m e && Z.ok (Z.qs q_46) (Z.qd q_46) then (bif Z.ok (Z.qs q_22) (Z.qd q_22) && Z.ok (Z.qs q_33) (Z.qd q_33) then (bif decide (Z.cq (Z.qv (Z.qn q_22) (Z.qs q_22) (Z.qd q_22)) (Z.qv (Z.qn q_33) (Z.qs q_33) (Z.qd q_33)) ≤ (0 : Int)) then some (.val (.bool false)) else (bif S.ok (S.ms (4 : Int)) && S.ok (S.ms q_1) then (bif decide (S.cmz (S.val (S.ng (4 : Int)) (S.ms (4 : Int))) q_40 < (0 : Int)) then (bif Z.ok n d && Z.ok (Z.qs q_47) (Z.qd q_47) then (bif Z.ok (Z.qs q_8) (Z.qd q_8) then (bif S.ok (S.ms (Z.cl (Z.qv (Z.qn q_8) (Z.qs q_8) (Z.qd q_8)))) && S.ok (S.ms (1 : Int)) then (bif Z.ok m e && Z.ok (Z.qs q_47) (Z.qd q_47) then (bif Z.ok (Z.qs q_23) (Z.qd q_23) && Z.ok (Z.qs q_34) (Z.qd q_34) then (bif decide (Z.cq (Z.qv (Z.qn q_23) (Z.qs q_23) (Z.qd q_23)) (Z.qv (Z.qn q_34) (Z.qs q_34) (Z.qd q_34)) ≤ (0 : Int)) then some (.val (.bool false)) else (bif S.ok (S.ms (5 : Int)) && S.ok (S.ms q_1) then (bif decide (S.cmz (S.val (S.ng (5 : Int)) (S.ms (5 : Int))) q_40 < (0 : Int)) then (bif Z.ok n d && Z.ok (Z.qs q_48) (Z.qd q_48) then (bif Z.ok (Z.qs q_9) (Z.qd q_9) then (bif S.ok (S.ms (Z.cl (Z.qv (Z.qn q_9) (Z.qs q_9) (Z.qd q_9)))) && S.ok (S.ms (1 : Int)) then (bif Z.ok m e && Z.ok (Z.qs q_48) (Z.qd q_48) then (bif Z.ok (Z.qs q_24) (Z.qd q_24) && Z.ok (Z.qs q_35) (Z.qd q_35) then (bif decide (Z.cq (Z.qv (Z.qn q_24) (Z.qs q_24) (Z.qd q_24)) (Z.qv (Z.qn q_35) (Z.qs q_35) (Z.qd q_35)) ≤ (0 : Int)) then some (.val (.bool false)) else (bif S.ok (S.ms (6 : Int)) && S.ok (S.ms q_1) then (bif decide (S.cmz (S.val (S.ng (6 : Int)) (S.ms (6 : Int))) q_40 < (0 : Int)) then (bif Z.ok n d && Z.ok (Z.qs q_49) (Z.qd q_49) then (bif Z.ok (Z.qs q_10) (Z.qd q_10) then (bif S.ok (S.ms q_53) && S.ok (S.ms (1 : Int)) then (bif Z.ok m e && Z.ok (Z.qs q_49) (Z.qd q_49) then (bif Z.ok (Z.qs q_16) (Z.qd q_16) && Z.ok (Z.qs q_36) (Z.qd q_36) then (bif decide (Z.cq (Z.qv (Z.qn q_16) (Z.qs q_16) (Z.qd q_16)) (Z.qv (Z.qn q_36) (Z.qs q_36) (Z.qd q_36)) ≤ (0 : Int)) then some (.val (.bool false)) else (bif S.ok (S.ms (7 : Int)) && S.ok (S.ms q_1) then (bif decide (S.cmz (S.val (S.ng (7 : Int)) (S.ms (7 : Int))) q_40 < (0 : Int)) then (bif Z.ok n d && Z.ok (Z.qs q_50) (Z.qd q_50) then (bif Z.ok (Z.qs q_11) (Z.qd q_11) then (bif S.ok (S.ms q_54) && S.ok (S.ms (1 : Int)) then (bif Z.ok m e && Z.ok (Z.qs q_50) (Z.qd q_50) then (bif Z.ok (Z.qs q_17) (Z.qd q_17) && Z.ok (Z.qs q_37) (Z.qd q_37) then (bif decide (Z.cq (Z.qv (Z.qn q_17) (Z.qs q_17) (Z.qd q_17)) (Z.qv (Z.qn q_37) (Z.qs q_37) (Z.qd q_37)) ≤ (0 : Int)) then some (.val (.bool false)) else (bif S.ok (S.ms (8 : Int)) && S.ok (S.ms q_1) then (bif decide (S.cmz (S.val (S.ng (8 : Int)) (S.ms (8 : Int))) q_40 < (0 : Int)) then (bif Z.ok n d && Z.ok (Z.qs q_51) (Z.qd q_51) then (bif Z.ok (Z.qs q_12) (Z.qd q_12) then (bif S.ok (S.ms q_55) && S.ok (S.ms (1 : Int)) then (bif Z.ok m e && Z.ok (Z.qs q_51) (Z.qd q_51) then (bif Z.ok (Z.qs q_18) (Z.qd q_18) && Z.ok (Z.qs q_38) (Z.qd q_38) then (bif decide (Z.cq (Z.qv (Z.qn q_18) (Z.qs q_18) (Z.qd q_18)) (Z.qv (Z.qn q_38) (Z.qs q_38) (Z.qd q_38)) ≤ (0 : Int)) then some (.val (.bool false)) else (bif S.ok (S.ms (9 : Int)) && S.ok (S.ms q_1) then (bif decide (S.cmz (S.val (S.ng (9 : Int)) (S.ms (9 : Int))) q_40 < (0 : Int)) then (bif Z.ok n d && Z.ok (Z.qs q_52) (Z.qd q_52) then (bif Z.ok (Z.qs q_13) (Z.qd q_13) then (bif S.ok (S.ms q_56) && S.ok (S.ms (1 : Int)) then (bif Z.ok m e && Z.ok (Z.qs q_52) (Z.qd q_52) then (bif Z.ok (Z.qs q_19) (Z.qd q_19) && Z.ok (Z.qs q_39) (Z.qd q_39) then (bif decide (Z.cq (Z.qv (Z.qn q_19) (Z.qs q_19) (Z.qd q_19)) (Z.qv (Z.qn q_39) (Z.qs q_39) (Z.qd q_39)) ≤ (0 : Int)) then some (.val (.bool false)) else (bif S.ok (S.ms (10 : Int)) && S.ok (S.ms q_1) then (bif decide (S.cmz (S.val (S.ng (10 : Int)) (S.ms (10 : Int))) q_40 < (0 : Int)) then (bif Z.ok n d && Z.ok (Z.qs q_28) (Z.qd q_28) then (bif Z.ok (Z.qs q_2) (Z.qd q_2) then (bif S.ok (S.ms (Z.cl (Z.qv (Z.qn q_2) (Z.qs q_2) (Z.qd q_2)))) && S.ok (S.ms (1 : Int)) then (bif Z.ok m e && Z.ok (Z.qs q_28) (Z.qd q_28) then (bif Z.ok (Z.qs q_25) (Z.qd q_25) && Z.ok (Z.qs q_41) (Z.qd q_41) then (bif decide (Z.cq (Z.qv (Z.qn q_25) (Z.qs q_25) (Z.qd q_25)) (Z.qv (Z.qn q_41) (Z.qs q_41) (Z.qd q_41)) ≤ (0 : Int)) then some (.val (.bool false)) else (bif S.ok (S.ms (11 : Int)) && S.ok (S.ms q_1) then (bif decide (S.cmz (S.val (S.ng (11 : Int)) (S.ms (11 : Int))) q_40 < (0 : Int)) then (bif Z.ok n d && Z.ok (Z.qs q_29) (Z.qd q_29) then (bif Z.ok (Z.qs q_3) (Z.qd q_3) then (bif S.ok (S.ms (Z.cl (Z.qv (Z.qn q_3) (Z.qs q_3) (Z.qd q_3)))) && S.ok (S.ms (1 : Int)) then (bif Z.ok m e && Z.ok (Z.qs q_29) (Z.qd q_29) then (bif Z.ok (Z.qs q_26) (Z.qd q_26) && Z.ok (Z.qs q_42) (Z.qd q_42) then (bif decide (Z.cq (Z.qv (Z.qn q_26) (Z.qs q_26) (Z.qd q_26)) (Z.qv (Z.qn q_42) (Z.qs q_42) (Z.qd q_42)) ≤ (0 : Int)) then some (.val (.bool false)) else (bif S.ok (S.ms (12 : Int)) && S.ok (S.ms q_1) then (bif decide (S.cmz (S.val (S.ng (12 : Int)) (S.ms (12 : Int))) q_40 < (0 : Int)) then (bif Z.ok n d && Z.ok (Z.qs q_30) (Z.qd q_30) then (bif Z.ok (Z.qs q_4) (Z.qd q_4) then (bif S.ok (S.ms (Z.cl (Z.qv (Z.qn q_4) (Z.qs q_4) (Z.qd q_4)))) && S.ok (S.ms (1 : Int)) then (bif Z.ok m e && Z.ok (Z.qs q_30) (Z.qd q_30) then (bif Z.ok (Z.qs q_27) (Z.qd q_27) && Z.ok (Z.qs q_43) (Z.qd q_43) then (bif decide (Z.cq (Z.qv (Z.qn q_27) (Z.qs q_27) (Z.qd q_27)) (Z.qv (Z.qn q_43) (Z.qs q_43) (Z.qd q_43)) ≤ (0 : Int)) then some (.val (.bool false)) else some (.val (.bool true))) else none) else none) else none) else none) else none) else some (.val (.bool true))) else none)) else none) else none) else none) else none) else none) else some (.val (.bool true))) else none)) else none) else none) else none) else none) else none) else some (.val (.bool true))) else none)) else none) else none) else none) else none) else none) else some (.val (.bool true))) else none)) else none) else none) else none) else none) else none) else some (.val (.bool true))) else none)) else none) else none) else none) else none) else none) else some (.val (.bool true))) else none)) else none) else none) else none) else none) else none) else some (.val (.bool true))) else none)) else none) else none) else none) else none) else none) else some (.val (.bool true))) else none)) else none) else none) else none) else none) else none) else some (.val (.bool true))) else none)) else none) else none) else none) else none) else none) else some (.val (.bool true))) else none)) else none) else none) else none) else none) else none) else some (.val (.bool true))) else none)) else none) else none) else none) else none) else none) else some (.val (.bool true))) else none) else none)) else none)) else none))) else none) else none)))))) := by kernel_rfl
end
end Go.Proofs.Ytkmblomkocfldaa.L

/- RationalSimple holds. -/
set_option linter.unusedVariables false
set_option linter.unusedSimpArgs false
namespace Go.Proofs.Ytkmblomkocfldaa.L
open Go Go.V Go.RowKit Go.Proofs.Ytkmblomkocfldaa.Sp Go.Proofs.Ytkmblomkocfldaa.F
open Go.Proofs (Try.prog)
noncomputable section
theorem simp2_spec {x y : Rat} (h : x ≤ y) : x ≤ simp2 x y ∧ simp2 x y ≤ y ∧ szq (simp2 x y) ≤ szq x + szq y + 1 ∧ ∀ q : Rat, x ≤ q → q ≤ y → (simp2 x y).den ≤ q.den := by
  unfold simp2
  rw [if_neg (show ¬ y < x by grind)]
  by_cases h1 : x ≤ 0 ∧ 0 ≤ y
  · rw [if_pos h1]
    have := szq_zero
    exact ⟨h1.1, h1.2, by omega, fun q _ _ => q.den_pos⟩
  · rw [if_neg h1]
    by_cases h2 : y < 0
    · rw [if_pos h2]
      have h3 : (0 : Rat) < -y := by grind
      have h4 : -y ≤ -x := by grind
      obtain ⟨i1, i2, i3⟩ := simp1_spec _ (-y) (-x) h3 h4 (Nat.le_refl _)
      have sz := szq_simp h3 h4
      rw [szq_neg] at sz
      refine ⟨by grind, by grind, by rw [szq_neg]; omega, fun q q1 q2 => ?_⟩
      have := (i3 (-q) (by grind) (by grind)).1
      rwa [Rat.neg_den] at this ⊢
    · rw [if_neg h2]
      have h3 : (0 : Rat) < x := by grind
      obtain ⟨i1, i2, i3⟩ := simp1_spec _ x y h3 h (Nat.le_refl _)
      have sz := szq_simp h3 h
      exact ⟨i1, i2, by omega, fun q q1 q2 => (i3 q q1 q2).1⟩
theorem cz_lt' (x y : Int) : sg0.cmz x y < 0 ↔ x < y := cz_lt x y
theorem simple_k (x y s : Rat) (hx : szq x ≤ 60) (hy : szq y ≤ 60) (hs : ∀ q : Rat, x ≤ q → q ≤ y → s.den ≤ q.den) (k : Int) (h0 : 0 < k) (h1 : k ≤ 12) :
    sg0.ok (sg0.ms k) = true ∧ sq0.ok (sq0.qs (k : Rat)) (sq0.qd (k : Rat)) = true ∧ sq0.ok (sq0.qs (x * (k : Rat))) (sq0.qd (x * (k : Rat))) = true ∧ sg0.ok (sg0.ms (x * (k : Rat)).ceil) = true ∧ sq0.ok (sq0.qs ((x * (k : Rat)).ceil : Rat)) (sq0.qd ((x * (k : Rat)).ceil : Rat)) = true ∧ sq0.ok (sq0.qs (y * (k : Rat))) (sq0.qd (y * (k : Rat))) = true ∧
    (decide (sg0.cmz k (s.den : Int) < 0) = true → decide (cqn ((x * (k : Rat)).ceil : Rat) (y * (k : Rat)) ≤ 0) = false) := by
  have b0 : bs k.natAbs ≤ 1 := bs_le (by omega)
  have b1 := szq_int k
  have b2 := szq_mul x (k : Rat)
  have b3 := szq_mul y (k : Rat)
  have b4 := bs_ceil (x * (k : Rat))
  have b5 := szq_int (x * (k : Rat)).ceil
  have b6 : bs (x * (k : Rat)).num.natAbs ≤ szq (x * (k : Rat)) := Nat.le_max_left _ _
  refine ⟨ok_ms (by omega), ok_rat (by omega), ok_rat (by omega), ok_ms (by omega), ok_rat (by omega), ok_rat (by omega), fun h => ?_⟩
  rw [decide_eq_true_eq, cz_lt'] at h
  rw [decide_eq_false_iff_not, cq_le]
  intro h2
  have hk : (0 : Rat) < (k : Rat) := Rat.intCast_pos.2 h0
  have hc : x * (k : Rat) ≤ ((x * (k : Rat)).ceil : Rat) := Rat.le_ceil
  generalize (x * (k : Rat)).ceil = c at *
  have hd : (Rat.divInt c k).den ≤ k.natAbs := den_fr_le c (by omega)
  have e : Rat.divInt c k * (k : Rat) = (c : Rat) := by
    rw [Rat.divInt_eq_div, Rat.div_mul_cancel (by grind)]
  have l1 : x ≤ Rat.divInt c k := Rat.le_of_mul_le_mul_right (by rw [e]; exact hc) hk
  have l2 : Rat.divInt c k ≤ y := Rat.le_of_mul_le_mul_right (by rw [e]; exact h2) hk
  have := hs _ l1 l2
  omega
theorem simple_true (b c : Bool) (n d m e : ByteArray) : callA Try.prog ⟨CQS sg0 xg0 sq0, fun _ => false, noL⟩ 20 10 6 [.agg [.val (.bool b), .val (.string n), .val (.string d)], .agg [.val (.bool c), .val (.string m), .val (.string e)]] = some (.val (.bool true)) := by
  rw [simple_tree]
  by_cases h1 : (60 : Int) < n.size
  · rw [dT h1]; rfl
  by_cases h2 : (60 : Int) < d.size
  · rw [dF h1, dT h2]; rfl
  by_cases h3 : (60 : Int) < m.size
  · rw [dF h1, dF h2, dT h3]; rfl
  by_cases h4 : (60 : Int) < e.size
  · rw [dF h1, dF h2, dF h3, dT h4]; rfl
  rw [dF h1, dF h2, dF h3, dF h4]
  have o1 := qok_small (n := n) (d := d) (by omega) (by omega)
  have o2 := qok_small (n := m) (d := e) (by omega) (by omega)
  have o3 := qoks_small (n := n) (d := d) (by omega) (by omega)
  have o4 := qoks_small (n := m) (d := e) (by omega) (by omega)
  have z1 := szq_val60 b (n := n) (d := d) (by omega) (by omega)
  have z2 := szq_val60 c (n := m) (d := e) (by omega) (by omega)
  have hfr : ∀ c : Int, sq0.fr c 1 = (c : Rat) := fr_one
  have hcl : ∀ q, sq0.cl q = q.ceil := fun q => rfl
  have hde : ∀ q, sq0.de q = (q.den : Int) := fun q => rfl
  have hsp : ∀ x y, sq0.sp x y = simp2 x y := fun x y => rfl
  have hse : ∀ x y : Rat, sq0.se x y = if y < x then 8 else 0 := fun x y => rfl
  simp only [qv_rat, val_ms, val_one, cqz, hfr, hcl, hde, hsp, hse]
  rw [o1, o2, o3, o4]
  generalize sq0.qv b n d = x at *
  generalize sq0.qv c m e = y at *
  by_cases g1 : y < x
  · rw [dT ((cq_gt x y).2 g1), if_pos g1, eqQ0 (show simp2 x y = 0 from if_pos g1)]; rfl
  · rw [dF (fun h => g1 ((cq_gt x y).1 h)), if_neg g1]
    obtain ⟨i1, i2, i3, i4⟩ := simp2_spec (x := x) (y := y) (by grind)
    generalize simp2 x y = s at *
    have b7 : bs s.den ≤ szq s := Nat.le_max_right _ _
    rw [dF (show ¬ 0 < cqn x s from fun h => by have := (cq_gt x s).1 h; grind), dF (show ¬ 0 < cqn s y from fun h => by have := (cq_gt s y).1 h; grind), ok_rat (q := s) (by omega), ok_ms (z := ((s.den : Nat) : Int)) (by rw [Int.natAbs_natCast]; omega)]
    obtain ⟨p1, q1, r1, s1, t1, u1, w1⟩ := simple_k x y s z1 z2 i4 1 (by decide) (by decide)
    rw [p1, q1, r1, s1, t1, u1]
    generalize decide (sg0.cmz 1 (s.den : Int) < 0) = A1 at *
    generalize decide (cqn ((x * ((1 : Int) : Rat)).ceil : Rat) (y * ((1 : Int) : Rat)) ≤ 0) = B1 at *
    obtain ⟨p2, q2, r2, s2, t2, u2, w2⟩ := simple_k x y s z1 z2 i4 2 (by decide) (by decide)
    rw [p2, q2, r2, s2, t2, u2]
    generalize decide (sg0.cmz 2 (s.den : Int) < 0) = A2 at *
    generalize decide (cqn ((x * ((2 : Int) : Rat)).ceil : Rat) (y * ((2 : Int) : Rat)) ≤ 0) = B2 at *
    obtain ⟨p3, q3, r3, s3, t3, u3, w3⟩ := simple_k x y s z1 z2 i4 3 (by decide) (by decide)
    rw [p3, q3, r3, s3, t3, u3]
    generalize decide (sg0.cmz 3 (s.den : Int) < 0) = A3 at *
    generalize decide (cqn ((x * ((3 : Int) : Rat)).ceil : Rat) (y * ((3 : Int) : Rat)) ≤ 0) = B3 at *
    obtain ⟨p4, q4, r4, s4, t4, u4, w4⟩ := simple_k x y s z1 z2 i4 4 (by decide) (by decide)
    rw [p4, q4, r4, s4, t4, u4]
    generalize decide (sg0.cmz 4 (s.den : Int) < 0) = A4 at *
    generalize decide (cqn ((x * ((4 : Int) : Rat)).ceil : Rat) (y * ((4 : Int) : Rat)) ≤ 0) = B4 at *
    obtain ⟨p5, q5, r5, s5, t5, u5, w5⟩ := simple_k x y s z1 z2 i4 5 (by decide) (by decide)
    rw [p5, q5, r5, s5, t5, u5]
    generalize decide (sg0.cmz 5 (s.den : Int) < 0) = A5 at *
    generalize decide (cqn ((x * ((5 : Int) : Rat)).ceil : Rat) (y * ((5 : Int) : Rat)) ≤ 0) = B5 at *
    obtain ⟨p6, q6, r6, s6, t6, u6, w6⟩ := simple_k x y s z1 z2 i4 6 (by decide) (by decide)
    rw [p6, q6, r6, s6, t6, u6]
    generalize decide (sg0.cmz 6 (s.den : Int) < 0) = A6 at *
    generalize decide (cqn ((x * ((6 : Int) : Rat)).ceil : Rat) (y * ((6 : Int) : Rat)) ≤ 0) = B6 at *
    obtain ⟨p7, q7, r7, s7, t7, u7, w7⟩ := simple_k x y s z1 z2 i4 7 (by decide) (by decide)
    rw [p7, q7, r7, s7, t7, u7]
    generalize decide (sg0.cmz 7 (s.den : Int) < 0) = A7 at *
    generalize decide (cqn ((x * ((7 : Int) : Rat)).ceil : Rat) (y * ((7 : Int) : Rat)) ≤ 0) = B7 at *
    obtain ⟨p8, q8, r8, s8, t8, u8, w8⟩ := simple_k x y s z1 z2 i4 8 (by decide) (by decide)
    rw [p8, q8, r8, s8, t8, u8]
    generalize decide (sg0.cmz 8 (s.den : Int) < 0) = A8 at *
    generalize decide (cqn ((x * ((8 : Int) : Rat)).ceil : Rat) (y * ((8 : Int) : Rat)) ≤ 0) = B8 at *
    obtain ⟨p9, q9, r9, s9, t9, u9, w9⟩ := simple_k x y s z1 z2 i4 9 (by decide) (by decide)
    rw [p9, q9, r9, s9, t9, u9]
    generalize decide (sg0.cmz 9 (s.den : Int) < 0) = A9 at *
    generalize decide (cqn ((x * ((9 : Int) : Rat)).ceil : Rat) (y * ((9 : Int) : Rat)) ≤ 0) = B9 at *
    obtain ⟨p10, q10, r10, s10, t10, u10, w10⟩ := simple_k x y s z1 z2 i4 10 (by decide) (by decide)
    rw [p10, q10, r10, s10, t10, u10]
    generalize decide (sg0.cmz 10 (s.den : Int) < 0) = A10 at *
    generalize decide (cqn ((x * ((10 : Int) : Rat)).ceil : Rat) (y * ((10 : Int) : Rat)) ≤ 0) = B10 at *
    obtain ⟨p11, q11, r11, s11, t11, u11, w11⟩ := simple_k x y s z1 z2 i4 11 (by decide) (by decide)
    rw [p11, q11, r11, s11, t11, u11]
    generalize decide (sg0.cmz 11 (s.den : Int) < 0) = A11 at *
    generalize decide (cqn ((x * ((11 : Int) : Rat)).ceil : Rat) (y * ((11 : Int) : Rat)) ≤ 0) = B11 at *
    obtain ⟨p12, q12, r12, s12, t12, u12, w12⟩ := simple_k x y s z1 z2 i4 12 (by decide) (by decide)
    rw [p12, q12, r12, s12, t12, u12]
    generalize decide (sg0.cmz 12 (s.den : Int) < 0) = A12 at *
    generalize decide (cqn ((x * ((12 : Int) : Rat)).ceil : Rat) (y * ((12 : Int) : Rat)) ≤ 0) = B12 at *
    clear i1 i2 i3 i4 z1 z2
    cases A1
    · rfl
    rw [w1 rfl]
    cases A2
    · rfl
    rw [w2 rfl]
    cases A3
    · rfl
    rw [w3 rfl]
    cases A4
    · rfl
    rw [w4 rfl]
    cases A5
    · rfl
    rw [w5 rfl]
    cases A6
    · rfl
    rw [w6 rfl]
    cases A7
    · rfl
    rw [w7 rfl]
    cases A8
    · rfl
    rw [w8 rfl]
    cases A9
    · rfl
    rw [w9 rfl]
    cases A10
    · rfl
    rw [w10 rfl]
    cases A11
    · rfl
    rw [w11 rfl]
    cases A12
    · rfl
    rw [w12 rfl]
    rfl
theorem simple_walk (b : Bool) (n d : ByteArray) (c : Bool) (m e : ByteArray) (W : World) : Calls Try.prog 6 #[.agg #[.bool b, .string n, .string d], .agg #[.bool c, .string m, .string e]] W fun e w' => e = .returned (.bool true) ∧ Below W.heap.size W w' :=
  law_walk CQS_ok loops_none (by kernel_rfl) (simple_true b c n d m e) W ⟨_, _, rfl, arg_rat _ _ b n d, _, _, rfl, arg_rat _ _ c m e, rfl⟩
end
end Go.Proofs.Ytkmblomkocfldaa.L
