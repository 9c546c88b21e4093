import Derived.Test.YtamcpiicmfielaaGreatZMD
set_option linter.unusedVariables false
set_option linter.unusedSimpArgs false
namespace Go.Proofs.YtamcpiicmfielaaGreat.L
open Go Go.V Go.RowKit Go.Proofs.YtamcpiicmfielaaGreat.Sp
open Go.Proofs (Tryz.prog)
noncomputable section
structure Qg where
 qv:Bool→ByteArray→ByteArray→Rat
 qn:Rat→Bool
 qs:Rat→ByteArray
 qd:Rat→ByteArray
 ok:ByteArray→ByteArray→Bool
 fd:ByteArray→ByteArray
 fr:Int→Int→Rat
 cq:Rat→Rat→Int
 sq:Rat→Int
 ms:ByteArray→ByteArray→Bool
 mn:Bool→ByteArray→ByteArray→Int
 md:ByteArray→ByteArray→Int
 ck:Bool→ByteArray→ByteArray→Int
 nu:Rat→Int
 de:Rat→Int
 qe:Rat→Int
 fl:Rat→Int
 cl:Rat→Int
 oks:ByteArray→ByteArray→Bool
 sp:Rat→Rat→Rat
 se:Rat→Rat→Int
def Qg.rat (Z:Qg) (q:Rat):AV:= .agg [.val (.bool (Z.qn q)), .val (.string (Z.qs q)), .val (.string (Z.qd q))]
abbrev TF:Type:=List AV→Option (Bool×AV)
def tOfF (Z:Qg):TF:=fun args=>match args with | [.agg [.val (.bool b), .val (.string n), .val (.string d)]]=>some (Z.ok n d, .agg [.val (.bool b), .val (.string n), .val (.bool false), .val (.string (Z.fd d))]) | _=>none
def tNumber (S:Sg) (Z:Qg):TF:=fun args=>match args with | [.agg [.val (.bool b), .val (.string s), .val (.bool c), .val (.string t)]]=>some (S.ok s&&S.ok t&&decide (0 < S.val c t),Z.rat (Z.fr (S.val b s) (S.val c t))) | _=>none
def tMachine (Z:Qg):TF:=fun args=>match args with | [.agg [.val (.bool b), .val (.string n), .val (.string d)]]=>some (true, .tup [.val (.int .i64 (Z.mn b n d)), .val (.int .i64 (Z.md n d)), .val (.bool (Z.ms n d))]) | _=>none
def mid (z:Int):Bool:=decide (-72057594037927936 < z)&&decide (z < 72057594037927936)
def tRatio0 (Z:Qg):TF:=fun args=>match args with | [.val (.int .i64 n), .val (.int .i64 d)]=>some (mid n&&mid d&&decide (0 < d),Z.rat (Z.fr n d)) | _=>none
def tText (S:Sg):TF:=fun args=>match args with | [.val (.int .i64 n)]=>some (decide (0≤n)&&decide (n≤9223372036854775807), .val (.string (S.mg n.toNat))) | _=>none
def tDigits (S:Sg):TF:=fun args=>match args with | [.val (.string s)]=>some (decide (s.size≤3), .val (.int .i64 (S.vs s))) | _=>none
def tQOf (Z:Qg):TF:=fun args=>match args with | [.val (.int .i64 z)]=>some (inI z,Z.rat (Z.fr z 1)) | _=>none
def tQRatio (X:Xg) (Z:Qg):TF:=fun args=>match args with | [.val (.int .i64 n), .val (.int .i64 d)]=>some (inI n&&inI d, .tup [Z.rat (Z.fr n d), .val (.int .i64 (X.de d))]) | _=>none
def tQNew (S:Sg) (X:Xg) (Z:Qg):TF:=fun args=>match args with | [.agg [.val (.bool b), .val (.string s)], .agg [.val (.bool c), .val (.string t)]]=>some (S.ok s&&S.ok t, .tup [Z.rat (Z.fr (S.val b s) (S.val c t)), .val (.int .i64 (X.de (S.val c t)))]) | _=>none
def tQ1 (Z:Qg) (f:Bool→ByteArray→ByteArray→AV):TF:=fun args=>match args with | [.agg [.val (.bool b), .val (.string n), .val (.string d)]]=>some (Z.ok n d,f b n d) | _=>none
def tQ2 (Z:Qg) (f:Rat→Rat→AV):TF:=fun args=>match args with | [.agg [.val (.bool b), .val (.string n), .val (.string d)], .agg [.val (.bool c), .val (.string m), .val (.string e)]]=>some (Z.ok n d&&Z.ok m e,f (Z.qv b n d) (Z.qv c m e)) | _=>none
def tQCheck (Z:Qg):TF:=tQ1 Z fun b n d=> .val (.int .i64 (Z.ck b n d))
def tQNeg (Z:Qg):TF:=tQ1 Z fun b n d=>Z.rat (-(Z.qv b n d))
def tQSign (Z:Qg):TF:=tQ1 Z fun b n d=> .val (.int .i64 (Z.sq (Z.qv b n d)))
def tQFloor (S:Sg) (Z:Qg):TF:=tQ1 Z fun b n d=>S.int (Z.fl (Z.qv b n d))
def tQCeil (S:Sg) (Z:Qg):TF:=tQ1 Z fun b n d=>S.int (Z.cl (Z.qv b n d))
def tQAdd (Z:Qg):TF:=tQ2 Z fun x y=>Z.rat (x+y)
def tQSub (Z:Qg):TF:=tQ2 Z fun x y=>Z.rat (x - y)
def tQMul (Z:Qg):TF:=tQ2 Z fun x y=>Z.rat (x*y)
def tQQuo (Z:Qg):TF:=tQ2 Z fun x y=> .tup [Z.rat (x / y), .val (.int .i64 (Z.qe y))]
def tQCompare (Z:Qg):TF:=tQ2 Z fun x y=> .val (.int .i64 (Z.cq x y))
end
end Go.Proofs.YtamcpiicmfielaaGreat.L
namespace Go.Proofs.YtamcpiicmfielaaGreat.L
open Go Go.V Go.RowKit Go.Proofs.YtamcpiicmfielaaGreat.Sp
open Go.Proofs (Tryz.prog)
noncomputable section
def COf (S:Sg):FuncId→TF:=addC 64 (tCompare S) (addC 69 (tOf S) noC)
theorem of_tree (S:Sg) (b:Bool) (n d:ByteArray):callA Tryz.prog ⟨COf S,Kall,noL⟩ 10 10 68 [.agg [.val (.bool b), .val (.string n), .val (.string d)]]=
  (bif S.ok d&&S.ok (S.ms (0:Int)) then (bif decide (S.cmz (S.val false d) (S.val (S.ng (0:Int)) (S.ms (0:Int)))=(0:Int)) then some (.agg [(.val (.bool b)),(.val (.string n)),(.val (.bool (S.ng (1:Int)))),(.val (.string (S.ms (1:Int))))]) else some (.agg [(.val (.bool b)),(.val (.string n)),(.val (.bool false)),(.val (.string d))])) else none):=by kernel_rfl
def CNu (S:Sg) (X:Xg):FuncId→TF:=addC 114 (tGcd S X) (addC 115 (tDiv S X) (COf S))
theorem number_tree (S:Sg) (X:Xg) (b c:Bool) (s t:ByteArray):letI q_2:=(X.gcd (S.val b s) (S.val c t));letI q_1:=(S.val (S.ng q_2) (S.ms q_2));
  (callA Tryz.prog ⟨CNu S X,Kall,noL⟩ 10 10 70 [.agg [.val (.bool b), .val (.string s), .val (.bool c), .val (.string t)]]=(bif S.ok s&&S.ok (S.ms (0:Int)) then (bif decide (S.cmz (S.val b s) (S.val (S.ng (0:Int)) (S.ms (0:Int)))=(0:Int)) then some (.agg [(.val (.bool false)),(.val (.string (ByteArray.mk #[]))),(.val (.string (ByteArray.mk #[])))]) else (bif S.ok s&&S.ok t then (bif S.ok s&&S.ok (S.ms q_2) then (bif S.ok t&&S.ok (S.ms q_2) then (bif S.ok (S.ms (X.dq (S.val c t) q_1))&&S.ok (S.ms (1:Int)) then (bif !decide (S.cmz (S.val (S.ng (X.dq (S.val c t) q_1)) (S.ms (X.dq (S.val c t) q_1))) (S.val (S.ng (1:Int)) (S.ms (1:Int)))=(0:Int)) then some (.agg [(.val (.bool (S.ng (X.dq (S.val b s) q_1)))),(.val (.string (S.ms (X.dq (S.val b s) q_1)))),(.val (.string (S.ms (X.dq (S.val c t) q_1))))]) else some (.agg [(.val (.bool (S.ng (X.dq (S.val b s) q_1)))),(.val (.string (S.ms (X.dq (S.val b s) q_1)))),(.val (.string (ByteArray.mk #[])))])) else none) else none) else none) else none)) else none)):=by kernel_rfl
def CMa (S:Sg):FuncId→TF:=addC 138 (tDigits S) noC
theorem machine_tree (S:Sg) (b:Bool) (n d:ByteArray):callA Tryz.prog ⟨CMa S,Kall,noL⟩ 10 10 105 [.agg [.val (.bool b), .val (.string n), .val (.string d)]]=
  (bif decide ((3:Int) < (↑n.size:Int)) then some (.tup [(.val (.int .i64 0)),(.val (.int .i64 0)),(.val (.bool false))]) else (bif decide ((3:Int) < (↑d.size:Int)) then some (.tup [(.val (.int .i64 0)),(.val (.int .i64 0)),(.val (.bool false))]) else (bif decide (n.size≤(3:Nat)) then (bif decide (d.size≤(3:Nat)) then (bif b then some (.tup [(.val (.int .i64 (IntKind.i64.wrap ((0:Int) - (↑(S.vs n):Int))))),(.val (.int .i64 (mxI (↑(S.vs d):Int) (1:Int)))),(.val (.bool true))]) else some (.tup [(.val (.int .i64 ((↑(S.vs n):Int)))),(.val (.int .i64 (mxI (↑(S.vs d):Int) (1:Int)))),(.val (.bool true))])) else none) else none))):=by kernel_rfl
def CQn (S:Sg) (X:Xg) (Z:Qg):FuncId→TF:=addC 70 (tNumber S Z) (addC 68 (tOfF Z) (addC 121 (tNeg S) (COf S)))
theorem qof_tree (S:Sg) (X:Xg) (Z:Qg) (z:Int):callA Tryz.prog ⟨CQn S X Z,Kall,noL⟩ 10 10 28 [.val (.int .i64 z)]=
  (bif inI z then (bif S.ok (S.ms z)&&S.ok (S.ms (1:Int))&&decide ((0:Int) < S.val (S.ng (1:Int)) (S.ms (1:Int))) then some (.agg [(.val (.bool (Z.qn (Z.fr (S.val (S.ng z) (S.ms z)) (S.val (S.ng (1:Int)) (S.ms (1:Int))))))),(.val (.string (Z.qs (Z.fr (S.val (S.ng z) (S.ms z)) (S.val (S.ng (1:Int)) (S.ms (1:Int))))))),(.val (.string (Z.qd (Z.fr (S.val (S.ng z) (S.ms z)) (S.val (S.ng (1:Int)) (S.ms (1:Int)))))))]) else none) else none):=by kernel_rfl
theorem qnew_tree (S:Sg) (X:Xg) (Z:Qg) (b c:Bool) (s t:ByteArray):letI q_1:=(Z.fr (S.val (S.ng (-S.val b s)) (S.ms (-S.val b s))) (S.val (S.ng (-S.val c t)) (S.ms (-S.val c t))));
  (callA Tryz.prog ⟨CQn S X Z,Kall,noL⟩ 10 10 84 [.agg [.val (.bool b), .val (.string s)], .agg [.val (.bool c), .val (.string t)]]=(bif S.ok t&&S.ok (ByteArray.mk #[]) then (bif decide (S.cmz (S.val c t) (S.val false (ByteArray.mk #[]))=(0:Int)) then some (.tup [(.agg [(.val (.bool false)),(.val (.string (ByteArray.mk #[]))),(.val (.string (ByteArray.mk #[])))]),(.val (.int .i64 10))]) else (bif decide (S.cmz (S.val c t) (S.val false (ByteArray.mk #[]))=(-1:Int)) then (bif S.ok s then (bif S.ok t then (bif S.ok (S.ms (-S.val b s))&&S.ok (S.ms (-S.val c t))&&decide ((0:Int) < S.val (S.ng (-S.val c t)) (S.ms (-S.val c t))) then some (.tup [(.agg [(.val (.bool (Z.qn q_1))),(.val (.string (Z.qs q_1))),(.val (.string (Z.qd q_1)))]),(.val (.int .i64 0))]) else none) else none) else none) else (bif S.ok s&&S.ok t&&decide ((0:Int) < S.val c t) then some (.tup [(.agg [(.val (.bool (Z.qn (Z.fr (S.val b s) (S.val c t))))),(.val (.string (Z.qs (Z.fr (S.val b s) (S.val c t))))),(.val (.string (Z.qd (Z.fr (S.val b s) (S.val c t)))))]),(.val (.int .i64 0))]) else none))) else none)):=by kernel_rfl
theorem qratio_tree (S:Sg) (X:Xg) (Z:Qg) (n d:Int):callA Tryz.prog ⟨addC 84 (tQNew S X Z) (COf S),Kall,noL⟩ 10 10 87 [.val (.int .i64 n), .val (.int .i64 d)]=
  (bif inI n then (bif inI d then (bif S.ok (S.ms n)&&S.ok (S.ms d) then some (.tup [(.agg [(.val (.bool (Z.qn (Z.fr (S.val (S.ng n) (S.ms n)) (S.val (S.ng d) (S.ms d)))))),(.val (.string (Z.qs (Z.fr (S.val (S.ng n) (S.ms n)) (S.val (S.ng d) (S.ms d)))))),(.val (.string (Z.qd (Z.fr (S.val (S.ng n) (S.ms n)) (S.val (S.ng d) (S.ms d))))))]),(.val (.int .i64 (X.de (S.val (S.ng d) (S.ms d)))))]) else none) else none) else none):=by kernel_rfl
theorem qcheck_tree (S:Sg) (X:Xg) (Z:Qg) (b:Bool) (n d:ByteArray):callA Tryz.prog ⟨CQn S X Z,Kall,noL⟩ 10 10 49 [.agg [.val (.bool b), .val (.string n), .val (.string d)]]=
  (bif Z.ok n d then (bif S.ok n&&S.ok (Z.fd d)&&decide ((0:Int) < S.val false (Z.fd d)) then (bif bif true then !(b==Z.qn (Z.fr (S.val b n) (S.val false (Z.fd d)))&&(strEq n (Z.qs (Z.fr (S.val b n) (S.val false (Z.fd d))))&&(strEq d (Z.qd (Z.fr (S.val b n) (S.val false (Z.fd d))))&&true))) else b==Z.qn (Z.fr (S.val b n) (S.val false (Z.fd d)))&&(strEq n (Z.qs (Z.fr (S.val b n) (S.val false (Z.fd d))))&&(strEq d (Z.qd (Z.fr (S.val b n) (S.val false (Z.fd d))))&&true)) then some (.val (.int .i64 1)) else some (.val (.int .i64 0))) else none) else none):=by kernel_rfl
theorem qneg_tree (S:Sg) (X:Xg) (Z:Qg) (b:Bool) (n d:ByteArray):callA Tryz.prog ⟨CQn S X Z,Kall,noL⟩ 10 10 156 [.agg [.val (.bool b), .val (.string n), .val (.string d)]]=
  (bif Z.ok n d then (bif S.ok n&&S.ok (Z.fd d)&&decide ((0:Int) < S.val false (Z.fd d)) then some (.agg [(.val (.bool (Z.qn (Z.fr (S.val (!b) n) (S.val false (Z.fd d)))))),(.val (.string (Z.qs (Z.fr (S.val (!b) n) (S.val false (Z.fd d)))))),(.val (.string (Z.qd (Z.fr (S.val (!b) n) (S.val false (Z.fd d))))))]) else none) else none):=by kernel_rfl
theorem qsign_tree (S:Sg) (X:Xg) (Z:Qg) (b:Bool) (n d:ByteArray):callA Tryz.prog ⟨CQn S X Z,Kall,noL⟩ 10 10 27 [.agg [.val (.bool b), .val (.string n), .val (.string d)]]=
  (bif Z.ok n d then (bif S.ok n&&S.ok (ByteArray.mk #[]) then some (.val (.int .i64 (S.cmz (S.val b n) (S.val false (ByteArray.mk #[]))))) else none) else none):=by kernel_rfl
def CQa (S:Sg) (X:Xg) (Z:Qg):FuncId→TF:=addC 105 (tMachine Z) (addC 73 (tRatio0 Z) (addC 65 (tMul S) (addC 75 (tAdd S) (CQn S X Z))))
theorem qadd_tree (S:Sg) (X:Xg) (Z:Qg) (b c:Bool) (n d m e:ByteArray):letI q_3:=(S.val (S.ng (S.val b n*S.val false (Z.fd e))) (S.ms (S.val b n*S.val false (Z.fd e)))+S.val (S.ng (S.val c m*S.val false (Z.fd d))) (S.ms (S.val c m*S.val false (Z.fd d))));letI q_5:=(S.val false (Z.fd d)*S.val false (Z.fd e));letI q_1:=(Z.fr (S.val (S.ng q_3) (S.ms q_3)) (S.val (S.ng q_5) (S.ms q_5)));letI q_2:Option AV:=(bif Z.ok n d then (bif Z.ok m e then (bif S.ok n&&S.ok (Z.fd e) then (bif S.ok m&&S.ok (Z.fd d) then (bif S.ok (S.ms (S.val b n*S.val false (Z.fd e)))&&S.ok (S.ms (S.val c m*S.val false (Z.fd d))) then (bif S.ok (Z.fd d)&&S.ok (Z.fd e) then (bif S.ok (S.ms q_3)&&S.ok (S.ms q_5)&&decide ((0:Int) < S.val (S.ng q_5) (S.ms q_5)) then some (.agg [(.val (.bool (Z.qn q_1))),(.val (.string (Z.qs q_1))),(.val (.string (Z.qd q_1)))]) else none) else none) else none) else none) else none) else none) else none);letI q_4:=(Z.mn b n d*Z.md m e+Z.mn c m e*Z.md n d);
  (callA Tryz.prog ⟨CQa S X Z,Kall,noL⟩ 10 10 29 [.agg [.val (.bool b), .val (.string n), .val (.string d)], .agg [.val (.bool c), .val (.string m), .val (.string e)]]=(bif Z.ms n d then (bif Z.ms m e then (bif inR IntKind.i64 (Z.mn b n d*Z.md m e) then (bif inR IntKind.i64 (Z.mn c m e*Z.md n d) then (bif inR IntKind.i64 q_4 then (bif inR IntKind.i64 (Z.md n d*Z.md m e) then (bif mid q_4&&mid (Z.md n d*Z.md m e)&&decide ((0:Int) < Z.md n d*Z.md m e) then some (.agg [(.val (.bool (Z.qn (Z.fr q_4 (Z.md n d*Z.md m e))))),(.val (.string (Z.qs (Z.fr q_4 (Z.md n d*Z.md m e))))),(.val (.string (Z.qd (Z.fr q_4 (Z.md n d*Z.md m e)))))]) else none) else none) else none) else none) else none) else q_2) else q_2)):=by kernel_rfl
theorem qmul_tree (S:Sg) (X:Xg) (Z:Qg) (b c:Bool) (n d m e:ByteArray):letI q_3:=(S.val false (Z.fd d)*S.val false (Z.fd e));letI q_2:=(Z.fr (S.val (S.ng (S.val b n*S.val c m)) (S.ms (S.val b n*S.val c m))) (S.val (S.ng q_3) (S.ms q_3)));letI q_1:Option AV:=(bif Z.ok n d then (bif Z.ok m e then (bif S.ok n&&S.ok m then (bif S.ok (Z.fd d)&&S.ok (Z.fd e) then (bif S.ok (S.ms (S.val b n*S.val c m))&&S.ok (S.ms q_3)&&decide ((0:Int) < S.val (S.ng q_3) (S.ms q_3)) then some (.agg [(.val (.bool (Z.qn q_2))),(.val (.string (Z.qs q_2))),(.val (.string (Z.qd q_2)))]) else none) else none) else none) else none) else none);letI q_4:=(Z.fr (Z.mn b n d*Z.mn c m e) (Z.md n d*Z.md m e));
  (callA Tryz.prog ⟨CQa S X Z,Kall,noL⟩ 10 10 30 [.agg [.val (.bool b), .val (.string n), .val (.string d)], .agg [.val (.bool c), .val (.string m), .val (.string e)]]=(bif Z.ms n d then (bif Z.ms m e then (bif inR IntKind.i64 (Z.mn b n d*Z.mn c m e) then (bif inR IntKind.i64 (Z.md n d*Z.md m e) then (bif mid (Z.mn b n d*Z.mn c m e)&&mid (Z.md n d*Z.md m e)&&decide ((0:Int) < Z.md n d*Z.md m e) then some (.agg [(.val (.bool (Z.qn q_4))),(.val (.string (Z.qs q_4))),(.val (.string (Z.qd q_4)))]) else none) else none) else none) else q_1) else q_1)):=by kernel_rfl
theorem qcompare_tree (S:Sg) (X:Xg) (Z:Qg) (b c:Bool) (n d m e:ByteArray):letI q_1:Option AV:=(bif Z.ok n d then (bif Z.ok m e then (bif S.ok n&&S.ok (Z.fd e) then (bif S.ok m&&S.ok (Z.fd d) then (bif S.ok (S.ms (S.val b n*S.val false (Z.fd e)))&&S.ok (S.ms (S.val c m*S.val false (Z.fd d))) then some (.val (.int .i64 (S.cmz (S.val (S.ng (S.val b n*S.val false (Z.fd e))) (S.ms (S.val b n*S.val false (Z.fd e)))) (S.val (S.ng (S.val c m*S.val false (Z.fd d))) (S.ms (S.val c m*S.val false (Z.fd d))))))) else none) else none) else none) else none) else none);
  (callA Tryz.prog ⟨CQa S X Z,Kall,noL⟩ 10 10 23 [.agg [.val (.bool b), .val (.string n), .val (.string d)], .agg [.val (.bool c), .val (.string m), .val (.string e)]]=(bif Z.ms n d then (bif Z.ms m e then (bif inR IntKind.i64 (Z.mn b n d*Z.md m e) then (bif inR IntKind.i64 (Z.mn c m e*Z.md n d) then (bif decide (Z.mn b n d*Z.md m e < Z.mn c m e*Z.md n d) then some (.val (.int .i64 (-1))) else (bif decide (Z.mn c m e*Z.md n d < Z.mn b n d*Z.md m e) then some (.val (.int .i64 1)) else some (.val (.int .i64 0)))) else none) else none) else q_1) else q_1)):=by kernel_rfl
theorem qquo_tree (S:Sg) (X:Xg) (Z:Qg) (b c:Bool) (n d m e:ByteArray):callA Tryz.prog ⟨addC 84 (tQNew S X Z) (CQa S X Z),Kall,noL⟩ 10 10 42 [.agg [.val (.bool b), .val (.string n), .val (.string d)], .agg [.val (.bool c), .val (.string m), .val (.string e)]]=
  (bif Z.ok n d then (bif Z.ok m e then (bif S.ok n&&S.ok (Z.fd e) then (bif S.ok (Z.fd d)&&S.ok m then (bif S.ok (S.ms (S.val b n*S.val false (Z.fd e)))&&S.ok (S.ms (S.val false (Z.fd d)*S.val c m)) then some (.tup [(.agg [(.val (.bool (Z.qn (Z.fr (S.val (S.ng (S.val b n*S.val false (Z.fd e))) (S.ms (S.val b n*S.val false (Z.fd e)))) (S.val (S.ng (S.val false (Z.fd d)*S.val c m)) (S.ms (S.val false (Z.fd d)*S.val c m))))))),(.val (.string (Z.qs (Z.fr (S.val (S.ng (S.val b n*S.val false (Z.fd e))) (S.ms (S.val b n*S.val false (Z.fd e)))) (S.val (S.ng (S.val false (Z.fd d)*S.val c m)) (S.ms (S.val false (Z.fd d)*S.val c m))))))),(.val (.string (Z.qd (Z.fr (S.val (S.ng (S.val b n*S.val false (Z.fd e))) (S.ms (S.val b n*S.val false (Z.fd e)))) (S.val (S.ng (S.val false (Z.fd d)*S.val c m)) (S.ms (S.val false (Z.fd d)*S.val c m)))))))]),(.val (.int .i64 (X.de (S.val (S.ng (S.val false (Z.fd d)*S.val c m)) (S.ms (S.val false (Z.fd d)*S.val c m))))))]) else none) else none) else none) else none) else none):=by kernel_rfl
theorem qsub_tree (Z:Qg) (b c:Bool) (n d m e:ByteArray):callA Tryz.prog ⟨addC 29 (tQAdd Z) noC,Kall,noL⟩ 10 10 31 [.agg [.val (.bool b), .val (.string n), .val (.string d)], .agg [.val (.bool c), .val (.string m), .val (.string e)]]=
  (bif Z.ok n d&&Z.ok m e then some (.agg [(.val (.bool (Z.qn (Z.qv b n d+Z.qv (!c) m e)))),(.val (.string (Z.qs (Z.qv b n d+Z.qv (!c) m e)))),(.val (.string (Z.qd (Z.qv b n d+Z.qv (!c) m e))))]) else none):=by kernel_rfl
theorem qfloor_tree (S:Sg) (X:Xg) (Z:Qg) (b:Bool) (n d:ByteArray):callA Tryz.prog ⟨addC 68 (tOfF Z) (addC 115 (tDiv S X) noC),Kall,noL⟩ 10 10 155 [.agg [.val (.bool b), .val (.string n), .val (.string d)]]=
  (bif Z.ok n d then (bif S.ok n&&S.ok (Z.fd d) then some (.agg [(.val (.bool (S.ng (X.dq (S.val b n) (S.val false (Z.fd d)))))),(.val (.string (S.ms (X.dq (S.val b n) (S.val false (Z.fd d))))))]) else none) else none):=by kernel_rfl
theorem qceil_tree (S:Sg) (X:Xg) (Z:Qg) (b:Bool) (n d:ByteArray):callA Tryz.prog ⟨addC 155 (tQFloor S Z) (addC 156 (tQNeg Z) (addC 121 (tNeg S) noC)),Kall,noL⟩ 10 10 122 [.agg [.val (.bool b), .val (.string n), .val (.string d)]]=
  (bif Z.ok n d then (bif Z.ok (Z.qs (-Z.qv b n d)) (Z.qd (-Z.qv b n d)) then (bif S.ok (S.ms (Z.fl (Z.qv (Z.qn (-Z.qv b n d)) (Z.qs (-Z.qv b n d)) (Z.qd (-Z.qv b n d))))) then some (.agg [(.val (.bool (S.ng (-S.val (S.ng (Z.fl (Z.qv (Z.qn (-Z.qv b n d)) (Z.qs (-Z.qv b n d)) (Z.qd (-Z.qv b n d))))) (S.ms (Z.fl (Z.qv (Z.qn (-Z.qv b n d)) (Z.qs (-Z.qv b n d)) (Z.qd (-Z.qv b n d))))))))),(.val (.string (S.ms (-S.val (S.ng (Z.fl (Z.qv (Z.qn (-Z.qv b n d)) (Z.qs (-Z.qv b n d)) (Z.qd (-Z.qv b n d))))) (S.ms (Z.fl (Z.qv (Z.qn (-Z.qv b n d)) (Z.qs (-Z.qv b n d)) (Z.qd (-Z.qv b n d)))))))))]) else none) else none) else none):=by kernel_rfl
end
end Go.Proofs.YtamcpiicmfielaaGreat.L
namespace Go.Proofs.YtamcpiicmfielaaGreat.L
open Go Go.V Go.RowKit Go.Proofs.YtamcpiicmfielaaGreat.Sp Go.Proofs.YtamcpiicmfielaaGreat.F
open Go.Proofs (Tryz.prog)
noncomputable section
def dn (d:ByteArray):Int:=if vS d=0 then 1 else (vS d:Int)
def fdn (d:ByteArray):ByteArray:=if vS d=0 then magOf 1 else d
def simpQ:Nat→Rat→Rat→Rat
 | 0,_,_=>0
 | n+1,a,b=>if (a.ceil:Rat)≤b then (a.ceil:Rat) else ((a.ceil - 1:Int):Rat)+1 / simpQ n (1 / (b - ((a.ceil - 1:Int):Rat))) (1 / (a - ((a.ceil - 1:Int):Rat)))
def simp1 (a b:Rat):Rat:=simpQ (a.den+b.den) a b
def simp2 (x y:Rat):Rat:=if y < x then 0 else if x≤0∧0≤y then 0 else if y < 0 then -(simp1 (-y) (-x)) else simp1 x y
def qvn (b:Bool) (n d:ByteArray):Rat:=Rat.divInt (Sp.val b n) (dn d)
def qnn (q:Rat):Bool:=(enc q.num).1
def qsn (q:Rat):ByteArray:=(enc q.num).2
def qdn (q:Rat):ByteArray:=if q.den=1 then ByteArray.mk #[] else magOf q.den
def cqn (a b:Rat):Int:=if a < b then -1 else if b < a then 1 else 0
def smn (n d:ByteArray):Bool:=decide (n.size≤3)&&decide (d.size≤3)
def sq0:Qg where
 qv:=qvn
 qn:=qnn
 qs:=qsn
 qd:=qdn
 ok n d:=decide (n.size≤1099511627776)&&decide (d.size≤1099511627776)
 fd:=fdn
 fr:=Rat.divInt
 cq:=cqn
 sq a:=cqn a 0
 ms:=smn
 mn b n d:=bif smn n d then Sp.val b n else 0
 md n d:=bif smn n d then dn d else 0
 ck b n d:=bif (b==qnn (qvn b n d))&&strEq n (qsn (qvn b n d))&&strEq d (qdn (qvn b n d)) then 0 else 1
 nu q:=q.num
 de q:=q.den
 qe q:=if q=0 then 10 else 0
 fl q:=q.floor
 cl q:=q.ceil
 oks n d:=decide (n.size≤1073741824)&&decide (d.size≤1073741824)
 sp:=simp2
 se x y:=if y < x then 8 else 0
theorem dn_pos (d:ByteArray):0 < dn d:=by unfold dn;split <;> omega
theorem dn_ne (d:ByteArray):dn d≠0:=by have:=dn_pos d;omega
theorem vs_one:sg0.vs (magOf 1)=1:=vS_magOf 1
theorem val_fd (d:ByteArray):sg0.val false (sq0.fd d)=dn d:=by
 show ((sg0.vs (fdn d):Nat):Int)=dn d
 unfold fdn dn
 split
 ·rw [vs_one];rfl
 ·rfl
theorem bs_one:bs 1≤1:=bs_le (by decide)
theorem bs_zero:bs 0=0:=Nat.le_zero.1 (bs_le (n:=0) (m:=0) (by decide))
theorem size_fd (d:ByteArray):(sq0.fd d).size≤max d.size 1:=by
 show (fdn d).size≤_
 unfold fdn
 split
 ·have:(magOf 1).size=bs 1:=size_magOf 1
  have:=bs_one
  omega
 ·omega
theorem bs_dn (d:ByteArray):bs (dn d).natAbs≤max d.size 1:=by
 unfold dn
 split
 ·have:=bs_one
  show bs 1≤_
  omega
 ·rw [Int.natAbs_natCast]
  have:=bs_vs d
  have h:bs (vS d)≤d.size:=this
  omega
theorem dn_qd (q:Rat):dn (qdn q)=q.den:=by
 have hp:=q.den_pos
 unfold dn qdn
 by_cases h:q.den=1
 ·rw [if_pos h,if_pos (show vS (ByteArray.mk #[])=0 from rfl),h];rfl
 ·rw [if_neg h,vS_magOf,if_neg (by omega)]
theorem qv_rat (q:Rat):sq0.qv (sq0.qn q) (sq0.qs q) (sq0.qd q)=q:=by
 show Rat.divInt (Sp.val (enc q.num).1 (enc q.num).2) (dn (qdn q))=q
 rw [val_enc,dn_qd,Rat.num_divInt_den]
theorem qn_zero:sq0.qn 0=false:=rfl
theorem qs_zero:sq0.qs 0=ByteArray.mk #[]:=ms_zero
theorem qd_zero:sq0.qd 0=ByteArray.mk #[]:=by show qdn 0=_;unfold qdn;exact if_pos rfl
theorem rat_zero:sq0.rat 0= .agg [.val (.bool false), .val (.string (ByteArray.mk #[])), .val (.string (ByteArray.mk #[]))]:=by
 unfold Qg.rat;rw [qn_zero,qs_zero,qd_zero]
theorem not_val (b:Bool) (n:ByteArray):sg0.val (!b) n= -sg0.val b n:=val_not b n
theorem qv_not (b:Bool) (n d:ByteArray):sq0.qv (!b) n d= -sq0.qv b n d:=by
 show Rat.divInt (sg0.val (!b) n) (dn d)= -Rat.divInt (sg0.val b n) (dn d)
 rw [not_val,Rat.neg_divInt]
def szq (q:Rat):Nat:=max (bs q.num.natAbs) (bs q.den)
theorem size_qs (q:Rat):(sq0.qs q).size=bs q.num.natAbs:=size_magOf _
theorem size_qd (q:Rat):(sq0.qd q).size≤bs q.den:=by
 show (qdn q).size≤_
 unfold qdn
 split
 ·exact Nat.zero_le _
 ·exact Nat.le_of_eq (size_magOf _)
theorem ok_rat {q:Rat} (h:szq q≤1099511627776):sq0.ok (sq0.qs q) (sq0.qd q)=true:=by
 unfold szq at h
 have h1:=size_qs q
 have h2:=size_qd q
 show (decide _&&decide _)=true
 rw [decide_eq_true (show (sq0.qs q).size≤1099511627776 by omega),decide_eq_true (show (sq0.qd q).size≤1099511627776 by omega)];rfl
theorem qok_out {n d:ByteArray} (h:sq0.ok n d=true):n.size≤1099511627776∧d.size≤1099511627776:=by
 have h:(decide _&&decide _)=true:=h
 rwa [Bool.and_eq_true,decide_eq_true_eq,decide_eq_true_eq] at h
theorem qoks_out {n d:ByteArray} (h:sq0.oks n d=true):n.size≤1073741824∧d.size≤1073741824:=by
 have h:(decide _&&decide _)=true:=h
 rwa [Bool.and_eq_true,decide_eq_true_eq,decide_eq_true_eq] at h
theorem qok_in {n d:ByteArray} (h1:n.size≤1099511627776) (h2:d.size≤1099511627776):sq0.ok n d=true:=by
 show (decide _&&decide _)=true
 rw [decide_eq_true h1,decide_eq_true h2];rfl
theorem num_fr_le (x y:Int):(Rat.divInt x y).num.natAbs≤x.natAbs:=by
 rw [Rat.num_divInt]
 refine Nat.le_trans (Int.natAbs_ediv_le_natAbs _ _) ?_
 rw [Int.natAbs_mul]
 have h:y.sign.natAbs≤1:=by rcases Int.lt_trichotomy y 0 with h | h | h <;> simp [Int.sign_eq_neg_one_of_neg,Int.sign_eq_one_of_pos,h]
 exact Nat.le_trans (Nat.mul_le_mul_right _ h) (by omega)
theorem den_fr_le (x:Int) {y:Int} (hy:y≠0):(Rat.divInt x y).den≤y.natAbs:=by
 rw [Rat.den_divInt,if_neg hy]
 exact Nat.div_le_self _ _
theorem szq_fr (x:Int) {y:Int} (hy:y≠0):szq (Rat.divInt x y)≤max (bs x.natAbs) (bs y.natAbs):=by
 have h1:=bs_mono (num_fr_le x y)
 have h2:=bs_mono (den_fr_le x hy)
 unfold szq
 omega
theorem szq_val (b:Bool) (n d:ByteArray):szq (sq0.qv b n d)≤max n.size (max d.size 1):=by
 have h1:=szq_fr (sg0.val b n) (dn_ne d)
 have h2:=bs_val b n
 have h3:=bs_dn d
 have h4:szq (sq0.qv b n d)≤_:=h1
 omega
theorem den_ne' (q:Rat):((q.den:Nat):Int)≠0:=by have:=q.den_pos;omega
theorem mul_ne' {a b:Int} (ha:a≠0) (hb:b≠0):a*b≠0:=Int.mul_ne_zero ha hb
theorem szq_zero:szq 0≤1:=by
 unfold szq
 have h:bs 1≤1:=bs_one
 have h2:bs 0=0:=bs_zero
 show max (bs 0) (bs 1)≤1
 omega
theorem szq_neg (a:Rat):szq (-a)=szq a:=by
 unfold szq
 rw [Rat.neg_num,Rat.neg_den,Int.natAbs_neg]
theorem szq_add (a b:Rat):szq (a+b)≤szq a+szq b+1:=by
 have h:=szq_fr (a.num*b.den+b.num*a.den) (mul_ne' (den_ne' a) (den_ne' b))
 have e:a+b=Rat.divInt (a.num*b.den+b.num*a.den) ((a.den:Int)*(b.den:Int)):=by
  rw [← Rat.divInt_add_divInt _ _ (den_ne' a) (den_ne' b),Rat.num_divInt_den,Rat.num_divInt_den]
 rw [e]
 have h1:=bs_zadd (a.num*b.den) (b.num*a.den)
 have h2:=bs_zmul a.num b.den
 have h3:=bs_zmul b.num a.den
 have h4:=bs_zmul a.den b.den
 rw [Int.natAbs_natCast] at h2 h3 h4
 rw [Int.natAbs_natCast] at h4
 unfold szq at*
 omega
theorem szq_sub (a b:Rat):szq (a - b)≤szq a+szq b+1:=by
 rw [Rat.sub_eq_add_neg]
 have:=szq_add a (-b)
 rwa [szq_neg] at this
theorem szq_mul (a b:Rat):szq (a*b)≤szq a+szq b:=by
 have h:=szq_fr (a.num*b.num) (mul_ne' (den_ne' a) (den_ne' b))
 have e:a*b=Rat.divInt (a.num*b.num) ((a.den:Int)*(b.den:Int)):=by
  rw [← Rat.divInt_mul_divInt,Rat.num_divInt_den,Rat.num_divInt_den]
 rw [e]
 have h2:=bs_zmul a.num b.num
 have h4:=bs_zmul a.den b.den
 rw [Int.natAbs_natCast] at h4
 rw [Int.natAbs_natCast] at h4
 unfold szq at*
 omega
theorem div_fr (a b:Rat):a / b=Rat.divInt (a.num*b.den) ((a.den:Int)*b.num):=by
 rw [Rat.div_def,Rat.inv_def,← Rat.divInt_mul_divInt,Rat.num_divInt_den]
theorem szq_div (a b:Rat):szq (a / b)≤szq a+szq b+1:=by
 by_cases hb:b=0
 ·subst hb
  have e:a / 0=0:=by rw [Rat.div_def,Rat.inv_zero,Rat.mul_zero]
  rw [e]
  have:=szq_zero
  omega
 ·rw [div_fr]
  have hn:b.num≠0:=fun h=>hb (Rat.num_eq_zero.1 h)
  have h:=szq_fr (a.num*b.den) (mul_ne' (den_ne' a) hn)
  have h2:=bs_zmul a.num b.den
  have h4:=bs_zmul a.den b.num
  rw [Int.natAbs_natCast] at h2 h4
  unfold szq at*
  omega
theorem fr_add (x y:Int) {d e:Int} (hd:d≠0) (he:e≠0):Rat.divInt x d+Rat.divInt y e=Rat.divInt (x*e+y*d) (d*e):=Rat.divInt_add_divInt _ _ hd he
theorem fr_mul (x y d e:Int):Rat.divInt x d*Rat.divInt y e=Rat.divInt (x*y) (d*e):=Rat.divInt_mul_divInt _ _
theorem fr_div (x y d e:Int):Rat.divInt x d / Rat.divInt y e=Rat.divInt (x*e) (d*y):=by
 rw [Rat.div_def,Rat.inv_divInt,fr_mul]
theorem fr_zero {x d:Int} (hd:d≠0):Rat.divInt x d=0↔x=0:=by
 rw [show (0:Rat)=Rat.divInt 0 1 from rfl,Rat.divInt_eq_divInt_iff hd (by decide)]
 omega
theorem fr_lt {x y d e:Int} (hd:0 < d) (he:0 < e):Rat.divInt x d < Rat.divInt y e↔x*e < y*d:=by
 have hd':(0:Rat) < (d:Rat):=Rat.intCast_pos.2 hd
 have he':(0:Rat) < (e:Rat):=Rat.intCast_pos.2 he
 rw [Rat.divInt_eq_div,Rat.divInt_eq_div,Rat.div_lt_iff hd',← Rat.intCast_lt_intCast,Rat.intCast_mul,Rat.intCast_mul]
 have h:(y:Rat) / (e:Rat)*(d:Rat)=(y:Rat)*(d:Rat) / (e:Rat):=by grind
 rw [h,Rat.lt_div_iff he']
theorem cq_fr (x y:Int) {d e:Int} (hd:0 < d) (he:0 < e):cqn (Rat.divInt x d) (Rat.divInt y e)=cmpZ (x*e) (y*d):=by
 unfold cqn cmpZ
 by_cases h1:x*e < y*d
 ·rw [if_pos h1,if_pos ((fr_lt hd he).2 h1)]
 ·rw [if_neg h1,if_neg (fun h=>h1 ((fr_lt hd he).1 h))]
  by_cases h2:y*d < x*e
  ·rw [if_pos h2,if_pos ((fr_lt he hd).2 h2)]
  ·rw [if_neg h2,if_neg (fun h=>h2 ((fr_lt he hd).1 h))]
theorem sq_fr (x:Int) {d:Int} (hd:0 < d):cqn (Rat.divInt x d) 0=cmpZ x 0:=by
 rw [show (0:Rat)=Rat.divInt 0 1 from rfl,cq_fr x 0 hd (by decide),Int.mul_one,Int.zero_mul]
theorem floor_fr (x:Int) {d:Int} (hd:0 < d):(Rat.divInt x d).floor=x.fdiv d:=by
 rw [Int.fdiv_eq_ediv_of_nonneg _ (by omega)]
 have h1:((x / d:Int):Rat)≤Rat.divInt x d:=by
  rw [← Rat.not_lt,show ((x / d:Int):Rat)=Rat.divInt (x / d) 1 from by rw [Rat.divInt_eq_div];grind,fr_lt hd (by decide)]
  have:=Int.ediv_mul_le x (show d≠0 by omega)
  omega
 have h2:Rat.divInt x d < ((x / d+1:Int):Rat):=by
  rw [show ((x / d+1:Int):Rat)=Rat.divInt (x / d+1) 1 from by rw [Rat.divInt_eq_div];grind,fr_lt hd (by decide)]
  have:=Int.lt_ediv_add_one_mul_self x hd
  omega
 have h3:=Rat.le_floor_iff.2 h1
 have h4:=Rat.floor_lt_iff.2 h2
 omega
end
end Go.Proofs.YtamcpiicmfielaaGreat.L
namespace Go.Proofs.YtamcpiicmfielaaGreat.L
open Go Go.V Go.RowKit Go.Proofs.YtamcpiicmfielaaGreat.Sp Go.Proofs.YtamcpiicmfielaaGreat.F Go.Proofs.YtamcpiicmfielaaGreatW.PrintWords
open Go.Proofs (Tryz.prog)
noncomputable section
abbrev p_rsmall:List Bool:= [false,true,false,true,true]
def sh_rsmall (s:ByteArray) (v:Int) (i:Int):List AV:=slots 19 [(0, .val (.string s)),(3, .val (.int .i64 v)),(4, .val (.int .i64 i))]
def hp_rsmall (s:ByteArray) (v:Int) (i:Int):Hp:= []
theorem body_rsmall:subC Tryz.prog 162 p_rsmall=some (.loop (lb 162 p_rsmall)):=by kernel_rfl
theorem code_rsmall:subC Tryz.prog 162 (false :: p_rsmall)=some (lb 162 p_rsmall):=by kernel_rfl
theorem round_rsmall (s:ByteArray) (v:Int) (i:Int):roundA Tryz.prog EL0 162 [0,3,4] (lb 162 p_rsmall) (false :: p_rsmall) (sh_rsmall s v i) (hp_rsmall s v i)=
  (bif decide (i < (↑s.size:Int)) then (bif inR IntKind.i64 (v*(256:Int)) then (bif decide ((0:Int)≤i)&&decide (i < (↑s.size:Int)) then (bif inR IntKind.i64 (byteAt s i.toNat) then (bif inR IntKind.i64 (i+(1:Int)) then some (.normal,slots 19 [(0,(.val (.string s))),(3,(.val (.int .i64 (bitI BinOp.or IntKind.i64 (v*(256:Int)) (byteAt s i.toNat))))),(4,(.val (.int .i64 (i+(1:Int)))))], []) else none) else none) else none) else none) else some ((.exit 0),slots 19 [(0,(.val (.string s))),(3,(.val (.int .i64 v))),(4,(.val (.int .i64 i)))], [])):=by kernel_rfl
theorem step_rsmall {s:ByteArray} {v:Int} {i:Int} {e:Ex} {T:List AV} {H:Hp} (h:roundA Tryz.prog EL0 162 [0,3,4] (lb 162 p_rsmall) (false :: p_rsmall) (sh_rsmall s v i) (hp_rsmall s v i)=some (e,T,H)):V.Ends Tryz.prog false 0 0 (lb 162 p_rsmall) (sh_rsmall s v i) (hp_rsmall s v i) e T H:=
 round_ends (meets_none _) loops_none mixed code_rsmall h
def pre_rsmall (s:ByteArray) (v i:Int):Prop:=s.size≤8∧vS s < 9223372036854775808∧v=0∧i=0
def post_rsmall (s:ByteArray) (v i:Int) (r:Int×Int):Prop:=r.1=(vS s:Nat)
theorem or_i64b (v b:Nat) (hv:v*256+b < 9223372036854775808) (hb:b < 256):bitI .or .i64 ((v:Int)*256) (b:Int)=((v*256+b:Nat):Int):=by
 have e3:Go.bits .or .i64 ((v*256:Nat):Int) ((b:Nat):Int)=((v*256+b:Nat):Int):=by
  have:=bits_join .i64 63 (by decide) (fun n h1 h2=>by rw [IntKind.wrap_i64];omega) 8 ((v*256:Nat):Int) ((b:Nat):Int) (by omega) (by omega) (by omega) (by omega) (by omega) (by omega)
  rw [this];omega
 rw [Int.natCast_mul] at e3
 exact e3
theorem vB_take_le (l:List UInt8) (i:Nat):vB (l.take i)≤vB l:=by
 have:=vB_append (l.take i) (l.drop i)
 rw [List.take_append_drop] at this
 rw [this]
 have h:=Nat.le_mul_of_pos_right (vB (l.take i)) (Nat.pow_pos (n:=(l.drop i).length) (by decide:0 < 256))
 omega
theorem rsmall_go (s:ByteArray) (hs:s.size≤8) (hv:vS s < 9223372036854775808) (d:Nat):∀ i:Nat,i+d=s.size→∃ r:Int×Int,LoopTo Tryz.prog (lb 162 p_rsmall) (sh_rsmall s (vB (s.data.toList.take i):Nat) i) (hp_rsmall s (vB (s.data.toList.take i):Nat) i) (.exit 0) (sh_rsmall s r.1 r.2) (hp_rsmall s r.1 r.2)∧r.1=(vS s:Nat):=by
 induction d with
 | zero=>
  intro i hi
  have hi':i=s.size:=by omega
  subst hi'
  have e:s.data.toList.take s.size=s.data.toList:=List.take_of_length_le (by rw [Array.length_toList];exact Nat.le_refl _)
  refine ⟨((vB (s.data.toList.take s.size):Nat),(s.size:Int)), .last (step_rsmall ?_) (by intro h;cases h),by rw [e];rfl⟩
  rw [round_rsmall,dF (show ¬ ((s.size:Int) < s.size) by omega)]
  rfl
 | succ d ih=>
  intro i hi
  obtain ⟨r,h1,h2⟩:=ih (i+1) (by omega)
  refine ⟨r, .more (step_rsmall ?_) h1,h2⟩
  rw [round_rsmall]
  have hb:=byteAt_lt s i
  have hsucc:=vB_take_succ s i (by omega)
  have hle:=vB_take_le s.data.toList (i+1)
  have hle:vB (s.data.toList.take (i+1))≤vS s:=hle
  obtain ⟨c,hc⟩:∃ c:Nat,byteAt s i=c:= ⟨(byteAt s i).toNat,by omega⟩
  rw [hc] at hb hsucc
  have e:vB (s.data.toList.take (i+1))=vB (s.data.toList.take i)*256+c:=by omega
  rw [Int.toNat_natCast,hc,or_i64b _ _ (by omega) (by omega),i64T (show -9223372036854775808≤((vB (s.data.toList.take i):Nat):Int)*256∧((vB (s.data.toList.take i):Nat):Int)*256≤9223372036854775807 by omega),i64T (show -9223372036854775808≤(c:Int)∧(c:Int)≤9223372036854775807 by omega),i64T (show -9223372036854775808≤(i:Int)+1∧(i:Int)+1≤9223372036854775807 by omega),dT (show (i:Int) < s.size by omega),dT (show (0:Int)≤(i:Int) by omega)]
  rw [e]
  rfl
theorem loop_rsmall (s:ByteArray) (v i:Int) (h:pre_rsmall s v i):∃ r:Int×Int,LoopTo Tryz.prog (lb 162 p_rsmall) (sh_rsmall s v i) (hp_rsmall s v i) (.exit 0) (sh_rsmall s r.1 r.2) (hp_rsmall s r.1 r.2)∧post_rsmall s v i r:=by
 obtain ⟨h1,h2,rfl,rfl⟩:=h
 exact rsmall_go s h1 h2 s.size 0 (by omega)
def told_rsmall (κ:ByteArray→Int→Int→Bool) (φ:ByteArray→Int→Int→Int×Int) (T:List AV) (H:Hp):Option (Bool×Ex×List AV×Hp):=
 match lget T 0,lget T 3,lget T 4,H with
 | .val (.string s), .val (.int .i64 v), .val (.int .i64 i), []=>bif T.length==19 then some (κ s v i, .exit 0,sh_rsmall s ((φ s v i).1) ((φ s v i).2),hp_rsmall s ((φ s v i).1) ((φ s v i).2)) else none
 | _,_,_,_=>none
abbrev KT_rsmall:Type:=ByteArray→Int→Int→Bool
abbrev FT_rsmall:Type:=ByteArray→Int→Int→Int×Int
def LL_rsmall (κ:KT_rsmall) (φ:FT_rsmall) (L:LTab):LTab:=addLn 0 162 p_rsmall [0,3,4] (told_rsmall κ φ) L
def phi_rsmall (s:ByteArray) (v:Int) (i:Int):Int×Int:=Classical.epsilon fun ρ=>LoopTo Tryz.prog (lb 162 p_rsmall) (sh_rsmall s v i) (hp_rsmall s v i) (.exit 0) (sh_rsmall s (ρ.1) (ρ.2)) (hp_rsmall s (ρ.1) (ρ.2))∧post_rsmall s v i ρ
theorem phi_rsmall_spec (s:ByteArray) (v:Int) (i:Int) (h:pre_rsmall s v i):LoopTo Tryz.prog (lb 162 p_rsmall) (sh_rsmall s v i) (hp_rsmall s v i) (.exit 0) (sh_rsmall s ((phi_rsmall s v i).1) ((phi_rsmall s v i).2)) (hp_rsmall s ((phi_rsmall s v i).1) ((phi_rsmall s v i).2))∧post_rsmall s v i (phi_rsmall s v i):=Classical.epsilon_spec (loop_rsmall s v i h)
def cond_rsmall (s:ByteArray) (v:Int) (i:Int):Bool:= @decide (pre_rsmall s v i) (Classical.propDecidable _)
theorem cond_rsmall_eq (s:ByteArray) (v:Int) (i:Int) (h:pre_rsmall s v i):cond_rsmall s v i=true:= @decide_eq_true _ (Classical.propDecidable _) h
theorem told_rsmall_ok (T:List AV) (H:Hp) (e:Ex) (T1:List AV) (H1:Hp) (h:told_rsmall cond_rsmall phi_rsmall T H=some (true,e,T1,H1)):V.Ends Tryz.prog false 0 0 (.loop (lb 162 p_rsmall)) T H e T1 H1:=by
 unfold told_rsmall at h
 split at h
 ·rename_i s v i h0 h3 h4
  rw [Bool.cond_eq_ite] at h
  split at h
  ·rename_i hlen
   rw [beq_iff_eq] at hlen
   simp only [Option.some.injEq,Prod.mk.injEq,Bool.and_eq_true,decide_eq_true_eq] at h
   obtain ⟨k1,rfl,rfl,rfl⟩:=h
   have kc:= @of_decide_eq_true _ (Classical.propDecidable _) k1
   refine Ends.pre (phi_rsmall_spec s v i kc).1.ends (fun α B w D ys hr=>slots_rel hlen (fun p hp y hy=> ?_) hr)
   simp only [List.mem_cons,List.not_mem_nil,or_false] at hp
   rcases hp with rfl | rfl | rfl
   ·rw [h0] at hy;exact hy
   ·rw [h3] at hy;exact hy
   ·rw [h4] at hy;exact hy
  ·cases h
 ·cases h
theorem LL_rsmall_ok {L:LTab} (h:LOk Tryz.prog L):LOk Tryz.prog (LL_rsmall cond_rsmall phi_rsmall L):=h.add2n body_rsmall told_rsmall_ok
def ERs (κ:KT_rsmall) (φ:FT_rsmall):Env:= ⟨noC,Kall,LL_rsmall κ φ noL⟩
theorem rsmall_call (κ:KT_rsmall) (φ:FT_rsmall) (s:ByteArray):callA Tryz.prog (ERs κ φ) 10 10 162 [.val (.string s)]=
  (bif κ s (0:Int) (0:Int) then some (.val (.int .i64 ((φ s (0:Int) (0:Int)).fst))) else none):=by kernel_rfl
def tRSmall (S:Sg) (args:List AV):Option (Bool×AV):=match args with | [.val (.string s)]=>some (decide (s.size≤8)&&decide (S.vs s < 9223372036854775808), .val (.int .i64 (S.vs s))) | _=>none
theorem eRSmall0:Entry Tryz.prog 162 (tRSmall sg0):=by
 refine entry_of (E:=ERs cond_rsmall phi_rsmall) (u:=10) (d:=10) (meets_none _) (LL_rsmall_ok LOk.none).ok mixed (by kernel_rfl) (fun args r h=> ?_)
 unfold tRSmall at h
 split at h
 ·rename_i s
  simp only [Option.some.injEq,Prod.mk.injEq,Bool.and_eq_true,decide_eq_true_eq] at h
  obtain ⟨⟨h1,h2⟩,rfl⟩:=h
  have hp:pre_rsmall s 0 0:= ⟨h1,h2,rfl,rfl⟩
  have h3:=(phi_rsmall_spec _ _ _ hp).2
  have h3:(phi_rsmall s 0 0).1=(vS s:Nat):=h3
  rw [rsmall_call,cond_rsmall_eq _ _ _ hp,h3]
  rfl
 ·cases h
theorem rvalue_call (S:Sg) (b:Bool) (s:ByteArray):callA Tryz.prog ⟨addC 162 (tRSmall S) noC,Kall,noL⟩ 10 10 131 [.agg [.val (.bool b), .val (.string s)]]=
  (bif b then (bif decide (s.size≤(8:Nat))&&decide (S.vs s < (9223372036854775808:Nat)) then some (.val (.int .i64 (IntKind.i64.wrap ((0:Int) - (↑(S.vs s):Int))))) else none) else (bif decide (s.size≤(8:Nat))&&decide (S.vs s < (9223372036854775808:Nat)) then some (.val (.int .i64 ((↑(S.vs s):Int)))) else none)):=by kernel_rfl
def tRValue (S:Sg) (args:List AV):Option (Bool×AV):=match args with | [.agg [.val (.bool b), .val (.string s)]]=>some (decide (s.size≤8)&&decide (S.vs s < 9223372036854775808), .val (.int .i64 (S.val b s))) | _=>none
theorem eRValue:Entry Tryz.prog 131 (tRValue sg0):=by
 refine entry_of (E:= ⟨addC 162 (tRSmall sg0) noC,Kall,noL⟩) (u:=10) (d:=10) ((meets_none _).add eRSmall0) loops_none mixed (by kernel_rfl) (fun args r h=> ?_)
 unfold tRValue at h
 split at h
 ·rename_i b s
  simp only [Option.some.injEq,Prod.mk.injEq,Bool.and_eq_true,decide_eq_true_eq] at h
  obtain ⟨⟨h1,h2⟩,rfl⟩:=h
  rw [rvalue_call,dT h1,dT h2]
  have hv:sg0.val b s=if b=true then -(sg0.vs s:Int) else (sg0.vs s:Int):=rfl
  rw [hv]
  cases b with
  | true=>
   have e:IntKind.i64.wrap (0 - ((sg0.vs s:Nat):Int))= -((sg0.vs s:Nat):Int):=by rw [IntKind.wrap_i64];omega
   rw [e]
   rfl
  | false=>rfl
 ·cases h
abbrev p_rmag:List Bool:= [false,false,true,true,true,true]
def sh_rmag (n:Int) (i:Int) (zs:List Int):List AV:=slots 26 [(0, .val (.int .i64 n)),(3, .ptr 0 0),(4, .val (.int .i64 i))]
def hp_rmag (n:Int) (i:Int) (zs:List Int):Hp:= [.row (.ints .u8 zs) 158 .live]
theorem body_rmag:subC Tryz.prog 159 p_rmag=some (.loop (lb 159 p_rmag)):=by kernel_rfl
theorem code_rmag:subC Tryz.prog 159 (false :: p_rmag)=some (lb 159 p_rmag):=by kernel_rfl
theorem round_rmag (n:Int) (i:Int) (zs:List Int):roundA Tryz.prog EL0 159 [0,3,4] (lb 159 p_rmag) (false :: p_rmag) (sh_rmag n i zs) (hp_rmag n i zs)=
  (bif decide ((0:Int) < n) then (bif inR IntKind.i64 (i - (1:Int)) then (bif decide ((0:Int)≤i - (1:Int))&&decide (i - (1:Int) < (8:Int)) then (bif decide ((0:Nat)+(i - (1:Int)).toNat*(1:Nat) < zs.length) then some (.normal,slots 26 [(0,(.val (.int .i64 (n.fdiv (256:Int))))),(3,(.ptr 0 0)),(4,(.val (.int .i64 (i - (1:Int)))))], [(.row (.ints .u8 (zs.set ((0:Nat)+(i - (1:Int)).toNat*(1:Nat)) (IntKind.u8.wrap n))) 158 .live)]) else none) else none) else none) else some ((.exit 0),slots 26 [(0,(.val (.int .i64 n))),(3,(.ptr 0 0)),(4,(.val (.int .i64 i)))], [(.row (.ints .u8 zs) 158 .live)])):=by kernel_rfl
theorem step_rmag {n:Int} {i:Int} {zs:List Int} {e:Ex} {T:List AV} {H:Hp} (h:roundA Tryz.prog EL0 159 [0,3,4] (lb 159 p_rmag) (false :: p_rmag) (sh_rmag n i zs) (hp_rmag n i zs)=some (e,T,H)):V.Ends Tryz.prog false 0 0 (lb 159 p_rmag) (sh_rmag n i zs) (hp_rmag n i zs) e T H:=
 round_ends (meets_none _) loops_none mixed code_rmag h
def pre_rmag (n i:Int) (zs:List Int):Prop:=0≤n∧n≤9223372036854775807∧i=8∧zs= [0,0,0,0,0,0,0,0]
def post_rmag (n i:Int) (zs:List Int) (r:Int×Int×List Int):Prop:=∃ k:Nat,r.2.1=k∧k≤8∧r.2.2.length=8∧(r.2.2.drop k).map (fun z=>UInt8.ofNat z.toNat)=toB n.toNat
theorem rmag_go:∀ (k n:Nat) (zs:List Int) (l:List UInt8),zs.length=8→k≤8→n < 256 ^ k→(zs.drop k).map (fun z=>UInt8.ofNat z.toNat)=l→
  ∃ r:Int×Int×List Int,LoopTo Tryz.prog (lb 159 p_rmag) (sh_rmag n k zs) (hp_rmag n k zs) (.exit 0) (sh_rmag r.1 r.2.1 r.2.2) (hp_rmag r.1 r.2.1 r.2.2)∧∃ j:Nat,r.2.1=j∧j≤8∧r.2.2.length=8∧(r.2.2.drop j).map (fun z=>UInt8.ofNat z.toNat)=toB n ++ l:=by
 intro k
 induction k with
 | zero=>
  intro n zs l hl hk hn he
  have hn0:n=0:=by simpa using hn
  subst hn0
  refine ⟨((0:Nat),(0:Nat),zs), .last (step_rmag ?_) (by intro h;cases h),0,rfl,by omega,hl,by rw [toB_zero];exact he⟩
  rw [round_rmag,dF (show ¬ ((0:Int) < ((0:Nat):Int)) by omega)]
  rfl
 | succ k ih=>
  intro n zs l hl hk hn he
  by_cases h0:n=0
  ·subst h0
   refine ⟨((0:Nat),((k+1:Nat):Int),zs), .last (step_rmag ?_) (by intro h;cases h),k+1,rfl,by omega,hl,by rw [toB_zero];exact he⟩
   rw [round_rmag,dF (show ¬ ((0:Int) < ((0:Nat):Int)) by omega)]
   rfl
  ·have e1:((k+1:Nat):Int) - 1=(k:Int):=by omega
   have hr:=round_rmag n ((k+1:Nat):Int) zs
   obtain ⟨r,h1,j,h2,h3,h4,h5⟩:=ih (n / 256) (zs.set k ((n % 256:Nat):Int)) (UInt8.ofNat n :: l) (by rw [List.length_set];exact hl) (by omega) (by rw [Nat.div_lt_iff_lt_mul (by decide),← Nat.pow_succ];exact hn) (by
    rw [List.drop_eq_getElem_cons (by rw [List.length_set];omega),List.getElem_set_self,List.drop_set_of_lt (by omega),List.map_cons,he,Int.toNat_natCast]
    refine congrArg (· :: l) ?_
    apply UInt8.toNat_inj.1
    rw [UInt8.toNat_ofNat',UInt8.toNat_ofNat']
    omega)
   refine ⟨r, .more (step_rmag ?_) h1,j,h2,h3,h4,by rw [h5,toB_pos h0,List.append_assoc];rfl⟩
   rw [e1,Int.toNat_natCast,Nat.zero_add,Nat.mul_one,i64L k (by omega),dT (show (0:Int) < n by omega),dT (show (0:Int)≤(k:Int) by omega),dT (show (k:Int) < 8 by omega),dT (show k < zs.length by omega),show IntKind.u8.wrap (n:Int)=((n % 256:Nat):Int) from by rw [u8_wrap];rfl,show (n:Int).fdiv (256:Int)=((n / 256:Nat):Int) from fdivN n 256] at hr
   rw [hr]
   rfl
theorem loop_rmag (n i:Int) (zs:List Int) (h:pre_rmag n i zs):∃ r:Int×Int×List Int,LoopTo Tryz.prog (lb 159 p_rmag) (sh_rmag n i zs) (hp_rmag n i zs) (.exit 0) (sh_rmag r.1 r.2.1 r.2.2) (hp_rmag r.1 r.2.1 r.2.2)∧post_rmag n i zs r:=by
 obtain ⟨h1,h2,rfl,rfl⟩:=h
 obtain ⟨n,rfl⟩:=Int.eq_ofNat_of_zero_le h1
 obtain ⟨r,k1,j,k2,k3,k4,k5⟩:=rmag_go 8 n [0,0,0,0,0,0,0,0] [] rfl (by omega) (by have:(256:Nat) ^ 8=18446744073709551616:=rfl;omega) rfl
 exact ⟨r,k1,j,k2,k3,k4,by rw [k5,List.append_nil];rfl⟩
def told_rmag (κ:Int→Int→List Int→Bool) (φ:Int→Int→List Int→Int×Int×List Int) (T:List AV) (H:Hp):Option (Bool×Ex×List AV×Hp):=
 match lget T 0,lget T 3,lget T 4,H with
 | .val (.int .i64 n), .ptr 0 0, .val (.int .i64 i), [.row (.ints .u8 zs) 158 .live]=>bif T.length==26 then some (κ n i zs, .exit 0,sh_rmag ((φ n i zs).1) ((φ n i zs).2.1) ((φ n i zs).2.2),hp_rmag ((φ n i zs).1) ((φ n i zs).2.1) ((φ n i zs).2.2)) else none
 | _,_,_,_=>none
abbrev KT_rmag:Type:=Int→Int→List Int→Bool
abbrev FT_rmag:Type:=Int→Int→List Int→Int×Int×List Int
def LL_rmag (κ:KT_rmag) (φ:FT_rmag) (L:LTab):LTab:=addLn 0 159 p_rmag [0,3,4] (told_rmag κ φ) L
def phi_rmag (n:Int) (i:Int) (zs:List Int):Int×Int×List Int:=Classical.epsilon fun ρ=>LoopTo Tryz.prog (lb 159 p_rmag) (sh_rmag n i zs) (hp_rmag n i zs) (.exit 0) (sh_rmag (ρ.1) (ρ.2.1) (ρ.2.2)) (hp_rmag (ρ.1) (ρ.2.1) (ρ.2.2))∧post_rmag n i zs ρ
theorem phi_rmag_spec (n:Int) (i:Int) (zs:List Int) (h:pre_rmag n i zs):LoopTo Tryz.prog (lb 159 p_rmag) (sh_rmag n i zs) (hp_rmag n i zs) (.exit 0) (sh_rmag ((phi_rmag n i zs).1) ((phi_rmag n i zs).2.1) ((phi_rmag n i zs).2.2)) (hp_rmag ((phi_rmag n i zs).1) ((phi_rmag n i zs).2.1) ((phi_rmag n i zs).2.2))∧post_rmag n i zs (phi_rmag n i zs):=Classical.epsilon_spec (loop_rmag n i zs h)
def cond_rmag (n:Int) (i:Int) (zs:List Int):Bool:= @decide (pre_rmag n i zs) (Classical.propDecidable _)
theorem cond_rmag_eq (n:Int) (i:Int) (zs:List Int) (h:pre_rmag n i zs):cond_rmag n i zs=true:= @decide_eq_true _ (Classical.propDecidable _) h
theorem told_rmag_ok (T:List AV) (H:Hp) (e:Ex) (T1:List AV) (H1:Hp) (h:told_rmag cond_rmag phi_rmag T H=some (true,e,T1,H1)):V.Ends Tryz.prog false 0 0 (.loop (lb 159 p_rmag)) T H e T1 H1:=by
 unfold told_rmag at h
 split at h
 ·rename_i n i zs h0 h3 h4
  rw [Bool.cond_eq_ite] at h
  split at h
  ·rename_i hlen
   rw [beq_iff_eq] at hlen
   simp only [Option.some.injEq,Prod.mk.injEq,Bool.and_eq_true,decide_eq_true_eq] at h
   obtain ⟨k1,rfl,rfl,rfl⟩:=h
   have kc:= @of_decide_eq_true _ (Classical.propDecidable _) k1
   refine Ends.pre (phi_rmag_spec n i zs kc).1.ends (fun α B w D ys hr=>slots_rel hlen (fun p hp y hy=> ?_) hr)
   simp only [List.mem_cons,List.not_mem_nil,or_false] at hp
   rcases hp with rfl | rfl | rfl
   ·rw [h0] at hy;exact hy
   ·rw [h3] at hy;exact hy
   ·rw [h4] at hy;exact hy
  ·cases h
 ·cases h
theorem LL_rmag_ok {L:LTab} (h:LOk Tryz.prog L):LOk Tryz.prog (LL_rmag cond_rmag phi_rmag L):=h.add2n body_rmag told_rmag_ok
def ERm (κ:KT_rmag) (φ:FT_rmag):Env:= ⟨noC,Kall,LL_rmag κ φ noL⟩
theorem rmag_call (κ:KT_rmag) (φ:FT_rmag) (z:Int):letI q_1:=(φ z (8:Int) [(0:Int),(0:Int),(0:Int),(0:Int),(0:Int),(0:Int),(0:Int),(0:Int)]);
  (callA Tryz.prog (ERm κ φ) 10 10 159 [.val (.int .i64 z)]=(bif decide (z < (256:Int)) then (bif decide (z=(0:Int)) then some (.val (.string (ByteArray.mk #[]))) else some (.val (.string (ofBytes [IntKind.u8.wrap z])))) else (bif κ z (8:Int) [(0:Int),(0:Int),(0:Int),(0:Int),(0:Int),(0:Int),(0:Int),(0:Int)] then (bif decide ((8:Nat)≤q_1.snd.snd.length) then (bif decide ((0:Int)≤q_1.snd.fst)&&decide (q_1.snd.fst≤(8:Int)) then (bif decide ((0:Nat)+q_1.snd.fst.toNat*(1:Nat)+((8:Nat) - q_1.snd.fst.toNat)*(1:Nat)≤q_1.snd.snd.length) then some (.val (.string (ofBytes (List.take (((8:Nat) - q_1.snd.fst.toNat)*(1:Nat)) (List.drop ((0:Nat)+q_1.snd.fst.toNat*(1:Nat)) q_1.snd.snd))))) else none) else none) else none) else none))):=by kernel_rfl
theorem rneg_call (S:Sg) (b:Bool) (s:ByteArray):callA Tryz.prog ⟨addC 130 (tCanon S) noC,Kall,noL⟩ 10 10 127 [.agg [.val (.bool b), .val (.string s)]]=
  (bif !S.ng (S.val b s) then some (.agg [(.val (.bool (!strEq (S.ms (S.val b s)) (ByteArray.mk #[])))),(.val (.string (S.ms (S.val b s))))]) else some (.agg [(.val (.bool false)),(.val (.string (S.ms (S.val b s))))])):=by kernel_rfl
theorem rcmpmag_call (s t:ByteArray):callA Tryz.prog E000 10 10 133 [.val (.string s), .val (.string t)]=
  (bif !decide ((↑s.size:Int)=(↑t.size:Int)) then (bif decide ((↑s.size:Int) < (↑t.size:Int)) then some (.val (.int .i64 (-1))) else some (.val (.int .i64 1))) else (bif V.strLt s t then some (.val (.int .i64 (-1))) else (bif !(V.strLt s t ||strEq s t) then some (.val (.int .i64 1)) else some (.val (.int .i64 0))))):=by kernel_rfl
end
end Go.Proofs.YtamcpiicmfielaaGreat.L
namespace Go.Proofs.YtamcpiicmfielaaGreat.L
open Go Go.V Go.RowKit Go.Proofs.YtamcpiicmfielaaGreat.Sp Go.Proofs.YtamcpiicmfielaaGreat.F
open Go.Proofs (Tryz.prog)
noncomputable section
abbrev p_dig:List Bool:= [false,true,false,true,true]
def sh_dig (s:ByteArray) (v:Int) (n:Int) (i:Int):List AV:=slots 19 [(0, .val (.string s)),(3, .val (.int .i64 v)),(6, .val (.int .i64 n)),(7, .val (.int .i64 i))]
def hp_dig (s:ByteArray) (v:Int) (n:Int) (i:Int):Hp:= []
theorem body_dig:subC Tryz.prog 138 p_dig=some (.loop (lb 138 p_dig)):=by kernel_rfl
theorem code_dig:subC Tryz.prog 138 (false :: p_dig)=some (lb 138 p_dig):=by kernel_rfl
theorem round_dig (s:ByteArray) (v:Int) (n:Int) (i:Int):roundA Tryz.prog EL0 138 [0,3,6,7] (lb 138 p_dig) (false :: p_dig) (sh_dig s v n i) (hp_dig s v n i)=
  (bif decide (i < n) then (bif inR IntKind.i64 (v*(256:Int)) then (bif decide ((0:Int)≤i)&&decide (i < (↑s.size:Int)) then (bif inR IntKind.i64 (byteAt s i.toNat) then (bif inR IntKind.i64 (i+(1:Int)) then some (.normal,slots 19 [(0,(.val (.string s))),(3,(.val (.int .i64 (bitI BinOp.or IntKind.i64 (v*(256:Int)) (byteAt s i.toNat))))),(6,(.val (.int .i64 n))),(7,(.val (.int .i64 (i+(1:Int)))))], []) else none) else none) else none) else none) else some ((.exit 0),slots 19 [(0,(.val (.string s))),(3,(.val (.int .i64 v))),(6,(.val (.int .i64 n))),(7,(.val (.int .i64 i)))], [])):=by kernel_rfl
theorem step_dig {s:ByteArray} {v:Int} {n:Int} {i:Int} {e:Ex} {T:List AV} {H:Hp} (h:roundA Tryz.prog EL0 138 [0,3,6,7] (lb 138 p_dig) (false :: p_dig) (sh_dig s v n i) (hp_dig s v n i)=some (e,T,H)):V.Ends Tryz.prog false 0 0 (lb 138 p_dig) (sh_dig s v n i) (hp_dig s v n i) e T H:=
 round_ends (meets_none _) loops_none mixed code_dig h
def pre_dig (s:ByteArray) (v n i:Int):Prop:=s.size≤3∧n=s.size∧v=0∧i=0
def post_dig (s:ByteArray) (v n i:Int) (r:Int×Int):Prop:=r.1=(vS s:Nat)
theorem dig_go (s:ByteArray) (hs:s.size≤3) (d:Nat):∀ i:Nat,i+d=s.size→∃ r:Int×Int,LoopTo Tryz.prog (lb 138 p_dig) (sh_dig s (vB (s.data.toList.take i):Nat) s.size i) (hp_dig s (vB (s.data.toList.take i):Nat) s.size i) (.exit 0) (sh_dig s r.1 s.size r.2) (hp_dig s r.1 s.size r.2)∧r.1=(vS s:Nat):=by
 induction d with
 | zero=>
  intro i hi
  have hi':i=s.size:=by omega
  subst hi'
  have e:s.data.toList.take s.size=s.data.toList:=List.take_of_length_le (by rw [Array.length_toList];exact Nat.le_refl _)
  refine ⟨((vB (s.data.toList.take s.size):Nat),(s.size:Int)), .last (step_dig ?_) (by intro h;cases h),by rw [e];rfl⟩
  rw [round_dig,dF (show ¬ ((s.size:Int) < s.size) by omega)]
  rfl
 | succ d ih=>
  intro i hi
  obtain ⟨r,h1,h2⟩:=ih (i+1) (by omega)
  refine ⟨r, .more (step_dig ?_) h1,h2⟩
  rw [round_dig]
  have hb:=byteAt_lt s i
  have hsucc:=vB_take_succ s i (by omega)
  have hle:=vB_take_le s.data.toList (i+1)
  have hle:vB (s.data.toList.take (i+1))≤vS s:=hle
  have hv:=vS_small (s:=s) (by omega)
  obtain ⟨c,hc⟩:∃ c:Nat,byteAt s i=c:= ⟨(byteAt s i).toNat,by omega⟩
  rw [hc] at hb hsucc
  have e:vB (s.data.toList.take (i+1))=vB (s.data.toList.take i)*256+c:=by omega
  rw [Int.toNat_natCast,hc,or_i64b _ _ (by omega) (by omega),i64T (show -9223372036854775808≤((vB (s.data.toList.take i):Nat):Int)*256∧((vB (s.data.toList.take i):Nat):Int)*256≤9223372036854775807 by omega),i64T (show -9223372036854775808≤(c:Int)∧(c:Int)≤9223372036854775807 by omega),i64T (show -9223372036854775808≤(i:Int)+1∧(i:Int)+1≤9223372036854775807 by omega),dT (show (i:Int) < s.size by omega),dT (show (0:Int)≤(i:Int) by omega)]
  rw [e]
  rfl
theorem loop_dig (s:ByteArray) (v n i:Int) (h:pre_dig s v n i):∃ r:Int×Int,LoopTo Tryz.prog (lb 138 p_dig) (sh_dig s v n i) (hp_dig s v n i) (.exit 0) (sh_dig s r.1 n r.2) (hp_dig s r.1 n r.2)∧post_dig s v n i r:=by
 obtain ⟨h1,rfl,rfl,rfl⟩:=h
 exact dig_go s h1 s.size 0 (by omega)
def told_dig (κ:ByteArray→Int→Int→Int→Bool) (φ:ByteArray→Int→Int→Int→Int×Int) (T:List AV) (H:Hp):Option (Bool×Ex×List AV×Hp):=
 match lget T 0,lget T 3,lget T 6,lget T 7,H with
 | .val (.string s), .val (.int .i64 v), .val (.int .i64 n), .val (.int .i64 i), []=>bif T.length==19 then some (κ s v n i, .exit 0,sh_dig s ((φ s v n i).1) n ((φ s v n i).2),hp_dig s ((φ s v n i).1) n ((φ s v n i).2)) else none
 | _,_,_,_,_=>none
abbrev KT_dig:Type:=ByteArray→Int→Int→Int→Bool
abbrev FT_dig:Type:=ByteArray→Int→Int→Int→Int×Int
def LL_dig (κ:KT_dig) (φ:FT_dig) (L:LTab):LTab:=addLn 0 138 p_dig [0,3,6,7] (told_dig κ φ) L
def phi_dig (s:ByteArray) (v:Int) (n:Int) (i:Int):Int×Int:=Classical.epsilon fun ρ=>LoopTo Tryz.prog (lb 138 p_dig) (sh_dig s v n i) (hp_dig s v n i) (.exit 0) (sh_dig s (ρ.1) n (ρ.2)) (hp_dig s (ρ.1) n (ρ.2))∧post_dig s v n i ρ
theorem phi_dig_spec (s:ByteArray) (v:Int) (n:Int) (i:Int) (h:pre_dig s v n i):LoopTo Tryz.prog (lb 138 p_dig) (sh_dig s v n i) (hp_dig s v n i) (.exit 0) (sh_dig s ((phi_dig s v n i).1) n ((phi_dig s v n i).2)) (hp_dig s ((phi_dig s v n i).1) n ((phi_dig s v n i).2))∧post_dig s v n i (phi_dig s v n i):=Classical.epsilon_spec (loop_dig s v n i h)
def cond_dig (s:ByteArray) (v:Int) (n:Int) (i:Int):Bool:= @decide (pre_dig s v n i) (Classical.propDecidable _)
theorem cond_dig_eq (s:ByteArray) (v:Int) (n:Int) (i:Int) (h:pre_dig s v n i):cond_dig s v n i=true:= @decide_eq_true _ (Classical.propDecidable _) h
theorem told_dig_ok (T:List AV) (H:Hp) (e:Ex) (T1:List AV) (H1:Hp) (h:told_dig cond_dig phi_dig T H=some (true,e,T1,H1)):V.Ends Tryz.prog false 0 0 (.loop (lb 138 p_dig)) T H e T1 H1:=by
 unfold told_dig at h
 split at h
 ·rename_i s v n i h0 h3 h6 h7
  rw [Bool.cond_eq_ite] at h
  split at h
  ·rename_i hlen
   rw [beq_iff_eq] at hlen
   simp only [Option.some.injEq,Prod.mk.injEq,Bool.and_eq_true,decide_eq_true_eq] at h
   obtain ⟨k1,rfl,rfl,rfl⟩:=h
   have kc:= @of_decide_eq_true _ (Classical.propDecidable _) k1
   refine Ends.pre (phi_dig_spec s v n i kc).1.ends (fun α B w D ys hr=>slots_rel hlen (fun p hp y hy=> ?_) hr)
   simp only [List.mem_cons,List.not_mem_nil,or_false] at hp
   rcases hp with rfl | rfl | rfl | rfl
   ·rw [h0] at hy;exact hy
   ·rw [h3] at hy;exact hy
   ·rw [h6] at hy;exact hy
   ·rw [h7] at hy;exact hy
  ·cases h
 ·cases h
theorem LL_dig_ok {L:LTab} (h:LOk Tryz.prog L):LOk Tryz.prog (LL_dig cond_dig phi_dig L):=h.add2n body_dig told_dig_ok
theorem dig_call (κ:KT_dig) (φ:FT_dig) (s:ByteArray):callA Tryz.prog ⟨noC,Kall,LL_dig κ φ noL⟩ 10 10 138 [.val (.string s)]=
  (bif κ s (0:Int) (↑s.size:Int) (0:Int) then some (.val (.int .i64 ((φ s (0:Int) (↑s.size:Int) (0:Int)).fst))) else none):=by kernel_rfl
theorem eDigits:Entry Tryz.prog 138 (tDigits sg0):=by
 refine entry_of (E:= ⟨noC,Kall,LL_dig cond_dig phi_dig noL⟩) (u:=10) (d:=10) (meets_none _) (LL_dig_ok LOk.none).ok mixed (by kernel_rfl) (fun args r h=> ?_)
 unfold tDigits at h
 split at h
 ·rename_i s
  simp only [Option.some.injEq,Prod.mk.injEq,decide_eq_true_eq] at h
  obtain ⟨h1,rfl⟩:=h
  have hp:pre_dig s 0 s.size 0:= ⟨h1,rfl,rfl,rfl⟩
  have h3:=(phi_dig_spec _ _ _ _ hp).2
  have h3:(phi_dig s 0 s.size 0).1=(vS s:Nat):=h3
  rw [dig_call,cond_dig_eq _ _ _ _ hp,h3]
  rfl
 ·cases h
abbrev p_txt:List Bool:= [false,false,true,true,true]
def sh_txt (n:Int) (i:Int) (zs:List Int):List AV:=slots 18 [(0, .val (.int .i64 n)),(3, .ptr 0 0),(4, .val (.int .i64 i))]
def hp_txt (n:Int) (i:Int) (zs:List Int):Hp:= [.row (.ints .u8 zs) 158 .live]
theorem body_txt:subC Tryz.prog 116 p_txt=some (.loop (lb 116 p_txt)):=by kernel_rfl
theorem code_txt:subC Tryz.prog 116 (false :: p_txt)=some (lb 116 p_txt):=by kernel_rfl
theorem round_txt (n:Int) (i:Int) (zs:List Int):roundA Tryz.prog EL0 116 [0,3,4] (lb 116 p_txt) (false :: p_txt) (sh_txt n i zs) (hp_txt n i zs)=
  (bif decide ((0:Int) < n) then (bif inR IntKind.i64 (i - (1:Int)) then (bif decide ((0:Int)≤i - (1:Int))&&decide (i - (1:Int) < (8:Int)) then (bif decide ((0:Nat)+(i - (1:Int)).toNat*(1:Nat) < zs.length) then some (.normal,slots 18 [(0,(.val (.int .i64 (n.fdiv (256:Int))))),(3,(.ptr 0 0)),(4,(.val (.int .i64 (i - (1:Int)))))], [(.row (.ints .u8 (zs.set ((0:Nat)+(i - (1:Int)).toNat*(1:Nat)) (IntKind.u8.wrap n))) 158 .live)]) else none) else none) else none) else some ((.exit 0),slots 18 [(0,(.val (.int .i64 n))),(3,(.ptr 0 0)),(4,(.val (.int .i64 i)))], [(.row (.ints .u8 zs) 158 .live)])):=by kernel_rfl
theorem step_txt {n:Int} {i:Int} {zs:List Int} {e:Ex} {T:List AV} {H:Hp} (h:roundA Tryz.prog EL0 116 [0,3,4] (lb 116 p_txt) (false :: p_txt) (sh_txt n i zs) (hp_txt n i zs)=some (e,T,H)):V.Ends Tryz.prog false 0 0 (lb 116 p_txt) (sh_txt n i zs) (hp_txt n i zs) e T H:=
 round_ends (meets_none _) loops_none mixed code_txt h
def pre_txt (n i:Int) (zs:List Int):Prop:=0≤n∧n≤9223372036854775807∧i=8∧zs= [0,0,0,0,0,0,0,0]
def post_txt (n i:Int) (zs:List Int) (r:Int×Int×List Int):Prop:=∃ k:Nat,r.2.1=k∧k≤8∧r.2.2.length=8∧(r.2.2.drop k).map (fun z=>UInt8.ofNat z.toNat)=toB n.toNat
theorem txt_go:∀ (k n:Nat) (zs:List Int) (l:List UInt8),zs.length=8→k≤8→n < 256 ^ k→(zs.drop k).map (fun z=>UInt8.ofNat z.toNat)=l→
  ∃ r:Int×Int×List Int,LoopTo Tryz.prog (lb 116 p_txt) (sh_txt n k zs) (hp_txt n k zs) (.exit 0) (sh_txt r.1 r.2.1 r.2.2) (hp_txt r.1 r.2.1 r.2.2)∧∃ j:Nat,r.2.1=j∧j≤8∧r.2.2.length=8∧(r.2.2.drop j).map (fun z=>UInt8.ofNat z.toNat)=toB n ++ l:=by
 intro k
 induction k with
 | zero=>
  intro n zs l hl hk hn he
  have hn0:n=0:=by simpa using hn
  subst hn0
  refine ⟨((0:Nat),(0:Nat),zs), .last (step_txt ?_) (by intro h;cases h),0,rfl,by omega,hl,by rw [toB_zero];exact he⟩
  rw [round_txt,dF (show ¬ ((0:Int) < ((0:Nat):Int)) by omega)]
  rfl
 | succ k ih=>
  intro n zs l hl hk hn he
  by_cases h0:n=0
  ·subst h0
   refine ⟨((0:Nat),((k+1:Nat):Int),zs), .last (step_txt ?_) (by intro h;cases h),k+1,rfl,by omega,hl,by rw [toB_zero];exact he⟩
   rw [round_txt,dF (show ¬ ((0:Int) < ((0:Nat):Int)) by omega)]
   rfl
  ·have e1:((k+1:Nat):Int) - 1=(k:Int):=by omega
   have hr:=round_txt n ((k+1:Nat):Int) zs
   obtain ⟨r,h1,j,h2,h3,h4,h5⟩:=ih (n / 256) (zs.set k ((n % 256:Nat):Int)) (UInt8.ofNat n :: l) (by rw [List.length_set];exact hl) (by omega) (by rw [Nat.div_lt_iff_lt_mul (by decide),← Nat.pow_succ];exact hn) (by
    rw [List.drop_eq_getElem_cons (by rw [List.length_set];omega),List.getElem_set_self,List.drop_set_of_lt (by omega),List.map_cons,he,Int.toNat_natCast]
    refine congrArg (· :: l) ?_
    apply UInt8.toNat_inj.1
    rw [UInt8.toNat_ofNat',UInt8.toNat_ofNat']
    omega)
   refine ⟨r, .more (step_txt ?_) h1,j,h2,h3,h4,by rw [h5,toB_pos h0,List.append_assoc];rfl⟩
   rw [e1,Int.toNat_natCast,Nat.zero_add,Nat.mul_one,i64L k (by omega),dT (show (0:Int) < n by omega),dT (show (0:Int)≤(k:Int) by omega),dT (show (k:Int) < 8 by omega),dT (show k < zs.length by omega),show IntKind.u8.wrap (n:Int)=((n % 256:Nat):Int) from by rw [u8_wrap];rfl,show (n:Int).fdiv (256:Int)=((n / 256:Nat):Int) from fdivN n 256] at hr
   rw [hr]
   rfl
theorem loop_txt (n i:Int) (zs:List Int) (h:pre_txt n i zs):∃ r:Int×Int×List Int,LoopTo Tryz.prog (lb 116 p_txt) (sh_txt n i zs) (hp_txt n i zs) (.exit 0) (sh_txt r.1 r.2.1 r.2.2) (hp_txt r.1 r.2.1 r.2.2)∧post_txt n i zs r:=by
 obtain ⟨h1,h2,rfl,rfl⟩:=h
 obtain ⟨n,rfl⟩:=Int.eq_ofNat_of_zero_le h1
 obtain ⟨r,k1,j,k2,k3,k4,k5⟩:=txt_go 8 n [0,0,0,0,0,0,0,0] [] rfl (by omega) (by have:(256:Nat) ^ 8=18446744073709551616:=rfl;omega) rfl
 exact ⟨r,k1,j,k2,k3,k4,by rw [k5,List.append_nil];rfl⟩
def told_txt (κ:Int→Int→List Int→Bool) (φ:Int→Int→List Int→Int×Int×List Int) (T:List AV) (H:Hp):Option (Bool×Ex×List AV×Hp):=
 match lget T 0,lget T 3,lget T 4,H with
 | .val (.int .i64 n), .ptr 0 0, .val (.int .i64 i), [.row (.ints .u8 zs) 158 .live]=>bif T.length==18 then some (κ n i zs, .exit 0,sh_txt ((φ n i zs).1) ((φ n i zs).2.1) ((φ n i zs).2.2),hp_txt ((φ n i zs).1) ((φ n i zs).2.1) ((φ n i zs).2.2)) else none
 | _,_,_,_=>none
abbrev KT_txt:Type:=Int→Int→List Int→Bool
abbrev FT_txt:Type:=Int→Int→List Int→Int×Int×List Int
def LL_txt (κ:KT_txt) (φ:FT_txt) (L:LTab):LTab:=addLn 0 116 p_txt [0,3,4] (told_txt κ φ) L
def phi_txt (n:Int) (i:Int) (zs:List Int):Int×Int×List Int:=Classical.epsilon fun ρ=>LoopTo Tryz.prog (lb 116 p_txt) (sh_txt n i zs) (hp_txt n i zs) (.exit 0) (sh_txt (ρ.1) (ρ.2.1) (ρ.2.2)) (hp_txt (ρ.1) (ρ.2.1) (ρ.2.2))∧post_txt n i zs ρ
theorem phi_txt_spec (n:Int) (i:Int) (zs:List Int) (h:pre_txt n i zs):LoopTo Tryz.prog (lb 116 p_txt) (sh_txt n i zs) (hp_txt n i zs) (.exit 0) (sh_txt ((phi_txt n i zs).1) ((phi_txt n i zs).2.1) ((phi_txt n i zs).2.2)) (hp_txt ((phi_txt n i zs).1) ((phi_txt n i zs).2.1) ((phi_txt n i zs).2.2))∧post_txt n i zs (phi_txt n i zs):=Classical.epsilon_spec (loop_txt n i zs h)
def cond_txt (n:Int) (i:Int) (zs:List Int):Bool:= @decide (pre_txt n i zs) (Classical.propDecidable _)
theorem cond_txt_eq (n:Int) (i:Int) (zs:List Int) (h:pre_txt n i zs):cond_txt n i zs=true:= @decide_eq_true _ (Classical.propDecidable _) h
theorem told_txt_ok (T:List AV) (H:Hp) (e:Ex) (T1:List AV) (H1:Hp) (h:told_txt cond_txt phi_txt T H=some (true,e,T1,H1)):V.Ends Tryz.prog false 0 0 (.loop (lb 116 p_txt)) T H e T1 H1:=by
 unfold told_txt at h
 split at h
 ·rename_i n i zs h0 h3 h4
  rw [Bool.cond_eq_ite] at h
  split at h
  ·rename_i hlen
   rw [beq_iff_eq] at hlen
   simp only [Option.some.injEq,Prod.mk.injEq,Bool.and_eq_true,decide_eq_true_eq] at h
   obtain ⟨k1,rfl,rfl,rfl⟩:=h
   have kc:= @of_decide_eq_true _ (Classical.propDecidable _) k1
   refine Ends.pre (phi_txt_spec n i zs kc).1.ends (fun α B w D ys hr=>slots_rel hlen (fun p hp y hy=> ?_) hr)
   simp only [List.mem_cons,List.not_mem_nil,or_false] at hp
   rcases hp with rfl | rfl | rfl
   ·rw [h0] at hy;exact hy
   ·rw [h3] at hy;exact hy
   ·rw [h4] at hy;exact hy
  ·cases h
 ·cases h
theorem LL_txt_ok {L:LTab} (h:LOk Tryz.prog L):LOk Tryz.prog (LL_txt cond_txt phi_txt L):=h.add2n body_txt told_txt_ok
theorem txt_call (κ:KT_txt) (φ:FT_txt) (z:Int):letI q_1:=(φ z (8:Int) [(0:Int),(0:Int),(0:Int),(0:Int),(0:Int),(0:Int),(0:Int),(0:Int)]);
  (callA Tryz.prog ⟨noC,Kall,LL_txt κ φ noL⟩ 10 10 116 [.val (.int .i64 z)]=(bif κ z (8:Int) [(0:Int),(0:Int),(0:Int),(0:Int),(0:Int),(0:Int),(0:Int),(0:Int)] then (bif decide ((8:Nat)≤q_1.snd.snd.length) then (bif decide ((0:Int)≤q_1.snd.fst)&&decide (q_1.snd.fst≤(8:Int)) then (bif decide ((0:Nat)+q_1.snd.fst.toNat*(1:Nat)+((8:Nat) - q_1.snd.fst.toNat)*(1:Nat)≤q_1.snd.snd.length) then some (.val (.string (ofBytes (List.take (((8:Nat) - q_1.snd.fst.toNat)*(1:Nat)) (List.drop ((0:Nat)+q_1.snd.fst.toNat*(1:Nat)) q_1.snd.snd))))) else none) else none) else none) else none)):=by kernel_rfl
theorem ofBytes_toB {zs:List Int} {n:Nat} (h:zs.map (fun z=>UInt8.ofNat z.toNat)=toB n):ofBytes zs=magOf n:=by
 apply bytes_ext
 rw [magOf_data]
 exact h
theorem eText:Entry Tryz.prog 116 (tText sg0):=by
 refine entry_of (E:= ⟨noC,Kall,LL_txt cond_txt phi_txt noL⟩) (u:=10) (d:=10) (meets_none _) (LL_txt_ok LOk.none).ok mixed (by kernel_rfl) (fun args r h=> ?_)
 unfold tText at h
 split at h
 ·rename_i z
  simp only [Option.some.injEq,Prod.mk.injEq,Bool.and_eq_true,decide_eq_true_eq] at h
  obtain ⟨⟨h1,h2⟩,rfl⟩:=h
  obtain ⟨n,rfl⟩:=Int.eq_ofNat_of_zero_le h1
  rw [Int.toNat_natCast]
  have hcall:=txt_call cond_txt phi_txt (n:Int)
  have hp:pre_txt (n:Int) 8 [0,0,0,0,0,0,0,0]:= ⟨h1,h2,rfl,rfl⟩
  obtain ⟨_,k,e1,e2,e3,e4⟩:=phi_txt_spec _ _ _ hp
  rw [cond_txt_eq _ _ _ hp] at hcall
  generalize phi_txt (n:Int) 8 [0,0,0,0,0,0,0,0]=r at*
  rw [e1,e3,dT (show 8≤8 by omega),dT (show (0:Int)≤(k:Int) by omega),dT (show (k:Int)≤8 by omega),Int.toNat_natCast,dT (show 0+k*1+(8 - k)*1≤8 by omega)] at hcall
  rw [hcall]
  show some (AV.val (.string (ofBytes _)))=some (AV.val (.string (magOf n)))
  rw [ofBytes_toB (n:=n)]
  rw [Nat.zero_add,Nat.mul_one,Nat.mul_one,List.take_of_length_le (by rw [List.length_drop];omega)]
  exact e4
 ·cases h
theorem eMachine:Entry Tryz.prog 105 (tMachine sq0):=by
 refine entry_of (E:= ⟨CMa sg0,Kall,noL⟩) (u:=10) (d:=10) ((meets_none _).add eDigits) loops_none mixed (by kernel_rfl) (fun args r h=> ?_)
 unfold tMachine at h
 split at h
 ·rename_i b n d
  simp only [Option.some.injEq,Prod.mk.injEq,true_and] at h
  subst h
  rw [machine_tree]
  have hz:∀ x y:ByteArray,sq0.ms x y=smn x y:=fun x y=>rfl
  have hn:sq0.mn b n d=bif smn n d then sg0.val b n else 0:=rfl
  have hd:sq0.md n d=bif smn n d then dn d else 0:=rfl
  rw [hz,hn,hd]
  unfold smn
  by_cases h1:n.size≤3
  ·by_cases h2:d.size≤3
   ·rw [dF (show ¬ (3:Int) < n.size by omega),dF (show ¬ (3:Int) < d.size by omega),dT h1,dT h2]
    have b1:=vS_small (s:=n) (by omega)
    have b1:sg0.vs n < _:=b1
    have e1:mxI ((sg0.vs d:Nat):Int) 1=dn d:=by
     rw [show (1:Int)=((1:Nat):Int) from rfl,mxI_nat]
     unfold dn
     have:sg0.vs d=vS d:=rfl
     split <;> omega
    rw [e1]
    have hv:∀ b,sg0.val b n=if b=true then -(sg0.vs n:Int) else (sg0.vs n:Int):=fun b=>rfl
    cases b
    ·rw [hv];rfl
    ·rw [hv,show IntKind.i64.wrap (0 - ((sg0.vs n:Nat):Int))= -((sg0.vs n:Nat):Int) by rw [IntKind.wrap_i64];omega];rfl
   ·rw [dF (show ¬ (3:Int) < n.size by omega),dT (show (3:Int) < d.size by omega),dF h2,Bool.and_false];rfl
  ·rw [dT (show (3:Int) < n.size by omega),dF h1];rfl
 ·cases h
abbrev p_rat:List Bool:= [false,false,true,true]
def sh_rat (n:Int) (d:Int) (a:Int) (c:Int) (rb:Bool) (rn:ByteArray) (rd:ByteArray):List AV:=slots 43 [(0, .val (.int .i64 n)),(1, .val (.int .i64 d)),(4, .ptr 0 0),(5, .val (.int .i64 a)),(6, .val (.int .i64 c))]
def hp_rat (n:Int) (d:Int) (a:Int) (c:Int) (rb:Bool) (rn:ByteArray) (rd:ByteArray):Hp:= [.row (.cells [.val (.bool rb), .val (.string rn), .val (.string rd)]) 27 .live]
theorem body_rat:subC Tryz.prog 73 p_rat=some (.loop (lb 73 p_rat)):=by kernel_rfl
theorem code_rat:subC Tryz.prog 73 (false :: p_rat)=some (lb 73 p_rat):=by kernel_rfl
theorem round_rat (n:Int) (d:Int) (a:Int) (c:Int) (rb:Bool) (rn:ByteArray) (rd:ByteArray):roundA Tryz.prog EL0 73 [0,1,4,5,6] (lb 73 p_rat) (false :: p_rat) (sh_rat n d a c rb rn rd) (hp_rat n d a c rb rn rd)=
  (bif !decide (c=(0:Int)) then (bif decide (c=(0:Int)) then none else some (.normal,slots 43 [(0,(.val (.int .i64 n))),(1,(.val (.int .i64 d))),(4,(.ptr 0 0)),(5,(.val (.int .i64 c))),(6,(.val (.int .i64 (a.tmod c))))], [(.row (.cells [(.val (.bool rb)),(.val (.string rn)),(.val (.string rd))]) 27 .live)])) else some ((.exit 0),slots 43 [(0,(.val (.int .i64 n))),(1,(.val (.int .i64 d))),(4,(.ptr 0 0)),(5,(.val (.int .i64 a))),(6,(.val (.int .i64 c)))], [(.row (.cells [(.val (.bool rb)),(.val (.string rn)),(.val (.string rd))]) 27 .live)])):=by kernel_rfl
theorem step_rat {n:Int} {d:Int} {a:Int} {c:Int} {rb:Bool} {rn:ByteArray} {rd:ByteArray} {e:Ex} {T:List AV} {H:Hp} (h:roundA Tryz.prog EL0 73 [0,1,4,5,6] (lb 73 p_rat) (false :: p_rat) (sh_rat n d a c rb rn rd) (hp_rat n d a c rb rn rd)=some (e,T,H)):V.Ends Tryz.prog false 0 0 (lb 73 p_rat) (sh_rat n d a c rb rn rd) (hp_rat n d a c rb rn rd) e T H:=
 round_ends (meets_none _) loops_none mixed code_rat h
def pre_rat (n d a c:Int) (rb:Bool) (rn rd:ByteArray):Prop:=True
def post_rat (n d a c:Int) (rb:Bool) (rn rd:ByteArray) (r:Int×Int):Prop:=r.1.natAbs=Nat.gcd a.natAbs c.natAbs∧(r.1.natAbs≤a.natAbs∨r.1.natAbs≤c.natAbs)
theorem rat_go (n d:Int) (rb:Bool) (rn rd:ByteArray) (k:Nat):∀ a c:Int,c.natAbs=k→∃ r:Int×Int,LoopTo Tryz.prog (lb 73 p_rat) (sh_rat n d a c rb rn rd) (hp_rat n d a c rb rn rd) (.exit 0) (sh_rat n d r.1 r.2 rb rn rd) (hp_rat n d r.1 r.2 rb rn rd)∧r.1.natAbs=Nat.gcd a.natAbs c.natAbs:=by
 induction k using Nat.strongRecOn with
 | _ k ih=>
  intro a c hk
  have hr:=round_rat n d a c rb rn rd
  by_cases h0:c=0
  ·refine ⟨(a,c), .last (step_rat ?_) (by intro h;cases h),by rw [h0];exact (Nat.gcd_zero_right _).symm⟩
   rw [hr,dT h0]
   rfl
  ·have hm:(a.tmod c).natAbs < c.natAbs:=by rw [Int.natAbs_tmod];exact Nat.mod_lt _ (by omega)
   obtain ⟨r,h1,h2⟩:=ih _ (by omega) c (a.tmod c) rfl
   refine ⟨r, .more (step_rat ?_) h1, ?_⟩
   ·rw [hr,dF h0]
    rfl
   ·rw [h2,Int.natAbs_tmod,Nat.gcd_comm c.natAbs,← Nat.gcd_rec,Nat.gcd_comm]
theorem loop_rat (n d a c:Int) (rb:Bool) (rn rd:ByteArray) (h:pre_rat n d a c rb rn rd):∃ r:Int×Int,LoopTo Tryz.prog (lb 73 p_rat) (sh_rat n d a c rb rn rd) (hp_rat n d a c rb rn rd) (.exit 0) (sh_rat n d r.1 r.2 rb rn rd) (hp_rat n d r.1 r.2 rb rn rd)∧post_rat n d a c rb rn rd r:=by
 obtain ⟨r,h1,h2⟩:=rat_go n d rb rn rd c.natAbs a c rfl
 refine ⟨r,h1,h2, ?_⟩
 rw [h2]
 rcases Nat.eq_zero_or_pos a.natAbs with e | e
 ·right;rw [e,Nat.gcd_zero_left];exact Nat.le_refl _
 ·left;exact Nat.gcd_le_left _ e
def told_rat (κ:Int→Int→Int→Int→Bool→ByteArray→ByteArray→Bool) (φ:Int→Int→Int→Int→Bool→ByteArray→ByteArray→Int×Int) (T:List AV) (H:Hp):Option (Bool×Ex×List AV×Hp):=
 match lget T 0,lget T 1,lget T 4,lget T 5,lget T 6,H with
 | .val (.int .i64 n), .val (.int .i64 d), .ptr 0 0, .val (.int .i64 a), .val (.int .i64 c), [.row (.cells [.val (.bool rb), .val (.string rn), .val (.string rd)]) 27 .live]=>bif T.length==43 then some (κ n d a c rb rn rd, .exit 0,sh_rat n d ((φ n d a c rb rn rd).1) ((φ n d a c rb rn rd).2) rb rn rd,hp_rat n d ((φ n d a c rb rn rd).1) ((φ n d a c rb rn rd).2) rb rn rd) else none
 | _,_,_,_,_,_=>none
abbrev KT_rat:Type:=Int→Int→Int→Int→Bool→ByteArray→ByteArray→Bool
abbrev FT_rat:Type:=Int→Int→Int→Int→Bool→ByteArray→ByteArray→Int×Int
def LL_rat (κ:KT_rat) (φ:FT_rat) (L:LTab):LTab:=addLn 0 73 p_rat [0,1,4,5,6] (told_rat κ φ) L
def phi_rat (n:Int) (d:Int) (a:Int) (c:Int) (rb:Bool) (rn:ByteArray) (rd:ByteArray):Int×Int:=Classical.epsilon fun ρ=>LoopTo Tryz.prog (lb 73 p_rat) (sh_rat n d a c rb rn rd) (hp_rat n d a c rb rn rd) (.exit 0) (sh_rat n d (ρ.1) (ρ.2) rb rn rd) (hp_rat n d (ρ.1) (ρ.2) rb rn rd)∧post_rat n d a c rb rn rd ρ
theorem phi_rat_spec (n:Int) (d:Int) (a:Int) (c:Int) (rb:Bool) (rn:ByteArray) (rd:ByteArray) (h:pre_rat n d a c rb rn rd):LoopTo Tryz.prog (lb 73 p_rat) (sh_rat n d a c rb rn rd) (hp_rat n d a c rb rn rd) (.exit 0) (sh_rat n d ((phi_rat n d a c rb rn rd).1) ((phi_rat n d a c rb rn rd).2) rb rn rd) (hp_rat n d ((phi_rat n d a c rb rn rd).1) ((phi_rat n d a c rb rn rd).2) rb rn rd)∧post_rat n d a c rb rn rd (phi_rat n d a c rb rn rd):=Classical.epsilon_spec (loop_rat n d a c rb rn rd h)
def cond_rat (n:Int) (d:Int) (a:Int) (c:Int) (rb:Bool) (rn:ByteArray) (rd:ByteArray):Bool:= @decide (pre_rat n d a c rb rn rd) (Classical.propDecidable _)
theorem cond_rat_eq (n:Int) (d:Int) (a:Int) (c:Int) (rb:Bool) (rn:ByteArray) (rd:ByteArray) (h:pre_rat n d a c rb rn rd):cond_rat n d a c rb rn rd=true:= @decide_eq_true _ (Classical.propDecidable _) h
theorem told_rat_ok (T:List AV) (H:Hp) (e:Ex) (T1:List AV) (H1:Hp) (h:told_rat cond_rat phi_rat T H=some (true,e,T1,H1)):V.Ends Tryz.prog false 0 0 (.loop (lb 73 p_rat)) T H e T1 H1:=by
 unfold told_rat at h
 split at h
 ·rename_i n d a c rb rn rd h0 h1 h4 h5 h6
  rw [Bool.cond_eq_ite] at h
  split at h
  ·rename_i hlen
   rw [beq_iff_eq] at hlen
   simp only [Option.some.injEq,Prod.mk.injEq,Bool.and_eq_true,decide_eq_true_eq] at h
   obtain ⟨k1,rfl,rfl,rfl⟩:=h
   have kc:= @of_decide_eq_true _ (Classical.propDecidable _) k1
   refine Ends.pre (phi_rat_spec n d a c rb rn rd kc).1.ends (fun α B w D ys hr=>slots_rel hlen (fun p hp y hy=> ?_) hr)
   simp only [List.mem_cons,List.not_mem_nil,or_false] at hp
   rcases hp with rfl | rfl | rfl | rfl | rfl
   ·rw [h0] at hy;exact hy
   ·rw [h1] at hy;exact hy
   ·rw [h4] at hy;exact hy
   ·rw [h5] at hy;exact hy
   ·rw [h6] at hy;exact hy
  ·cases h
 ·cases h
theorem LL_rat_ok {L:LTab} (h:LOk Tryz.prog L):LOk Tryz.prog (LL_rat cond_rat phi_rat L):=h.add2n body_rat told_rat_ok
theorem ratio0_tree (S:Sg) (κ:KT_rat) (φ:FT_rat) (n d:Int):letI q_2:=(φ n d n d false (ByteArray.mk #[]) (ByteArray.mk #[]));letI q_1:=(mxI (q_2.fst) (IntKind.i64.wrap ((0:Int) - q_2.fst)));letI q_3:=(mxI n (IntKind.i64.wrap ((0:Int) - n)));
  (callA Tryz.prog ⟨addC 116 (tText S) noC,Kall,LL_rat κ φ noL⟩ 10 10 73 [.val (.int .i64 n), .val (.int .i64 d)]=(bif κ n d n d false (ByteArray.mk #[]) (ByteArray.mk #[]) then (bif decide (n=(0:Int)) then some (.agg [(.val (.bool false)),(.val (.string (ByteArray.mk #[]))),(.val (.string (ByteArray.mk #[])))]) else (bif decide (q_1=(0:Int)) then none else (bif inR IntKind.i64 (q_3.tdiv q_1) then (bif decide ((0:Int)≤q_3.tdiv q_1)&&decide (q_3.tdiv q_1≤(9223372036854775807:Int)) then (bif !decide (d=mxI (q_2.fst) (IntKind.i64.wrap ((0:Int) - q_2.fst))) then (bif decide (q_1=(0:Int)) then none else (bif inR IntKind.i64 (d.tdiv q_1) then (bif decide ((0:Int)≤d.tdiv q_1)&&decide (d.tdiv q_1≤(9223372036854775807:Int)) then some (.agg [(.val (.bool (decide (n < (0:Int))))),(.val (.string (S.mg (q_3.tdiv q_1).toNat))),(.val (.string (S.mg (d.tdiv q_1).toNat)))]) else none) else none)) else some (.agg [(.val (.bool (decide (n < (0:Int))))),(.val (.string (S.mg (q_3.tdiv q_1).toNat))),(.val (.string (ByteArray.mk #[])))])) else none) else none))) else none)):=by kernel_rfl
end
end Go.Proofs.YtamcpiicmfielaaGreat.L
namespace Go.Proofs.YtamcpiicmfielaaGreat.L
open Go Go.V Go.RowKit Go.Proofs.YtamcpiicmfielaaGreat.Sp Go.Proofs.YtamcpiicmfielaaGreat.F
open Go.Proofs (Tryz.prog)
noncomputable section
theorem okq_size {s:ByteArray} (h:s.size≤8796093022208):sg0.ok s=true:=decide_eq_true h
theorem ok_ms0:sg0.ok (sg0.ms 0)=true:=ok_ms (by rw [show (0:Int).natAbs=0 from rfl,bs_zero];exact Nat.zero_le _)
theorem ok_ms1:sg0.ok (sg0.ms 1)=true:=ok_ms (by rw [show (1:Int).natAbs=1 from rfl];exact Nat.le_trans bs_one (by decide))
theorem ng_one:sg0.ng 1=false:=ng_nn (by decide)
theorem ms_one:sg0.ms 1=magOf 1:=rfl
theorem cz_iff (x y:Int):sg0.cmz x y=0↔x=y:=by
 show cmpZ x y=0↔_
 unfold cmpZ
 split <;> (try split) <;> omega
theorem cz_neg1 (x y:Int):sg0.cmz x y= -1↔x < y:=by
 show cmpZ x y= -1↔_
 unfold cmpZ
 split <;> (try split) <;> omega
theorem COf_ok:Meets Tryz.prog (COf sg0):=((meets_none _).add eOf).add eCompare
theorem eOfF:Entry Tryz.prog 68 (tOfF sq0):=by
 refine entry_of (E:= ⟨COf sg0,Kall,noL⟩) (u:=10) (d:=10) COf_ok loops_none mixed (by kernel_rfl) (fun args r h=> ?_)
 unfold tOfF at h
 split at h
 ·rename_i b n d
  simp only [Option.some.injEq,Prod.mk.injEq] at h
  obtain ⟨h1,rfl⟩:=h
  obtain ⟨k1,k2⟩:=qok_out h1
  rw [of_tree,okq_size (s:=d) (by omega),ok_ms0,val_ms]
  have hv:sg0.val false d=(vS d:Nat):=rfl
  have hf:sq0.fd d=if vS d=0 then magOf 1 else d:=rfl
  rw [hf]
  by_cases h0:vS d=0
  ·rw [if_pos h0,dT ((cz_iff _ _).2 (by rw [hv,h0];rfl)),ng_one,ms_one];rfl
  ·rw [if_neg h0,dF (fun h=>h0 (by have:=(cz_iff _ _).1 h;omega))];rfl
 ·cases h
theorem fr_parts (x:Int) {y:Int} (hy:0 < y):(Rat.divInt x y).num=x / (zg x y)∧(((Rat.divInt x y).den:Nat):Int)=y / (zg x y)∧(Rat.divInt x y).num.natAbs=x.natAbs / Nat.gcd x.natAbs y.natAbs∧(Rat.divInt x y).den=y.natAbs / Nat.gcd x.natAbs y.natAbs:=by
 have hg:Int.gcd y x=Nat.gcd x.natAbs y.natAbs:=by rw [Int.gcd_eq_natAbs_gcd_natAbs,Nat.gcd_comm]
 have e1:(Rat.divInt x y).num=x / (zg x y):=by
  rw [Rat.num_divInt,Int.sign_eq_one_of_pos hy,Int.one_mul,hg];rfl
 have e2:(Rat.divInt x y).den=y.natAbs / Nat.gcd x.natAbs y.natAbs:=by
  rw [Rat.den_divInt,if_neg (by omega),hg]
 refine ⟨e1, ?_, ?_,e2⟩
 ·rw [e2,Int.natCast_ediv]
  unfold zg
  rw [show ((y.natAbs:Nat):Int)=y by omega]
 ·rw [e1]
  obtain ⟨k,hk⟩:=Int.ofNat_dvd_left.2 (Nat.gcd_dvd_left x.natAbs y.natAbs)
  have hp:0 < Nat.gcd x.natAbs y.natAbs:=Nat.gcd_pos_of_pos_right _ (by omega)
  have hx:x.natAbs=Nat.gcd x.natAbs y.natAbs*k.natAbs:=by
   have:=congrArg Int.natAbs hk
   rwa [Int.natAbs_mul,Int.natAbs_natCast] at this
  have h1:x / zg x y=k:=by
   have h2:zg x y*k / zg x y=k:=Int.mul_ediv_cancel_left k (by unfold zg;omega)
   rw [← h2]
   exact congrArg (· / zg x y) hk
  rw [h1]
  rw [hx] at hp ⊢
  rw [← hx]
  exact (Nat.eq_of_mul_eq_mul_left (by rw [← hx] at hp;exact hp) (by rw [← hx,Nat.mul_div_cancel' (Nat.gcd_dvd_left _ _)])).symm
theorem zg_pos (x:Int) {y:Int} (hy:0 < y):0 < zg x y:=by
 have:0 < Nat.gcd x.natAbs y.natAbs:=Nat.gcd_pos_of_pos_right _ (by omega)
 unfold zg;omega
theorem zq_fr (x:Int) {y:Int} (hy:0 < y):zq x (zg x y)=(Rat.divInt x y).num∧zq y (zg x y)=((Rat.divInt x y).den:Nat):=by
 obtain ⟨e1,e2,_,_⟩:=fr_parts x hy
 have hp:=zg_pos x hy
 unfold zq
 rw [if_neg (by omega),if_neg (by omega),Int.fdiv_eq_ediv_of_nonneg _ (by omega),Int.fdiv_eq_ediv_of_nonneg _ (by omega),e1,e2]
 exact ⟨rfl,rfl⟩
theorem qd_if (q:Rat):sq0.qd q=if q.den=1 then ByteArray.mk #[] else magOf q.den:=rfl
theorem CNu_ok:Meets Tryz.prog (CNu sg0 xg0):=(COf_ok.add eDiv).add eGcd
theorem eNumber:Entry Tryz.prog 70 (tNumber sg0 sq0):=by
 refine entry_of (E:= ⟨CNu sg0 xg0,Kall,noL⟩) (u:=10) (d:=10) CNu_ok loops_none mixed (by kernel_rfl) (fun args r h=> ?_)
 unfold tNumber at h
 split at h
 ·rename_i b s c t
  simp only [Option.some.injEq,Prod.mk.injEq,Bool.and_eq_true,decide_eq_true_eq] at h
  obtain ⟨⟨⟨h1,h2⟩,h3⟩,rfl⟩:=h
  have hcall:=number_tree sg0 xg0 b c s t
  have k1:=bs_val b s
  have k2:=bs_val c t
  have z1:s.size≤8796093022208:=of_decide_eq_true h1
  have z2:t.size≤8796093022208:=of_decide_eq_true h2
  simp only [val_ms,x_gcd,x_dq] at hcall
  rw [hcall]
  clear hcall
  generalize sg0.val b s=x at*
  generalize sg0.val c t=y at*
  have q4:=bs_zg x y
  have q5:=bs_mono (num_fr_le x y)
  have q6:=bs_mono (den_fr_le x (show y≠0 by omega))
  obtain ⟨e1,e2⟩:=zq_fr x h3
  rw [e1,e2,h1,h2,ok_ms0,ok_ms1,ok_ms (z:=zg x y) (by omega),ok_ms (z:=(((Rat.divInt x y).den:Nat):Int)) (by rw [Int.natAbs_natCast];omega)]
  have hfr:sq0.fr x y=Rat.divInt x y:=rfl
  rw [hfr]
  by_cases h0:x=0
  ·rw [dT ((cz_iff _ _).2 h0),h0,Rat.zero_divInt,rat_zero];rfl
  ·rw [dF (fun h=>h0 ((cz_iff _ _).1 h))]
   have hd:=qd_if (Rat.divInt x y)
   by_cases h4:(Rat.divInt x y).den=1
   ·rw [if_pos h4] at hd
    rw [dT ((cz_iff _ _).2 (by rw [h4];rfl))]
    unfold Qg.rat
    rw [hd];rfl
   ·rw [if_neg h4] at hd
    rw [dF (fun h=>h4 (by have:=(cz_iff _ _).1 h;omega))]
    unfold Qg.rat
    rw [hd];rfl
 ·cases h
theorem mx_abs {a:Int} (h: -4611686018427387904 < a∧a < 4611686018427387904):mxI a (IntKind.i64.wrap (0 - a))=((a.natAbs:Nat):Int):=by
 rw [show IntKind.i64.wrap (0 - a)= -a by rw [IntKind.wrap_i64];omega]
 unfold mxI
 by_cases h1:a < -a
 ·rw [if_pos h1];omega
 ·rw [if_neg h1];omega
theorem mid_out {z:Int} (h:mid z=true): -72057594037927936 < z∧z < 72057594037927936:=by
 unfold mid at h
 rwa [Bool.and_eq_true,decide_eq_true_eq,decide_eq_true_eq] at h
theorem eRatio0:Entry Tryz.prog 73 (tRatio0 sq0):=by
 refine entry_of (E:= ⟨addC 116 (tText sg0) noC,Kall,LL_rat cond_rat phi_rat noL⟩) (u:=10) (d:=10) ((meets_none _).add eText) (LL_rat_ok LOk.none).ok mixed (by kernel_rfl) (fun args r h=> ?_)
 unfold tRatio0 at h
 split at h
 ·rename_i n d
  simp only [Option.some.injEq,Prod.mk.injEq,Bool.and_eq_true,decide_eq_true_eq] at h
  obtain ⟨⟨⟨h1,h2⟩,h3⟩,rfl⟩:=h
  have b1:=mid_out h1
  have b2:=mid_out h2
  have hcall:=ratio0_tree sg0 cond_rat phi_rat n d
  have hp:pre_rat n d n d false (ByteArray.mk #[]) (ByteArray.mk #[]):=True.intro
  obtain ⟨_,hg,hle⟩:=phi_rat_spec _ _ _ _ _ _ _ hp
  rw [cond_rat_eq _ _ _ _ _ _ _ hp] at hcall
  generalize phi_rat n d n d false (ByteArray.mk #[]) (ByteArray.mk #[])=ρ at*
  have hgp:0 < Nat.gcd n.natAbs d.natAbs:=Nat.gcd_pos_of_pos_right _ (by omega)
  rw [mx_abs (a:=ρ.1) (by omega),mx_abs (a:=n) (by omega),hg] at hcall
  have t1:Int.tdiv ((n.natAbs:Nat):Int) ((Nat.gcd n.natAbs d.natAbs:Nat):Int)=((n.natAbs / Nat.gcd n.natAbs d.natAbs:Nat):Int):=rfl
  have t2:Int.tdiv d ((Nat.gcd n.natAbs d.natAbs:Nat):Int)=((d.natAbs / Nat.gcd n.natAbs d.natAbs:Nat):Int):=by
   obtain ⟨m,rfl⟩:=Int.eq_ofNat_of_zero_le (show 0≤d by omega)
   rfl
  have l1:=Nat.div_le_self n.natAbs (Nat.gcd n.natAbs d.natAbs)
  have l2:=Nat.div_le_self d.natAbs (Nat.gcd n.natAbs d.natAbs)
  obtain ⟨_,_,f3,f4⟩:=fr_parts n h3
  rw [t1,t2] at hcall
  have hfr:sq0.fr n d=Rat.divInt n d:=rfl
  rw [hfr]
  by_cases h0:n=0
  ·rw [dT h0] at hcall
   rw [hcall,h0,Rat.zero_divInt,rat_zero];rfl
  ·have hdiv:d=((Nat.gcd n.natAbs d.natAbs:Nat):Int)↔(Rat.divInt n d).den=1:=by
    rw [f4]
    have hdv:=Nat.div_mul_cancel (Nat.gcd_dvd_right n.natAbs d.natAbs)
    constructor
    ·intro h
     have h':d.natAbs=Nat.gcd n.natAbs d.natAbs:=by omega
     exact Nat.div_eq_of_eq_mul_left hgp (by omega)
    ·intro h
     rw [h] at hdv
     omega
   rw [dF h0,dF (show ¬ ((Nat.gcd n.natAbs d.natAbs:Nat):Int)=0 by omega)] at hcall
   rw [← f3] at hcall l1
   rw [← f4] at hcall l2
   rw [i64T (z:=(((Rat.divInt n d).num.natAbs:Nat):Int)) (by omega),dT (show (0:Int)≤(((Rat.divInt n d).num.natAbs:Nat):Int) by omega),dT (show (((Rat.divInt n d).num.natAbs:Nat):Int)≤9223372036854775807 by omega),i64T (z:=(((Rat.divInt n d).den:Nat):Int)) (by omega),dT (show (0:Int)≤(((Rat.divInt n d).den:Nat):Int) by omega),dT (show (((Rat.divInt n d).den:Nat):Int)≤9223372036854775807 by omega),Int.toNat_natCast,Int.toNat_natCast] at hcall
   rw [hcall]
   have hd:=qd_if (Rat.divInt n d)
   have hs:sq0.qn (Rat.divInt n d)=decide (n < 0):=by
    have:sq0.qn (Rat.divInt n d)=sg0.ng (Rat.divInt n d).num:=rfl
    rw [this,ng_eq]
    refine decide_eq_decide.2 ?_
    obtain ⟨f1,_,_,_⟩:=fr_parts n h3
    rw [f1]
    rw [Int.ediv_lt_iff_lt_mul (zg_pos n h3),Int.zero_mul]
   by_cases h4:(Rat.divInt n d).den=1
   ·rw [if_pos h4] at hd
    rw [dT (hdiv.2 h4)]
    unfold Qg.rat
    rw [hd,hs];rfl
   ·rw [if_neg h4] at hd
    rw [dF (fun h=>h4 (hdiv.1 h))]
    unfold Qg.rat
    rw [hd,hs];rfl
 ·cases h
theorem CQn_ok:Meets Tryz.prog (CQn sg0 xg0 sq0):=((COf_ok.add eNeg).add eOfF).add eNumber
theorem eQOf:Entry Tryz.prog 28 (tQOf sq0):=by
 refine entry_of (E:= ⟨CQn sg0 xg0 sq0,Kall,noL⟩) (u:=10) (d:=10) CQn_ok loops_none mixed (by kernel_rfl) (fun args r h=> ?_)
 unfold tQOf at h
 split at h
 ·rename_i z
  simp only [Option.some.injEq,Prod.mk.injEq] at h
  obtain ⟨h1,rfl⟩:=h
  have h2:=h1
  unfold inI at h2
  rw [Bool.and_eq_true,decide_eq_true_eq,decide_eq_true_eq] at h2
  have hb:bs z.natAbs≤8:=bs_le (by have:(256:Nat) ^ 8=18446744073709551616:=rfl;omega)
  rw [qof_tree]
  simp only [val_ms]
  rw [h1,ok_ms (z:=z) (by omega),ok_ms1,dT (show (0:Int) < 1 by decide)]
  rfl
 ·cases h
theorem eQNew:Entry Tryz.prog 84 (tQNew sg0 xg0 sq0):=by
 refine entry_of (E:= ⟨CQn sg0 xg0 sq0,Kall,noL⟩) (u:=10) (d:=10) CQn_ok loops_none mixed (by kernel_rfl) (fun args r h=> ?_)
 unfold tQNew at h
 split at h
 ·rename_i b s c t
  simp only [Option.some.injEq,Prod.mk.injEq,Bool.and_eq_true] at h
  obtain ⟨⟨h1,h2⟩,rfl⟩:=h
  have hcall:=qnew_tree sg0 xg0 sq0 b c s t
  have k1:=bs_val b s
  have k2:=bs_val c t
  have z1:s.size≤8796093022208:=of_decide_eq_true h1
  have z2:t.size≤8796093022208:=of_decide_eq_true h2
  simp only [val_ms,vnil] at hcall
  rw [hcall]
  clear hcall
  generalize sg0.val b s=x at*
  generalize sg0.val c t=y at*
  have n1:=bs_neg x
  have n2:=bs_neg y
  have hf:∀ x y,sq0.fr x y=Rat.divInt x y:=fun x y=>rfl
  rw [h1,h2,ok_nil,ok_ms (z:= -x) (by omega),ok_ms (z:= -y) (by omega),x_de,hf,hf]
  by_cases h0:y=0
  ·rw [dT ((cz_iff _ _).2 h0),h0,ez0,Rat.divInt_zero,rat_zero];rfl
  ·rw [dF (fun h=>h0 ((cz_iff _ _).1 h)),ezn h0]
   by_cases h3:y < 0
   ·rw [dT ((cz_neg1 _ _).2 h3),dT (show 0 < -y by omega),Rat.neg_divInt_neg];rfl
   ·rw [dF (fun h=>h3 ((cz_neg1 _ _).1 h)),dT (show 0 < y by omega)];rfl
 ·cases h
theorem eQRatio:Entry Tryz.prog 87 (tQRatio xg0 sq0):=by
 refine entry_of (E:= ⟨addC 84 (tQNew sg0 xg0 sq0) (COf sg0),Kall,noL⟩) (u:=10) (d:=10) (COf_ok.add eQNew) loops_none mixed (by kernel_rfl) (fun args r h=> ?_)
 unfold tQRatio at h
 split at h
 ·rename_i n d
  simp only [Option.some.injEq,Prod.mk.injEq,Bool.and_eq_true] at h
  obtain ⟨⟨h1,h2⟩,rfl⟩:=h
  have h3:=h1
  have h4:=h2
  unfold inI at h3 h4
  rw [Bool.and_eq_true,decide_eq_true_eq,decide_eq_true_eq] at h3 h4
  have b1:bs n.natAbs≤8:=bs_le (by have:(256:Nat) ^ 8=18446744073709551616:=rfl;omega)
  have b2:bs d.natAbs≤8:=bs_le (by have:(256:Nat) ^ 8=18446744073709551616:=rfl;omega)
  rw [qratio_tree]
  simp only [val_ms]
  rw [h1,h2,ok_ms (z:=n) (by omega),ok_ms (z:=d) (by omega)]
  rfl
 ·cases h
theorem fr_fd (b:Bool) (n d:ByteArray):sq0.fr (sg0.val b n) (sg0.val false (sq0.fd d))=sq0.qv b n d:=by rw [val_fd];rfl
theorem ok_both {n d:ByteArray} (h:sq0.ok n d=true):sg0.ok n=true∧sg0.ok (sq0.fd d)=true∧decide (0 < sg0.val false (sq0.fd d))=true:=by
 obtain ⟨k1,k2⟩:=qok_out h
 have k3:=size_fd d
 exact ⟨okq_size (by omega),okq_size (by omega),by rw [val_fd];exact dT (dn_pos d)⟩
theorem eQCheck:Entry Tryz.prog 49 (tQCheck sq0):=by
 refine entry_of (E:= ⟨CQn sg0 xg0 sq0,Kall,noL⟩) (u:=10) (d:=10) CQn_ok loops_none mixed (by kernel_rfl) (fun args r h=> ?_)
 unfold tQCheck tQ1 at h
 split at h
 ·rename_i b n d
  simp only [Option.some.injEq,Prod.mk.injEq] at h
  obtain ⟨h1,rfl⟩:=h
  obtain ⟨k1,k2,k3⟩:=ok_both h1
  rw [qcheck_tree,h1,k1,k2,k3]
  simp only [fr_fd]
  have hck:sq0.ck b n d=bif (b==sq0.qn (sq0.qv b n d))&&strEq n (sq0.qs (sq0.qv b n d))&&strEq d (sq0.qd (sq0.qv b n d)) then 0 else 1:=rfl
  rw [hck]
  generalize (b==sq0.qn (sq0.qv b n d))=u1
  generalize strEq n (sq0.qs (sq0.qv b n d))=u2
  generalize strEq d (sq0.qd (sq0.qv b n d))=u3
  cases u1 <;> cases u2 <;> cases u3 <;> rfl
 ·cases h
theorem eQNeg:Entry Tryz.prog 156 (tQNeg sq0):=by
 refine entry_of (E:= ⟨CQn sg0 xg0 sq0,Kall,noL⟩) (u:=10) (d:=10) CQn_ok loops_none mixed (by kernel_rfl) (fun args r h=> ?_)
 unfold tQNeg tQ1 at h
 split at h
 ·rename_i b n d
  simp only [Option.some.injEq,Prod.mk.injEq] at h
  obtain ⟨h1,rfl⟩:=h
  obtain ⟨k1,k2,k3⟩:=ok_both h1
  rw [qneg_tree]
  simp only [fr_fd,qv_not]
  rw [h1,k1,k2,k3]
  rfl
 ·cases h
theorem eQSign:Entry Tryz.prog 27 (tQSign sq0):=by
 refine entry_of (E:= ⟨CQn sg0 xg0 sq0,Kall,noL⟩) (u:=10) (d:=10) CQn_ok loops_none mixed (by kernel_rfl) (fun args r h=> ?_)
 unfold tQSign tQ1 at h
 split at h
 ·rename_i b n d
  simp only [Option.some.injEq,Prod.mk.injEq] at h
  obtain ⟨h1,rfl⟩:=h
  obtain ⟨k1,k2,k3⟩:=ok_both h1
  rw [qsign_tree]
  simp only [vnil]
  rw [h1,k1,ok_nil]
  have hs:sq0.sq (sq0.qv b n d)=sg0.cmz (sg0.val b n) 0:=sq_fr (sg0.val b n) (dn_pos d)
  rw [hs]
  rfl
 ·cases h
end
end Go.Proofs.YtamcpiicmfielaaGreat.L
namespace Go.Proofs.YtamcpiicmfielaaGreat.L
open Go Go.V Go.RowKit Go.Proofs.YtamcpiicmfielaaGreat.Sp Go.Proofs.YtamcpiicmfielaaGreat.F
open Go.Proofs (Tryz.prog)
noncomputable section
theorem CQa_ok:Meets Tryz.prog (CQa sg0 xg0 sq0):=(((CQn_ok.add eAdd).add eMul).add eRatio0).add eMachine
theorem ms_out {n d:ByteArray} (h:sq0.ms n d=true) (b:Bool):n.size≤3∧d.size≤3∧sq0.mn b n d=sg0.val b n∧sq0.md n d=dn d∧(sg0.val b n).natAbs < 16777216∧dn d < 16777216:=by
 have h':smn n d=true:=h
 have h2:=h'
 unfold smn at h2
 rw [Bool.and_eq_true,decide_eq_true_eq,decide_eq_true_eq] at h2
 have e1:sq0.mn b n d=bif smn n d then sg0.val b n else 0:=rfl
 have e2:sq0.md n d=bif smn n d then dn d else 0:=rfl
 rw [h'] at e1 e2
 have v1:vS n < 16777216:=Nat.lt_of_lt_of_le (vS_lt n) (Nat.pow_le_pow_right (by decide:0 < 256) h2.1)
 have v2:vS d < 16777216:=Nat.lt_of_lt_of_le (vS_lt d) (Nat.pow_le_pow_right (by decide:0 < 256) h2.2)
 refine ⟨h2.1,h2.2,e1,e2,by rw [← vs_val];exact v1, ?_⟩
 unfold dn
 split <;> omega
theorem mid_in {z:Int} (h: -72057594037927936 < z∧z < 72057594037927936):mid z=true:=by
 unfold mid
 rw [Bool.and_eq_true,decide_eq_true_eq,decide_eq_true_eq]
 exact h
theorem mul24 {x y:Int} (hx:x.natAbs < 16777216) (hy:y.natAbs < 16777216):(x*y).natAbs≤281474976710656:=by
 rw [Int.natAbs_mul]
 exact Nat.le_trans (Nat.mul_le_mul (Nat.le_of_lt hx) (Nat.le_of_lt hy)) (by decide)
theorem two_ok {n d m e:ByteArray} (h1:sq0.ok n d=true) (h2:sq0.ok m e=true):∀ (b c:Bool),sg0.ok n=true∧sg0.ok m=true∧sg0.ok (sq0.fd d)=true∧sg0.ok (sq0.fd e)=true∧
  bs (sg0.val b n).natAbs≤1099511627776∧bs (sg0.val c m).natAbs≤1099511627776∧bs (dn d).natAbs≤1099511627776∧bs (dn e).natAbs≤1099511627776:=by
 intro b c
 obtain ⟨k1,k2,_⟩:=ok_both h1
 obtain ⟨k3,k4,_⟩:=ok_both h2
 obtain ⟨z1,z2⟩:=qok_out h1
 obtain ⟨z3,z4⟩:=qok_out h2
 have a1:=bs_val b n
 have a2:=bs_val c m
 have a3:=bs_dn d
 have a4:=bs_dn e
 exact ⟨k1,k3,k2,k4,by omega,by omega,by omega,by omega⟩
theorem eQAdd:Entry Tryz.prog 29 (tQAdd sq0):=by
 refine entry_of (E:= ⟨CQa sg0 xg0 sq0,Kall,noL⟩) (u:=10) (d:=10) CQa_ok loops_none mixed (by kernel_rfl) (fun args r h=> ?_)
 unfold tQAdd tQ2 at h
 split at h
 ·rename_i b n d c m e
  simp only [Option.some.injEq,Prod.mk.injEq,Bool.and_eq_true] at h
  obtain ⟨⟨h1,h2⟩,rfl⟩:=h
  have hcall:=qadd_tree sg0 xg0 sq0 b c n d m e
  obtain ⟨k1,k2,k3,k4,k5,k6,k7,k8⟩:=two_ok h1 h2 b c
  have p1:=dn_pos d
  have p2:=dn_pos e
  have hv:sq0.qv b n d+sq0.qv c m e=Rat.divInt (sg0.val b n*dn e+sg0.val c m*dn d) (dn d*dn e):=fr_add _ _ (dn_ne d) (dn_ne e)
  have q1:=bs_zmul (sg0.val b n) (dn e)
  have q2:=bs_zmul (sg0.val c m) (dn d)
  have q3:=bs_zmul (dn d) (dn e)
  have q4:=bs_zadd (sg0.val b n*dn e) (sg0.val c m*dn d)
  have p3:=Int.mul_pos p1 p2
  have hf:∀ x y,sq0.fr x y=Rat.divInt x y:=fun x y=>rfl
  simp only [val_ms,val_fd,hf] at hcall
  rw [h1,h2,k1,k2,k3,k4,ok_ms (z:=sg0.val b n*dn e) (by omega),ok_ms (z:=sg0.val c m*dn d) (by omega),ok_ms (z:=dn d*dn e) (by omega),ok_ms (z:=sg0.val b n*dn e+sg0.val c m*dn d) (by omega),dT p3,← hv] at hcall
  have fin:∀ u v:Bool,(u=true→sq0.ms n d=true)→(v=true→sq0.ms m e=true)→sq0.ms n d=u→sq0.ms m e=v→callA Tryz.prog ⟨CQa sg0 xg0 sq0,Kall,noL⟩ 10 10 29 [.agg [.val (.bool b), .val (.string n), .val (.string d)], .agg [.val (.bool c), .val (.string m), .val (.string e)]]=some (sq0.rat (sq0.qv b n d+sq0.qv c m e)):=by
   intro u v hu hv' eu ev
   rw [hcall,eu,ev]
   cases u
   ·rfl
   ·cases v
    ·rfl
    ·obtain ⟨_,_,e1,e2,b1,b2⟩:=ms_out (hu rfl) b
     obtain ⟨_,_,e3,e4,b3,b4⟩:=ms_out (hv' rfl) c
     rw [e1,e2,e3,e4]
     have m1:=mul24 (x:=sg0.val b n) (y:=dn e) b1 (by omega)
     have m2:=mul24 (x:=sg0.val c m) (y:=dn d) b3 (by omega)
     have m3:=mul24 (x:=dn d) (y:=dn e) (by omega) (by omega)
     rw [i64T (z:=sg0.val b n*dn e) (by omega),i64T (z:=sg0.val c m*dn d) (by omega),i64T (z:=sg0.val b n*dn e+sg0.val c m*dn d) (by omega),i64T (z:=dn d*dn e) (by omega),mid_in (z:=sg0.val b n*dn e+sg0.val c m*dn d) (by omega),mid_in (z:=dn d*dn e) (by omega),dT p3,← hv]
     rfl
  exact fin _ _ id id rfl rfl
 ·cases h
theorem eQMul:Entry Tryz.prog 30 (tQMul sq0):=by
 refine entry_of (E:= ⟨CQa sg0 xg0 sq0,Kall,noL⟩) (u:=10) (d:=10) CQa_ok loops_none mixed (by kernel_rfl) (fun args r h=> ?_)
 unfold tQMul tQ2 at h
 split at h
 ·rename_i b n d c m e
  simp only [Option.some.injEq,Prod.mk.injEq,Bool.and_eq_true] at h
  obtain ⟨⟨h1,h2⟩,rfl⟩:=h
  have hcall:=qmul_tree sg0 xg0 sq0 b c n d m e
  obtain ⟨k1,k2,k3,k4,k5,k6,k7,k8⟩:=two_ok h1 h2 b c
  have p1:=dn_pos d
  have p2:=dn_pos e
  have hv:sq0.qv b n d*sq0.qv c m e=Rat.divInt (sg0.val b n*sg0.val c m) (dn d*dn e):=fr_mul _ _ _ _
  have q1:=bs_zmul (sg0.val b n) (sg0.val c m)
  have q3:=bs_zmul (dn d) (dn e)
  have p3:=Int.mul_pos p1 p2
  have hf:∀ x y,sq0.fr x y=Rat.divInt x y:=fun x y=>rfl
  simp only [val_ms,val_fd,hf] at hcall
  rw [h1,h2,k1,k2,k3,k4,ok_ms (z:=sg0.val b n*sg0.val c m) (by omega),ok_ms (z:=dn d*dn e) (by omega),dT p3,← hv] at hcall
  have fin:∀ u v:Bool,(u=true→sq0.ms n d=true)→(v=true→sq0.ms m e=true)→sq0.ms n d=u→sq0.ms m e=v→callA Tryz.prog ⟨CQa sg0 xg0 sq0,Kall,noL⟩ 10 10 30 [.agg [.val (.bool b), .val (.string n), .val (.string d)], .agg [.val (.bool c), .val (.string m), .val (.string e)]]=some (sq0.rat (sq0.qv b n d*sq0.qv c m e)):=by
   intro u v hu hv' eu ev
   rw [hcall,eu,ev]
   cases u
   ·rfl
   ·cases v
    ·rfl
    ·obtain ⟨_,_,e1,e2,b1,b2⟩:=ms_out (hu rfl) b
     obtain ⟨_,_,e3,e4,b3,b4⟩:=ms_out (hv' rfl) c
     rw [e1,e2,e3,e4]
     have m1:=mul24 (x:=sg0.val b n) (y:=sg0.val c m) b1 b3
     have m3:=mul24 (x:=dn d) (y:=dn e) (by omega) (by omega)
     rw [i64T (z:=sg0.val b n*sg0.val c m) (by omega),i64T (z:=dn d*dn e) (by omega),mid_in (z:=sg0.val b n*sg0.val c m) (by omega),mid_in (z:=dn d*dn e) (by omega),dT p3,← hv]
     rfl
  exact fin _ _ id id rfl rfl
 ·cases h
theorem eQCompare:Entry Tryz.prog 23 (tQCompare sq0):=by
 refine entry_of (E:= ⟨CQa sg0 xg0 sq0,Kall,noL⟩) (u:=10) (d:=10) CQa_ok loops_none mixed (by kernel_rfl) (fun args r h=> ?_)
 unfold tQCompare tQ2 at h
 split at h
 ·rename_i b n d c m e
  simp only [Option.some.injEq,Prod.mk.injEq,Bool.and_eq_true] at h
  obtain ⟨⟨h1,h2⟩,rfl⟩:=h
  have hcall:=qcompare_tree sg0 xg0 sq0 b c n d m e
  obtain ⟨k1,k2,k3,k4,k5,k6,k7,k8⟩:=two_ok h1 h2 b c
  have p1:=dn_pos d
  have p2:=dn_pos e
  have hv:sq0.cq (sq0.qv b n d) (sq0.qv c m e)=cmpZ (sg0.val b n*dn e) (sg0.val c m*dn d):=cq_fr _ _ p1 p2
  have q1:=bs_zmul (sg0.val b n) (dn e)
  have q2:=bs_zmul (sg0.val c m) (dn d)
  simp only [val_ms,val_fd] at hcall
  rw [h1,h2,k1,k2,k3,k4,ok_ms (z:=sg0.val b n*dn e) (by omega),ok_ms (z:=sg0.val c m*dn d) (by omega)] at hcall
  have hz:sg0.cmz (sg0.val b n*dn e) (sg0.val c m*dn d)=sq0.cq (sq0.qv b n d) (sq0.qv c m e):=hv.symm
  rw [hz] at hcall
  have fin:∀ u v:Bool,(u=true→sq0.ms n d=true)→(v=true→sq0.ms m e=true)→sq0.ms n d=u→sq0.ms m e=v→callA Tryz.prog ⟨CQa sg0 xg0 sq0,Kall,noL⟩ 10 10 23 [.agg [.val (.bool b), .val (.string n), .val (.string d)], .agg [.val (.bool c), .val (.string m), .val (.string e)]]=some (.val (.int .i64 (sq0.cq (sq0.qv b n d) (sq0.qv c m e)))):=by
   intro u v hu hv' eu ev
   rw [hcall,eu,ev]
   cases u
   ·rfl
   ·cases v
    ·rfl
    ·obtain ⟨_,_,e1,e2,b1,b2⟩:=ms_out (hu rfl) b
     obtain ⟨_,_,e3,e4,b3,b4⟩:=ms_out (hv' rfl) c
     rw [e1,e2,e3,e4]
     have m1:=mul24 (x:=sg0.val b n) (y:=dn e) b1 (by omega)
     have m2:=mul24 (x:=sg0.val c m) (y:=dn d) b3 (by omega)
     rw [i64T (z:=sg0.val b n*dn e) (by omega),i64T (z:=sg0.val c m*dn d) (by omega),hv]
     unfold cmpZ
     by_cases g1:sg0.val b n*dn e < sg0.val c m*dn d
     ·rw [dT g1,if_pos g1];rfl
     ·rw [dF g1,if_neg g1]
      by_cases g2:sg0.val c m*dn d < sg0.val b n*dn e
      ·rw [dT g2,if_pos g2];rfl
      ·rw [dF g2,if_neg g2];rfl
  exact fin _ _ id id rfl rfl
 ·cases h
theorem qe_fr (x:Int) {y:Int} (hy:0 < y):sq0.qe (Rat.divInt x y)=ze x:=by
 have h:sq0.qe (Rat.divInt x y)=if Rat.divInt x y=0 then 10 else 0:=rfl
 rw [h]
 unfold ze
 by_cases h0:x=0
 ·rw [if_pos h0,if_pos ((fr_zero (by omega)).2 h0)]
 ·rw [if_neg h0,if_neg (fun h=>h0 ((fr_zero (by omega)).1 h))]
theorem eQQuo:Entry Tryz.prog 42 (tQQuo sq0):=by
 refine entry_of (E:= ⟨addC 84 (tQNew sg0 xg0 sq0) (CQa sg0 xg0 sq0),Kall,noL⟩) (u:=10) (d:=10) (CQa_ok.add eQNew) loops_none mixed (by kernel_rfl) (fun args r h=> ?_)
 unfold tQQuo tQ2 at h
 split at h
 ·rename_i b n d c m e
  simp only [Option.some.injEq,Prod.mk.injEq,Bool.and_eq_true] at h
  obtain ⟨⟨h1,h2⟩,rfl⟩:=h
  have hcall:=qquo_tree sg0 xg0 sq0 b c n d m e
  obtain ⟨k1,k2,k3,k4,k5,k6,k7,k8⟩:=two_ok h1 h2 b c
  have p1:=dn_pos d
  have p2:=dn_pos e
  have q1:=bs_zmul (sg0.val b n) (dn e)
  have q2:=bs_zmul (dn d) (sg0.val c m)
  have hv:sq0.qv b n d / sq0.qv c m e=Rat.divInt (sg0.val b n*dn e) (dn d*sg0.val c m):=fr_div _ _ _ _
  have he:sq0.qe (sq0.qv c m e)=ze (sg0.val c m):=qe_fr _ p2
  have hf:∀ x y,sq0.fr x y=Rat.divInt x y:=fun x y=>rfl
  have hze:ze (dn d*sg0.val c m)=ze (sg0.val c m):=by
   unfold ze
   by_cases h0:sg0.val c m=0
   ·rw [h0,Int.mul_zero]
   ·rw [if_neg h0,if_neg (mul_ne' (dn_ne d) h0)]
  simp only [val_ms,val_fd,hf,x_de,hze] at hcall
  rw [h1,h2,k1,k2,k3,k4,ok_ms (z:=sg0.val b n*dn e) (by omega),ok_ms (z:=dn d*sg0.val c m) (by omega),← hv,← he] at hcall
  exact hcall
 ·cases h
theorem eQSub:Entry Tryz.prog 31 (tQSub sq0):=by
 refine entry_of (E:= ⟨addC 29 (tQAdd sq0) noC,Kall,noL⟩) (u:=10) (d:=10) ((meets_none _).add eQAdd) loops_none mixed (by kernel_rfl) (fun args r h=> ?_)
 unfold tQSub tQ2 at h
 split at h
 ·rename_i b n d c m e
  simp only [Option.some.injEq,Prod.mk.injEq,Bool.and_eq_true] at h
  obtain ⟨⟨h1,h2⟩,rfl⟩:=h
  have hcall:=qsub_tree sq0 b c n d m e
  simp only [qv_not] at hcall
  rw [h1,h2,← Rat.sub_eq_add_neg] at hcall
  exact hcall
 ·cases h
theorem fl_val (b:Bool) (n d:ByteArray):zq (sg0.val b n) (dn d)=sq0.fl (sq0.qv b n d):=by
 have h:sq0.fl (sq0.qv b n d)=(Rat.divInt (sg0.val b n) (dn d)).floor:=rfl
 rw [h,floor_fr _ (dn_pos d)]
 unfold zq
 rw [if_neg (dn_ne d)]
theorem eQFloor:Entry Tryz.prog 155 (tQFloor sg0 sq0):=by
 refine entry_of (E:= ⟨addC 68 (tOfF sq0) (addC 115 (tDiv sg0 xg0) noC),Kall,noL⟩) (u:=10) (d:=10) (((meets_none _).add eDiv).add eOfF) loops_none mixed (by kernel_rfl) (fun args r h=> ?_)
 unfold tQFloor tQ1 at h
 split at h
 ·rename_i b n d
  simp only [Option.some.injEq,Prod.mk.injEq] at h
  obtain ⟨h1,rfl⟩:=h
  obtain ⟨k1,k2,k3⟩:=ok_both h1
  have hcall:=qfloor_tree sg0 xg0 sq0 b n d
  simp only [val_fd,x_dq,fl_val] at hcall
  rw [h1,k1,k2] at hcall
  exact hcall
 ·cases h
theorem bs_floor (q:Rat):bs q.floor.natAbs≤bs q.num.natAbs+1:=by
 have h:=floor_fr q.num (d:=q.den) (by have:=q.den_pos;omega)
 rw [Rat.num_divInt_den] at h
 have h2:=bs_zq q.num q.den
 unfold zq at h2
 rw [if_neg (den_ne' q)] at h2
 rw [h]
 exact h2
theorem eQCeil:Entry Tryz.prog 122 (tQCeil sg0 sq0):=by
 refine entry_of (E:= ⟨addC 155 (tQFloor sg0 sq0) (addC 156 (tQNeg sq0) (addC 121 (tNeg sg0) noC)),Kall,noL⟩) (u:=10) (d:=10) ((((meets_none _).add eNeg).add eQNeg).add eQFloor) loops_none mixed (by kernel_rfl) (fun args r h=> ?_)
 unfold tQCeil tQ1 at h
 split at h
 ·rename_i b n d
  simp only [Option.some.injEq,Prod.mk.injEq] at h
  obtain ⟨h1,rfl⟩:=h
  obtain ⟨z1,z2⟩:=qok_out h1
  have hz:=szq_val b n d
  have hcall:=qceil_tree sg0 xg0 sq0 b n d
  have hfl:∀ q,sq0.fl q=q.floor:=fun q=>rfl
  have hcl:sq0.cl (sq0.qv b n d)=(sq0.qv b n d).ceil:=rfl
  simp only [qv_rat,val_ms,hfl] at hcall
  rw [hcl,Rat.ceil_eq_neg_floor_neg]
  generalize sq0.qv b n d=q at*
  have e1:=bs_floor (-q)
  have e2:=szq_neg q
  have e3:bs (-q).num.natAbs≤szq (-q):=Nat.le_max_left _ _
  rw [h1,ok_rat (q:= -q) (by omega),ok_ms (z:=(-q).floor) (by omega)] at hcall
  exact hcall
 ·cases h
end
end Go.Proofs.YtamcpiicmfielaaGreat.L
