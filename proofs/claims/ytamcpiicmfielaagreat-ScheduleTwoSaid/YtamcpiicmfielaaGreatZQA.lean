import Derived.Test.YtamcpiicmfielaaGreatZMD
set_option linter.unusedVariables false
set_option linter.unusedSimpArgs false
namespace Go.Proofs.YtamcpiicmfielaaGreat.L
open Go Go.V Go.RowKit Go.Proofs.YtamcpiicmfielaaGreat.Sp
open Go.Proofs (Tryz.prog)
noncomputable section
structure Qg where
 qv:Bool→ByteArray→ByteArray→Rat
 qn:Rat→Bool
 qs:Rat→ByteArray
 qd:Rat→ByteArray
 ok:ByteArray→ByteArray→Bool
 fd:ByteArray→ByteArray
 fr:Int→Int→Rat
 cq:Rat→Rat→Int
 sq:Rat→Int
 ms:ByteArray→ByteArray→Bool
 mn:Bool→ByteArray→ByteArray→Int
 md:ByteArray→ByteArray→Int
 ck:Bool→ByteArray→ByteArray→Int
 nu:Rat→Int
 de:Rat→Int
 qe:Rat→Int
 fl:Rat→Int
 cl:Rat→Int
 aV:ByteArray→ByteArray→Bool
 sp:Rat→Rat→Rat
 se:Rat→Rat→Int
def Qg.rat (G:Qg) (q:Rat):AV:= .agg [.val (.bool (G.qn q)), .val (.string (G.qs q)), .val (.string (G.qd q))]
abbrev TF:Type:=List AV→Option (Bool×AV)
def wH (G:Qg):TF:=fun args=>match args with | [.agg [.val (.bool b), .val (.string n), .val (.string d)]]=>some (G.ok n d, .agg [.val (.bool b), .val (.string n), .val (.bool false), .val (.string (G.fd d))]) | _=>none
def GJ (S:Sg) (G:Qg):TF:=fun args=>match args with | [.agg [.val (.bool b), .val (.string s), .val (.bool c), .val (.string t)]]=>some (S.ok s&&S.ok t&&decide (0 < S.val c t),G.rat (G.fr (S.val b s) (S.val c t))) | _=>none
def qJ (G:Qg):TF:=fun args=>match args with | [.agg [.val (.bool b), .val (.string n), .val (.string d)]]=>some (true, .tup [.val (.int .i64 (G.mn b n d)), .val (.int .i64 (G.md n d)), .val (.bool (G.ms n d))]) | _=>none
def j7 (z:Int):Bool:=decide (-72057594037927936 < z)&&decide (z < 72057594037927936)
def qM (G:Qg):TF:=fun args=>match args with | [.val (.int .i64 n), .val (.int .i64 d)]=>some (j7 n&&j7 d&&decide (0 < d),G.rat (G.fr n d)) | _=>none
def AB (S:Sg):TF:=fun args=>match args with | [.val (.int .i64 n)]=>some (decide (0≤n)&&decide (n≤9223372036854775807), .val (.string (S.mg n.toNat))) | _=>none
def qI (S:Sg):TF:=fun args=>match args with | [.val (.string s)]=>some (decide (s.size≤3), .val (.int .i64 (S.vs s))) | _=>none
def GM (G:Qg):TF:=fun args=>match args with | [.val (.int .i64 z)]=>some (cW z,G.rat (G.fr z 1)) | _=>none
def GO (X:Xg) (G:Qg):TF:=fun args=>match args with | [.val (.int .i64 n), .val (.int .i64 d)]=>some (cW n&&cW d, .tup [G.rat (G.fr n d), .val (.int .i64 (X.de d))]) | _=>none
def qL (S:Sg) (X:Xg) (G:Qg):TF:=fun args=>match args with | [.agg [.val (.bool b), .val (.string s)], .agg [.val (.bool c), .val (.string t)]]=>some (S.ok s&&S.ok t, .tup [G.rat (G.fr (S.val b s) (S.val c t)), .val (.int .i64 (X.de (S.val c t)))]) | _=>none
def mA (G:Qg) (f:Bool→ByteArray→ByteArray→AV):TF:=fun args=>match args with | [.agg [.val (.bool b), .val (.string n), .val (.string d)]]=>some (G.ok n d,f b n d) | _=>none
def mB (G:Qg) (f:Rat→Rat→AV):TF:=fun args=>match args with | [.agg [.val (.bool b), .val (.string n), .val (.string d)], .agg [.val (.bool c), .val (.string m), .val (.string e)]]=>some (G.ok n d&&G.ok m e,f (G.qv b n d) (G.qv c m e)) | _=>none
def sR (G:Qg):TF:=mA G fun b n d=> .val (.int .i64 (G.ck b n d))
def Ar (G:Qg):TF:=mA G fun b n d=>G.rat (-(G.qv b n d))
def GP (G:Qg):TF:=mA G fun b n d=> .val (.int .i64 (G.sq (G.qv b n d)))
def Aq (S:Sg) (G:Qg):TF:=mA G fun b n d=>S.int (G.fl (G.qv b n d))
def GK (S:Sg) (G:Qg):TF:=mA G fun b n d=>S.int (G.cl (G.qv b n d))
def wI (G:Qg):TF:=mB G fun x y=>G.rat (x+y)
def GQ (G:Qg):TF:=mB G fun x y=>G.rat (x - y)
def GL (G:Qg):TF:=mB G fun x y=>G.rat (x*y)
def GN (G:Qg):TF:=mB G fun x y=> .tup [G.rat (x / y), .val (.int .i64 (G.qe y))]
def qK (G:Qg):TF:=mB G fun x y=> .val (.int .i64 (G.cq x y))
end
end Go.Proofs.YtamcpiicmfielaaGreat.L
namespace Go.Proofs.YtamcpiicmfielaaGreat.L
open Go Go.V Go.RowKit Go.Proofs.YtamcpiicmfielaaGreat.Sp
open Go.Proofs (Tryz.prog)
noncomputable section
def o6 (S:Sg):FuncId→TF:=aw 64 (oT S) (aw 69 (kW S) aK)
theorem abV (S:Sg) (b:Bool) (n d:ByteArray):aF Tryz.prog ⟨o6 S,au,aq⟩ 10 10 68 [.agg [.val (.bool b), .val (.string n), .val (.string d)]]=
  (bif S.ok d&&S.ok (S.ms (0:Int)) then (bif decide (S.fT (S.val false d) (S.val (S.ng (0:Int)) (S.ms (0:Int)))=0) then some (.agg [(.val (.bool b)),(.val (.string n)),(.val (.bool (S.ng (1:Int)))),(.val (.string (S.ms (1:Int))))]) else some (.agg [(.val (.bool b)),(.val (.string n)),(.val (.bool false)),(.val (.string d))])) else none):=by kernel_rfl
def A0 (S:Sg) (X:Xg):FuncId→TF:=aw 114 (Am S X) (aw 115 (sM S X) (o6 S))
theorem abR (S:Sg) (X:Xg) (b c:Bool) (s t:ByteArray):letI I:=(X.gcd (S.val b s) (S.val c t));letI G:=(S.val (S.ng I) (S.ms I));
  (aF Tryz.prog ⟨A0 S X,au,aq⟩ 10 10 70 [.agg [.val (.bool b), .val (.string s), .val (.bool c), .val (.string t)]]=(bif S.ok s&&S.ok (S.ms (0:Int)) then (bif decide (S.fT (S.val b s) (S.val (S.ng (0:Int)) (S.ms (0:Int)))=0) then some (.agg [(.val (.bool false)),(.val (.string (ByteArray.mk #[]))),(.val (.string (ByteArray.mk #[])))]) else (bif S.ok s&&S.ok t then (bif S.ok s&&S.ok (S.ms I) then (bif S.ok t&&S.ok (S.ms I) then (bif S.ok (S.ms (X.dq (S.val c t) G))&&S.ok (S.ms (1:Int)) then (bif !decide (S.fT (S.val (S.ng (X.dq (S.val c t) G)) (S.ms (X.dq (S.val c t) G))) (S.val (S.ng (1:Int)) (S.ms (1:Int)))=0) then some (.agg [(.val (.bool (S.ng (X.dq (S.val b s) G)))),(.val (.string (S.ms (X.dq (S.val b s) G)))),(.val (.string (S.ms (X.dq (S.val c t) G))))]) else some (.agg [(.val (.bool (S.ng (X.dq (S.val b s) G)))),(.val (.string (S.ms (X.dq (S.val b s) G)))),(.val (.string (ByteArray.mk #[])))])) else none) else none) else none) else none)) else none)):=by kernel_rfl
def Iv (S:Sg):FuncId→TF:=aw 138 (qI S) aK
theorem abh (S:Sg) (b:Bool) (n d:ByteArray):aF Tryz.prog ⟨Iv S,au,aq⟩ 10 10 105 [.agg [.val (.bool b), .val (.string n), .val (.string d)]]=
  (bif decide (3 < (↑n.size:Int)) then some (.tup [(.val (.int .i64 0)),(.val (.int .i64 0)),(.val (.bool false))]) else (bif decide (3 < (↑d.size:Int)) then some (.tup [(.val (.int .i64 0)),(.val (.int .i64 0)),(.val (.bool false))]) else (bif decide (n.size≤3) then (bif decide (d.size≤3) then (bif b then some (.tup [(.val (.int .i64 (IntKind.i64.wrap (0 - (↑(S.vs n):Int))))),(.val (.int .i64 (lq (↑(S.vs d):Int) (1:Int)))),(.val (.bool true))]) else some (.tup [(.val (.int .i64 ((↑(S.vs n):Int)))),(.val (.int .i64 (lq (↑(S.vs d):Int) (1:Int)))),(.val (.bool true))])) else none) else none))):=by kernel_rfl
def jE (S:Sg) (X:Xg) (G:Qg):FuncId→TF:=aw 70 (GJ S G) (aw 68 (wH G) (aw 121 (lH S) (o6 S)))
theorem acU (S:Sg) (X:Xg) (G:Qg) (z:Int):aF Tryz.prog ⟨jE S X G,au,aq⟩ 10 10 28 [.val (.int .i64 z)]=
  (bif cW z then (bif S.ok (S.ms z)&&S.ok (S.ms (1:Int))&&decide (0 < S.val (S.ng (1:Int)) (S.ms (1:Int))) then some (.agg [(.val (.bool (G.qn (G.fr (S.val (S.ng z) (S.ms z)) (S.val (S.ng (1:Int)) (S.ms (1:Int))))))),(.val (.string (G.qs (G.fr (S.val (S.ng z) (S.ms z)) (S.val (S.ng (1:Int)) (S.ms (1:Int))))))),(.val (.string (G.qd (G.fr (S.val (S.ng z) (S.ms z)) (S.val (S.ng (1:Int)) (S.ms (1:Int)))))))]) else none) else none):=by kernel_rfl
theorem acT (S:Sg) (X:Xg) (G:Qg) (b c:Bool) (s t:ByteArray):letI I:=(G.fr (S.val (S.ng (-S.val b s)) (S.ms (-S.val b s))) (S.val (S.ng (-S.val c t)) (S.ms (-S.val c t))));
  (aF Tryz.prog ⟨jE S X G,au,aq⟩ 10 10 84 [.agg [.val (.bool b), .val (.string s)], .agg [.val (.bool c), .val (.string t)]]=(bif S.ok t&&S.ok (ByteArray.mk #[]) then (bif decide (S.fT (S.val c t) (S.val false (ByteArray.mk #[]))=0) then some (.tup [(.agg [(.val (.bool false)),(.val (.string (ByteArray.mk #[]))),(.val (.string (ByteArray.mk #[])))]),(.val (.int .i64 10))]) else (bif decide (S.fT (S.val c t) (S.val false (ByteArray.mk #[]))=(-1:Int)) then (bif S.ok s then (bif S.ok t then (bif S.ok (S.ms (-S.val b s))&&S.ok (S.ms (-S.val c t))&&decide (0 < S.val (S.ng (-S.val c t)) (S.ms (-S.val c t))) then some (.tup [(.agg [(.val (.bool (G.qn I))),(.val (.string (G.qs I))),(.val (.string (G.qd I)))]),(.val (.int .i64 0))]) else none) else none) else none) else (bif S.ok s&&S.ok t&&decide (0 < S.val c t) then some (.tup [(.agg [(.val (.bool (G.qn (G.fr (S.val b s) (S.val c t))))),(.val (.string (G.qs (G.fr (S.val b s) (S.val c t))))),(.val (.string (G.qd (G.fr (S.val b s) (S.val c t)))))]),(.val (.int .i64 0))]) else none))) else none)):=by kernel_rfl
theorem acW (S:Sg) (X:Xg) (G:Qg) (n d:Int):aF Tryz.prog ⟨aw 84 (qL S X G) (o6 S),au,aq⟩ 10 10 87 [.val (.int .i64 n), .val (.int .i64 d)]=
  (bif cW n then (bif cW d then (bif S.ok (S.ms n)&&S.ok (S.ms d) then some (.tup [(.agg [(.val (.bool (G.qn (G.fr (S.val (S.ng n) (S.ms n)) (S.val (S.ng d) (S.ms d)))))),(.val (.string (G.qs (G.fr (S.val (S.ng n) (S.ms n)) (S.val (S.ng d) (S.ms d)))))),(.val (.string (G.qd (G.fr (S.val (S.ng n) (S.ms n)) (S.val (S.ng d) (S.ms d))))))]),(.val (.int .i64 (X.de (S.val (S.ng d) (S.ms d)))))]) else none) else none) else none):=by kernel_rfl
theorem acL (S:Sg) (X:Xg) (G:Qg) (b:Bool) (n d:ByteArray):aF Tryz.prog ⟨jE S X G,au,aq⟩ 10 10 49 [.agg [.val (.bool b), .val (.string n), .val (.string d)]]=
  (bif G.ok n d then (bif S.ok n&&S.ok (G.fd d)&&decide (0 < S.val false (G.fd d)) then (bif bif true then !(b==G.qn (G.fr (S.val b n) (S.val false (G.fd d)))&&(aG n (G.qs (G.fr (S.val b n) (S.val false (G.fd d))))&&(aG d (G.qd (G.fr (S.val b n) (S.val false (G.fd d))))&&true))) else b==G.qn (G.fr (S.val b n) (S.val false (G.fd d)))&&(aG n (G.qs (G.fr (S.val b n) (S.val false (G.fd d))))&&(aG d (G.qd (G.fr (S.val b n) (S.val false (G.fd d))))&&true)) then some (.val (.int .i64 1)) else some (.val (.int .i64 0))) else none) else none):=by kernel_rfl
theorem acS (S:Sg) (X:Xg) (G:Qg) (b:Bool) (n d:ByteArray):aF Tryz.prog ⟨jE S X G,au,aq⟩ 10 10 156 [.agg [.val (.bool b), .val (.string n), .val (.string d)]]=
  (bif G.ok n d then (bif S.ok n&&S.ok (G.fd d)&&decide (0 < S.val false (G.fd d)) then some (.agg [(.val (.bool (G.qn (G.fr (S.val (!b) n) (S.val false (G.fd d)))))),(.val (.string (G.qs (G.fr (S.val (!b) n) (S.val false (G.fd d)))))),(.val (.string (G.qd (G.fr (S.val (!b) n) (S.val false (G.fd d))))))]) else none) else none):=by kernel_rfl
theorem acY (S:Sg) (X:Xg) (G:Qg) (b:Bool) (n d:ByteArray):aF Tryz.prog ⟨jE S X G,au,aq⟩ 10 10 27 [.agg [.val (.bool b), .val (.string n), .val (.string d)]]=
  (bif G.ok n d then (bif S.ok n&&S.ok (ByteArray.mk #[]) then some (.val (.int .i64 (S.fT (S.val b n) (S.val false (ByteArray.mk #[]))))) else none) else none):=by kernel_rfl
def jD (S:Sg) (X:Xg) (G:Qg):FuncId→TF:=aw 105 (qJ G) (aw 73 (qM G) (aw 65 (sQ S) (aw 75 (kV S) (jE S X G))))
theorem acI (S:Sg) (X:Xg) (G:Qg) (b c:Bool) (n d m e:ByteArray):letI O:=(S.val (S.ng (S.val b n*S.val false (G.fd e))) (S.ms (S.val b n*S.val false (G.fd e)))+S.val (S.ng (S.val c m*S.val false (G.fd d))) (S.ms (S.val c m*S.val false (G.fd d))));letI J:=(S.val false (G.fd d)*S.val false (G.fd e));letI M:=(G.fr (S.val (S.ng O) (S.ms O)) (S.val (S.ng J) (S.ms J)));letI U:Option AV:=(bif G.ok n d then (bif G.ok m e then (bif S.ok n&&S.ok (G.fd e) then (bif S.ok m&&S.ok (G.fd d) then (bif S.ok (S.ms (S.val b n*S.val false (G.fd e)))&&S.ok (S.ms (S.val c m*S.val false (G.fd d))) then (bif S.ok (G.fd d)&&S.ok (G.fd e) then (bif S.ok (S.ms O)&&S.ok (S.ms J)&&decide (0 < S.val (S.ng J) (S.ms J)) then some (.agg [(.val (.bool (G.qn M))),(.val (.string (G.qs M))),(.val (.string (G.qd M)))]) else none) else none) else none) else none) else none) else none) else none);letI I:=(G.mn b n d*G.md m e+G.mn c m e*G.md n d);
  (aF Tryz.prog ⟨jD S X G,au,aq⟩ 10 10 29 [.agg [.val (.bool b), .val (.string n), .val (.string d)], .agg [.val (.bool c), .val (.string m), .val (.string e)]]=(bif G.ms n d then (bif G.ms m e then (bif ai IntKind.i64 (G.mn b n d*G.md m e) then (bif ai IntKind.i64 (G.mn c m e*G.md n d) then (bif ai IntKind.i64 I then (bif ai IntKind.i64 (G.md n d*G.md m e) then (bif j7 I&&j7 (G.md n d*G.md m e)&&decide (0 < G.md n d*G.md m e) then some (.agg [(.val (.bool (G.qn (G.fr I (G.md n d*G.md m e))))),(.val (.string (G.qs (G.fr I (G.md n d*G.md m e))))),(.val (.string (G.qd (G.fr I (G.md n d*G.md m e)))))]) else none) else none) else none) else none) else none) else U) else U)):=by kernel_rfl
theorem acQ (S:Sg) (X:Xg) (G:Qg) (b c:Bool) (n d m e:ByteArray):letI I:=(S.val false (G.fd d)*S.val false (G.fd e));letI J:=(G.fr (S.val (S.ng (S.val b n*S.val c m)) (S.ms (S.val b n*S.val c m))) (S.val (S.ng I) (S.ms I)));letI O:Option AV:=(bif G.ok n d then (bif G.ok m e then (bif S.ok n&&S.ok m then (bif S.ok (G.fd d)&&S.ok (G.fd e) then (bif S.ok (S.ms (S.val b n*S.val c m))&&S.ok (S.ms I)&&decide (0 < S.val (S.ng I) (S.ms I)) then some (.agg [(.val (.bool (G.qn J))),(.val (.string (G.qs J))),(.val (.string (G.qd J)))]) else none) else none) else none) else none) else none);letI M:=(G.fr (G.mn b n d*G.mn c m e) (G.md n d*G.md m e));
  (aF Tryz.prog ⟨jD S X G,au,aq⟩ 10 10 30 [.agg [.val (.bool b), .val (.string n), .val (.string d)], .agg [.val (.bool c), .val (.string m), .val (.string e)]]=(bif G.ms n d then (bif G.ms m e then (bif ai IntKind.i64 (G.mn b n d*G.mn c m e) then (bif ai IntKind.i64 (G.md n d*G.md m e) then (bif j7 (G.mn b n d*G.mn c m e)&&j7 (G.md n d*G.md m e)&&decide (0 < G.md n d*G.md m e) then some (.agg [(.val (.bool (G.qn M))),(.val (.string (G.qs M))),(.val (.string (G.qd M)))]) else none) else none) else none) else O) else O)):=by kernel_rfl
theorem acM (S:Sg) (X:Xg) (G:Qg) (b c:Bool) (n d m e:ByteArray):letI I:Option AV:=(bif G.ok n d then (bif G.ok m e then (bif S.ok n&&S.ok (G.fd e) then (bif S.ok m&&S.ok (G.fd d) then (bif S.ok (S.ms (S.val b n*S.val false (G.fd e)))&&S.ok (S.ms (S.val c m*S.val false (G.fd d))) then some (.val (.int .i64 (S.fT (S.val (S.ng (S.val b n*S.val false (G.fd e))) (S.ms (S.val b n*S.val false (G.fd e)))) (S.val (S.ng (S.val c m*S.val false (G.fd d))) (S.ms (S.val c m*S.val false (G.fd d))))))) else none) else none) else none) else none) else none);
  (aF Tryz.prog ⟨jD S X G,au,aq⟩ 10 10 23 [.agg [.val (.bool b), .val (.string n), .val (.string d)], .agg [.val (.bool c), .val (.string m), .val (.string e)]]=(bif G.ms n d then (bif G.ms m e then (bif ai IntKind.i64 (G.mn b n d*G.md m e) then (bif ai IntKind.i64 (G.mn c m e*G.md n d) then (bif decide (G.mn b n d*G.md m e < G.mn c m e*G.md n d) then some (.val (.int .i64 (-1))) else (bif decide (G.mn c m e*G.md n d < G.mn b n d*G.md m e) then some (.val (.int .i64 1)) else some (.val (.int .i64 0)))) else none) else none) else I) else I)):=by kernel_rfl
theorem acV (S:Sg) (X:Xg) (G:Qg) (b c:Bool) (n d m e:ByteArray):aF Tryz.prog ⟨aw 84 (qL S X G) (jD S X G),au,aq⟩ 10 10 42 [.agg [.val (.bool b), .val (.string n), .val (.string d)], .agg [.val (.bool c), .val (.string m), .val (.string e)]]=
  (bif G.ok n d then (bif G.ok m e then (bif S.ok n&&S.ok (G.fd e) then (bif S.ok (G.fd d)&&S.ok m then (bif S.ok (S.ms (S.val b n*S.val false (G.fd e)))&&S.ok (S.ms (S.val false (G.fd d)*S.val c m)) then some (.tup [(.agg [(.val (.bool (G.qn (G.fr (S.val (S.ng (S.val b n*S.val false (G.fd e))) (S.ms (S.val b n*S.val false (G.fd e)))) (S.val (S.ng (S.val false (G.fd d)*S.val c m)) (S.ms (S.val false (G.fd d)*S.val c m))))))),(.val (.string (G.qs (G.fr (S.val (S.ng (S.val b n*S.val false (G.fd e))) (S.ms (S.val b n*S.val false (G.fd e)))) (S.val (S.ng (S.val false (G.fd d)*S.val c m)) (S.ms (S.val false (G.fd d)*S.val c m))))))),(.val (.string (G.qd (G.fr (S.val (S.ng (S.val b n*S.val false (G.fd e))) (S.ms (S.val b n*S.val false (G.fd e)))) (S.val (S.ng (S.val false (G.fd d)*S.val c m)) (S.ms (S.val false (G.fd d)*S.val c m)))))))]),(.val (.int .i64 (X.de (S.val (S.ng (S.val false (G.fd d)*S.val c m)) (S.ms (S.val false (G.fd d)*S.val c m))))))]) else none) else none) else none) else none) else none):=by kernel_rfl
theorem acZ (G:Qg) (b c:Bool) (n d m e:ByteArray):aF Tryz.prog ⟨aw 29 (wI G) aK,au,aq⟩ 10 10 31 [.agg [.val (.bool b), .val (.string n), .val (.string d)], .agg [.val (.bool c), .val (.string m), .val (.string e)]]=
  (bif G.ok n d&&G.ok m e then some (.agg [(.val (.bool (G.qn (G.qv b n d+G.qv (!c) m e)))),(.val (.string (G.qs (G.qv b n d+G.qv (!c) m e)))),(.val (.string (G.qd (G.qv b n d+G.qv (!c) m e))))]) else none):=by kernel_rfl
theorem acP (S:Sg) (X:Xg) (G:Qg) (b:Bool) (n d:ByteArray):aF Tryz.prog ⟨aw 68 (wH G) (aw 115 (sM S X) aK),au,aq⟩ 10 10 155 [.agg [.val (.bool b), .val (.string n), .val (.string d)]]=
  (bif G.ok n d then (bif S.ok n&&S.ok (G.fd d) then some (.agg [(.val (.bool (S.ng (X.dq (S.val b n) (S.val false (G.fd d)))))),(.val (.string (S.ms (X.dq (S.val b n) (S.val false (G.fd d))))))]) else none) else none):=by kernel_rfl
theorem acK (S:Sg) (X:Xg) (G:Qg) (b:Bool) (n d:ByteArray):aF Tryz.prog ⟨aw 155 (Aq S G) (aw 156 (Ar G) (aw 121 (lH S) aK)),au,aq⟩ 10 10 122 [.agg [.val (.bool b), .val (.string n), .val (.string d)]]=
  (bif G.ok n d then (bif G.ok (G.qs (-G.qv b n d)) (G.qd (-G.qv b n d)) then (bif S.ok (S.ms (G.fl (G.qv (G.qn (-G.qv b n d)) (G.qs (-G.qv b n d)) (G.qd (-G.qv b n d))))) then some (.agg [(.val (.bool (S.ng (-S.val (S.ng (G.fl (G.qv (G.qn (-G.qv b n d)) (G.qs (-G.qv b n d)) (G.qd (-G.qv b n d))))) (S.ms (G.fl (G.qv (G.qn (-G.qv b n d)) (G.qs (-G.qv b n d)) (G.qd (-G.qv b n d))))))))),(.val (.string (S.ms (-S.val (S.ng (G.fl (G.qv (G.qn (-G.qv b n d)) (G.qs (-G.qv b n d)) (G.qd (-G.qv b n d))))) (S.ms (G.fl (G.qv (G.qn (-G.qv b n d)) (G.qs (-G.qv b n d)) (G.qd (-G.qv b n d)))))))))]) else none) else none) else none):=by kernel_rfl
end
end Go.Proofs.YtamcpiicmfielaaGreat.L
namespace Go.Proofs.YtamcpiicmfielaaGreat.L
open Go Go.V Go.RowKit Go.Proofs.YtamcpiicmfielaaGreat.Sp Go.Proofs.YtamcpiicmfielaaGreat.F
open Go.Proofs (Tryz.prog)
noncomputable section
def dn (d:ByteArray):Int:=if vS d=0 then 1 else (vS d:Int)
def uw (d:ByteArray):ByteArray:=if vS d=0 then aA 1 else d
def PS:Nat→Rat→Rat→Rat
 | 0,_,_=>0
 | n+1,a,b=>if (a.ceil:Rat)≤b then (a.ceil:Rat) else ((a.ceil - 1:Int):Rat)+1 / PS n (1 / (b - ((a.ceil - 1:Int):Rat))) (1 / (a - ((a.ceil - 1:Int):Rat)))
def PR (a b:Rat):Rat:=PS (a.den+b.den) a b
def aeJ (x y:Rat):Rat:=if y < x then 0 else if x≤0∧0≤y then 0 else if y < 0 then -(PR (-y) (-x)) else PR x y
def ji (b:Bool) (n d:ByteArray):Rat:=Rat.divInt (Sp.val b n) (dn d)
def wb (q:Rat):Bool:=(enc q.num).1
def zN (q:Rat):ByteArray:=(enc q.num).2
def lD (q:Rat):ByteArray:=if q.den=1 then ByteArray.mk #[] else aA q.den
def iG (a b:Rat):Int:=if a < b then -1 else if b < a then 1 else 0
def gM (n d:ByteArray):Bool:=decide (n.size≤3)&&decide (d.size≤3)
def af:Qg where
 qv:=ji
 qn:=wb
 qs:=zN
 qd:=lD
 ok n d:=decide (n.size≤1099511627776)&&decide (d.size≤1099511627776)
 fd:=uw
 fr:=Rat.divInt
 cq:=iG
 sq a:=iG a 0
 ms:=gM
 mn b n d:=bif gM n d then Sp.val b n else 0
 md n d:=bif gM n d then dn d else 0
 ck b n d:=bif (b==wb (ji b n d))&&aG n (zN (ji b n d))&&aG d (lD (ji b n d)) then 0 else 1
 nu q:=q.num
 de q:=q.den
 qe q:=if q=0 then 10 else 0
 fl q:=q.floor
 cl q:=q.ceil
 aV n d:=decide (n.size≤1073741824)&&decide (d.size≤1073741824)
 sp:=aeJ
 se x y:=if y < x then 8 else 0
theorem fU (d:ByteArray):0 < dn d:=by unfold dn;grind
theorem yn (d:ByteArray):dn d≠0:=by have:=fU d;omega
theorem ahq:aa.vs (aA 1)=1:=jC 1
theorem mD (d:ByteArray):aa.val false (af.fd d)=dn d:=by
 show ((aa.vs (uw d):Nat):Int)=dn d
 unfold uw dn
 split
 ·rw [ahq];rfl
 ·rfl
theorem xD:bs 1≤1:=iC (by decide)
theorem KK:bs 0=0:=Nat.le_zero.1 (iC (n:=0) (m:=0) (by decide))
theorem aeL (d:ByteArray):(af.fd d).size≤max d.size 1:=by
 show (uw d).size≤_
 unfold uw
 split
 ·have:(aA 1).size=bs 1:=lF 1
  have:=xD
  omega
 ·omega
theorem rf (d:ByteArray):bs (dn d).natAbs≤max d.size 1:=by
 unfold dn
 split
 ·have:=xD
  grind
 ·rw [Int.natAbs_natCast]
  have:=pt d
  have h:bs (vS d)≤d.size:=this
  omega
theorem Xt (q:Rat):dn (lD q)=q.den:=by
 have G:=q.den_pos
 unfold dn lD
 by_cases h:q.den=1
 ·rw [if_pos h,if_pos (show vS (ByteArray.mk #[])=0 from rfl),h];rfl
 ·rw [if_neg h,jC,if_neg (by omega)]
theorem fK (q:Rat):af.qv (af.qn q) (af.qs q) (af.qd q)=q:=by
 show Rat.divInt (Sp.val (enc q.num).1 (enc q.num).2) (dn (lD q))=q
 rw [Rb,Xt,Rat.num_divInt_den]
theorem acR:af.qn 0=false:=rfl
theorem acX:af.qs 0=ByteArray.mk #[]:=lY
theorem acN:af.qd 0=ByteArray.mk #[]:=by show lD 0=_;unfold lD;simp_all
theorem we:af.rat 0= .agg [.val (.bool false), .val (.string (ByteArray.mk #[])), .val (.string (ByteArray.mk #[]))]:=by
 unfold Qg.rat;rw [acR,acX,acN]
theorem abN (b:Bool) (n:ByteArray):aa.val (!b) n= -aa.val b n:=Rc b n
theorem OQ (b:Bool) (n d:ByteArray):af.qv (!b) n d= -af.qv b n d:=by
 show Rat.divInt (aa.val (!b) n) (dn d)= -Rat.divInt (aa.val b n) (dn d)
 rw [abN,Rat.neg_divInt]
theorem ac8 (x y:Rat):(af.qn x==af.qn y&&(aG (af.qs x) (af.qs y)&&(aG (af.qd x) (af.qd y)&&true)))=decide (x=y):=by
 by_cases h:x=y
 ·subst h
  rw [beq_self_eq_true,lG,lG,decide_eq_true rfl];rfl
 ·rw [decide_eq_false h]
  rw [Bool.eq_false_iff]
  intro G
  simp only [Bool.and_eq_true,beq_iff_eq,oQ,decide_eq_true_eq] at G
  obtain ⟨I,J,M,_⟩:=G
  have O:=fK x
  rw [I,J,M,fK] at O
  grind
def cK (q:Rat):Nat:=max (bs q.num.natAbs) (bs q.den)
theorem FM (q:Rat):(af.qs q).size=bs q.num.natAbs:=lF _
theorem FL (q:Rat):(af.qd q).size≤bs q.den:=by
 show (lD q).size≤_
 unfold lD
 split
 ·exact Nat.zero_le _
 ·exact Nat.le_of_eq (lF _)
theorem rW {q:Rat} (h:cK q≤1099511627776):af.ok (af.qs q) (af.qd q)=true:=by
 unfold cK at h
 have G:=FM q
 have I:=FL q
 show (decide _&&decide _)=true
 grind
theorem zj {q:Rat} (h:cK q≤1073741824):af.aV (af.qs q) (af.qd q)=true:=by
 unfold cK at h
 have G:=FM q
 have I:=FL q
 show (decide _&&decide _)=true
 grind
theorem wc {n d:ByteArray} (h:af.ok n d=true):n.size≤1099511627776∧d.size≤1099511627776:=by
 have h:(decide _&&decide _)=true:=h
 grind
theorem zM {n d:ByteArray} (h:af.aV n d=true):n.size≤1073741824∧d.size≤1073741824:=by
 have h:(decide _&&decide _)=true:=h
 grind
theorem OO {n d:ByteArray} (G:n.size≤1099511627776) (I:d.size≤1099511627776):af.ok n d=true:=by
 show (decide _&&decide _)=true
 grind
theorem Ny (x y:Int):(Rat.divInt x y).num.natAbs≤x.natAbs:=by
 rw [Rat.num_divInt]
 refine Nat.le_trans (Int.natAbs_ediv_le_natAbs _ _) ?_
 grind
theorem Lm (x:Int) {y:Int} (G:y≠0):(Rat.divInt x y).den≤y.natAbs:=by
 rw [Rat.den_divInt,if_neg G]
 exact Nat.div_le_self _ _
theorem afQ (x:Int) {y:Int} (G:y≠0):cK (Rat.divInt x y)≤max (bs x.natAbs) (bs y.natAbs):=by
 have I:=dI (Ny x y)
 have J:=dI (Lm x G)
 unfold cK
 omega
theorem Gt (b:Bool) (n d:ByteArray):cK (af.qv b n d)≤max n.size (max d.size 1):=by
 have G:=afQ (aa.val b n) (yn d)
 have I:=dK b n
 have J:=rf d
 have M:cK (af.qv b n d)≤_:=G
 omega
theorem abA {a b:Int} (ha:a≠0) (hb:b≠0):a*b≠0:=Int.mul_ne_zero ha hb
theorem afS:cK 0≤1:=by
 unfold cK
 have h:bs 1≤1:=xD
 have G:bs 0=0:=KK
 simp_all
theorem afR (a:Rat):cK (-a)=cK a:=by
 unfold cK
 simp_all
theorem YL (x y:Int) {d e:Int} (G:d≠0) (I:e≠0):Rat.divInt x d+Rat.divInt y e=Rat.divInt (x*e+y*d) (d*e):=Rat.divInt_add_divInt _ _ G I
theorem L9 (x y d e:Int):Rat.divInt x d*Rat.divInt y e=Rat.divInt (x*y) (d*e):=Rat.divInt_mul_divInt _ _
theorem YM (x y d e:Int):Rat.divInt x d / Rat.divInt y e=Rat.divInt (x*e) (d*y):=by
 rw [Rat.div_def,Rat.inv_divInt,L9]
theorem YN {x d:Int} (G:d≠0):Rat.divInt x d=0↔x=0:=by
 rw [show (0:Rat)=Rat.divInt 0 1 from rfl,Rat.divInt_eq_divInt_iff G (by decide)]
 omega
theorem rG {x y d e:Int} (G:0 < d) (J:0 < e):Rat.divInt x d < Rat.divInt y e↔x*e < y*d:=by
 have I:(0:Rat) < (d:Rat):=Rat.intCast_pos.2 G
 have M:(0:Rat) < (e:Rat):=Rat.intCast_pos.2 J
 rw [Rat.divInt_eq_div,Rat.divInt_eq_div,Rat.div_lt_iff I,← Rat.intCast_lt_intCast,Rat.intCast_mul,Rat.intCast_mul]
 have h:(y:Rat) / (e:Rat)*(d:Rat)=(y:Rat)*(d:Rat) / (e:Rat):=by grind
 rw [h,Rat.lt_div_iff M]
theorem C1 (x y:Int) {d e:Int} (J:0 < d) (M:0 < e):iG (Rat.divInt x d) (Rat.divInt y e)=cR (x*e) (y*d):=by
 unfold iG cR
 by_cases G:x*e < y*d
 ·rw [if_pos G,if_pos ((rG J M).2 G)]
 ·rw [if_neg G,if_neg (fun h=>G ((rG J M).1 h))]
  by_cases I:y*d < x*e
  ·rw [if_pos I,if_pos ((rG M J).2 I)]
  ·rw [if_neg I,if_neg (fun h=>I ((rG M J).1 h))]
theorem aeS (x:Int) {d:Int} (G:0 < d):iG (Rat.divInt x d) 0=cR x 0:=by
 rw [show (0:Rat)=Rat.divInt 0 1 from rfl,C1 x 0 G (by decide),Int.mul_one,Int.zero_mul]
theorem L4 (x:Int) {d:Int} (G:0 < d):(Rat.divInt x d).floor=x.fdiv d:=by
 rw [Int.fdiv_eq_ediv_of_nonneg _ (by omega)]
 have I:((x / d:Int):Rat)≤Rat.divInt x d:=by
  rw [← Rat.not_lt,show ((x / d:Int):Rat)=Rat.divInt (x / d) 1 from by rw [Rat.divInt_eq_div];grind,rG G (by decide)]
  have:=Int.ediv_mul_le x (show d≠0 by omega)
  omega
 have J:Rat.divInt x d < ((x / d+1:Int):Rat):=by
  rw [show ((x / d+1:Int):Rat)=Rat.divInt (x / d+1) 1 from by rw [Rat.divInt_eq_div];grind,rG G (by decide)]
  have:=Int.lt_ediv_add_one_mul_self x G
  omega
 have M:=Rat.le_floor_iff.2 I
 have O:=Rat.floor_lt_iff.2 J
 omega
end
end Go.Proofs.YtamcpiicmfielaaGreat.L
namespace Go.Proofs.YtamcpiicmfielaaGreat.L
open Go Go.V Go.RowKit Go.Proofs.YtamcpiicmfielaaGreat.Sp Go.Proofs.YtamcpiicmfielaaGreat.F Go.Proofs.YtamcpiicmfielaaGreatW.PrintWords
open Go.Proofs (Tryz.prog)
noncomputable section
abbrev gx:List Bool:= [false,true,false,true,true]
def kQ (s:ByteArray) (v i:Int):List AV:=ar 19 [(0, .val (.string s)),(3, .val (.int .i64 v)),(4, .val (.int .i64 i))]
def jY (s:ByteArray) (v i:Int):Hp:= []
theorem TY:aH Tryz.prog 162 gx=some (.loop (lb 162 gx)):=by kernel_rfl
theorem VD:aH Tryz.prog 162 (false :: gx)=some (lb 162 gx):=by kernel_rfl
theorem Pk (s:ByteArray) (v i:Int):aO Tryz.prog br 162 [0,3,4] (lb 162 gx) (false :: gx) (kQ s v i) (jY s v i)=
  (bif decide (i < (↑s.size:Int)) then (bif ai IntKind.i64 (v*256) then (bif decide (0≤i)&&decide (i < (↑s.size:Int)) then (bif ai IntKind.i64 (aR s i.toNat) then (bif ai IntKind.i64 (i+1) then some (.normal,ar 19 [(0,(.val (.string s))),(3,(.val (.int .i64 (cm BinOp.or IntKind.i64 (v*256) (aR s i.toNat))))),(4,(.val (.int .i64 (i+1))))], []) else none) else none) else none) else none) else some ((.exit 0),ar 19 [(0,(.val (.string s))),(3,(.val (.int .i64 v))),(4,(.val (.int .i64 i)))], [])):=by kernel_rfl
theorem Qk {s:ByteArray} {v i:Int} {e:Ex} {T:List AV} {H:Hp} (h:aO Tryz.prog br 162 [0,3,4] (lb 162 gx) (false :: gx) (kQ s v i) (jY s v i)=some (e,T,H)):V.Ends Tryz.prog false 0 0 (lb 162 gx) (kQ s v i) (jY s v i) e T H:=
 bF (aJ _) aN mixed VD h
def vN (s:ByteArray) (v i:Int):Prop:=s.size≤8∧vS s < 9223372036854775808∧v=0∧i=0
def E3 (s:ByteArray) (v i:Int) (r:Int×Int):Prop:=r.1=(vS s:Nat)
theorem NQ (v b:Nat) (M:v*256+b < 9223372036854775808) (hb:b < 256):cm .or .i64 ((v:Int)*256) (b:Int)=((v*256+b:Nat):Int):=by
 have G:Go.bits .or .i64 ((v*256:Nat):Int) ((b:Nat):Int)=((v*256+b:Nat):Int):=by
  have:=bits_join .i64 63 (by decide) (fun n I J=>by rw [IntKind.wrap_i64];omega) 8 ((v*256:Nat):Int) ((b:Nat):Int) (by omega) (by omega) (by omega) (by omega) (by omega) (by omega)
  rw [this];omega
 rw [Int.natCast_mul] at G
 exact G
theorem Ib (l:List UInt8) (i:Nat):vB (l.take i)≤vB l:=by
 have:=Ia (l.take i) (l.drop i)
 rw [List.take_append_drop] at this
 rw [this]
 have h:=Nat.le_mul_of_pos_right (vB (l.take i)) (Nat.pow_pos (n:=(l.drop i).length) (by decide:0 < 256))
 omega
theorem aee (s:ByteArray) (ab:s.size≤8) (aE:vS s < 9223372036854775808) (d:Nat):∀ i:Nat,i+d=s.size→∃ r:Int×Int,av Tryz.prog (lb 162 gx) (kQ s (vB (s.data.toList.take i):Nat) i) (jY s (vB (s.data.toList.take i):Nat) i) (.exit 0) (kQ s r.1 r.2) (jY s r.1 r.2)∧r.1=(vS s:Nat):=by
 induction d with
 | zero=>
  intro i hi
  have O:i=s.size:=by omega
  subst O
  have e:s.data.toList.take s.size=s.data.toList:=List.take_of_length_le (by rw [Array.length_toList];exact Nat.le_refl _)
  refine ⟨((vB (s.data.toList.take s.size):Nat),(s.size:Int)), .last (Qk ?_) (by intro h;cases h),by rw [e];rfl⟩
  rw [Pk,dF (show ¬ ((s.size:Int) < s.size) by omega)]
  rfl
 | succ d Z=>
  intro i hi
  obtain ⟨r,J,M⟩:=Z (i+1) (by omega)
  refine ⟨r, .more (Qk ?_) J,M⟩
  rw [Pk]
  have hb:=lQ s i
  have U:=qP s i (by omega)
  have I:=Ib s.data.toList (i+1)
  have I:vB (s.data.toList.take (i+1))≤vS s:=I
  obtain ⟨c,G⟩:∃ c:Nat,aR s i=c:= ⟨(aR s i).toNat,by omega⟩
  rw [G] at hb U
  have e:vB (s.data.toList.take (i+1))=vB (s.data.toList.take i)*256+c:=by omega
  rw [Int.toNat_natCast,G,NQ _ _ (by omega) (by omega),aM (show -9223372036854775808≤((vB (s.data.toList.take i):Nat):Int)*256∧((vB (s.data.toList.take i):Nat):Int)*256≤9223372036854775807 by omega),aM (show -9223372036854775808≤(c:Int)∧(c:Int)≤9223372036854775807 by omega),aM (show -9223372036854775808≤(i:Int)+1∧(i:Int)+1≤9223372036854775807 by omega),dT (show (i:Int) < s.size by omega),dT (show (0:Int)≤(i:Int) by omega)]
  rw [e]
  rfl
theorem aa2 (s:ByteArray) (v i:Int) (h:vN s v i):∃ r:Int×Int,av Tryz.prog (lb 162 gx) (kQ s v i) (jY s v i) (.exit 0) (kQ s r.1 r.2) (jY s r.1 r.2)∧E3 s v i r:=by
 obtain ⟨G,I,rfl,rfl⟩:=h
 exact aee s G I s.size 0 (by omega)
def HK (I:ByteArray→Int→Int→Bool) (G:ByteArray→Int→Int→Int×Int) (T:List AV) (H:Hp):Option (Bool×Ex×List AV×Hp):=
 match al T 0,al T 3,al T 4,H with
 | .val (.string s), .val (.int .i64 v), .val (.int .i64 i), []=>bif T.length==19 then some (I s v i, .exit 0,kQ s ((G s v i).1) ((G s v i).2),jY s ((G s v i).1) ((G s v i).2)) else none
 | _,_,_,_=>none
abbrev BP:Type:=ByteArray→Int→Int→Bool
abbrev Bt:Type:=ByteArray→Int→Int→Int×Int
def Kc (G:BP) (I:Bt) (L:aC):aC:=bp 0 162 gx [0,3,4] (HK G I) L
def nw (s:ByteArray) (v i:Int):Int×Int:=Classical.epsilon fun ρ=>av Tryz.prog (lb 162 gx) (kQ s v i) (jY s v i) (.exit 0) (kQ s (ρ.1) (ρ.2)) (jY s (ρ.1) (ρ.2))∧E3 s v i ρ
theorem Oy (s:ByteArray) (v i:Int) (h:vN s v i):av Tryz.prog (lb 162 gx) (kQ s v i) (jY s v i) (.exit 0) (kQ s ((nw s v i).1) ((nw s v i).2)) (jY s ((nw s v i).1) ((nw s v i).2))∧E3 s v i (nw s v i):=Classical.epsilon_spec (aa2 s v i h)
def yc (s:ByteArray) (v i:Int):Bool:= @decide (vN s v i) (Classical.propDecidable _)
theorem WA (s:ByteArray) (v i:Int) (h:vN s v i):yc s v i=true:= @decide_eq_true _ (Classical.propDecidable _) h
theorem agE (T:List AV) (H:Hp) (e:Ex) (J:List AV) (I:Hp) (h:HK yc nw T H=some (true,e,J,I)):V.Ends Tryz.prog false 0 0 (.loop (lb 162 gx)) T H e J I:=by
 unfold HK at h
 split at h
 ·rename_i s v i U Z ab
  rw [Bool.cond_eq_ite] at h
  split at h
  ·rename_i M
   rw [beq_iff_eq] at M
   simp only [Option.some.injEq,Prod.mk.injEq,Bool.and_eq_true,decide_eq_true_eq] at h
   obtain ⟨k1,rfl,rfl,rfl⟩:=h
   have a1:= @of_decide_eq_true _ (Classical.propDecidable _) k1
   refine Ends.pre (Oy s v i a1).1.ends (fun α B w D a6 aE=>bq M (fun p O y G=> ?_) aE)
   simp only [List.mem_cons,List.not_mem_nil,or_false] at O
   rcases O with rfl | rfl | rfl
   ·rw [U] at G;exact G
   ·rw [Z] at G;exact G
   ·rw [ab] at G;exact G
  ·cases h
 ·cases h
theorem SB {L:aC} (h:aB Tryz.prog L):aB Tryz.prog (Kc yc nw L):=h.bz TY agE
def IL (G:BP) (I:Bt):Env:= ⟨aK,au,Kc G I aq⟩
theorem aed (G:BP) (I:Bt) (s:ByteArray):aF Tryz.prog (IL G I) 10 10 162 [.val (.string s)]=
  (bif G s (0:Int) (0:Int) then some (.val (.int .i64 ((I s (0:Int) (0:Int)).fst))) else none):=by kernel_rfl
def wL (S:Sg) (args:List AV):Option (Bool×AV):=match args with | [.val (.string s)]=>some (decide (s.size≤8)&&decide (S.vs s < 9223372036854775808), .val (.int .i64 (S.vs s))) | _=>none
theorem LC:Entry Tryz.prog 162 (wL aa):=by
 refine bg (E:=IL yc nw) (u:=10) (d:=10) (aJ _) (SB aB.none).ok mixed (by kernel_rfl) (fun args r h=> ?_)
 unfold wL at h
 split at h
 ·rename_i s
  simp only [Option.some.injEq,Prod.mk.injEq,Bool.and_eq_true,decide_eq_true_eq] at h
  obtain ⟨⟨J,M⟩,rfl⟩:=h
  have I:vN s 0 0:= ⟨J,M,rfl,rfl⟩
  have G:=(Oy _ _ _ I).2
  have G:(nw s 0 0).1=(vS s:Nat):=G
  rw [aed,WA _ _ _ I,G]
  rfl
 ·cases h
theorem aem (S:Sg) (b:Bool) (s:ByteArray):aF Tryz.prog ⟨aw 162 (wL S) aK,au,aq⟩ 10 10 131 [.agg [.val (.bool b), .val (.string s)]]=
  (bif b then (bif decide (s.size≤8)&&decide (S.vs s < 9223372036854775808) then some (.val (.int .i64 (IntKind.i64.wrap (0 - (↑(S.vs s):Int))))) else none) else (bif decide (s.size≤8)&&decide (S.vs s < 9223372036854775808) then some (.val (.int .i64 ((↑(S.vs s):Int)))) else none)):=by kernel_rfl
def Ay (S:Sg) (args:List AV):Option (Bool×AV):=match args with | [.agg [.val (.bool b), .val (.string s)]]=>some (decide (s.size≤8)&&decide (S.vs s < 9223372036854775808), .val (.int .i64 (S.val b s))) | _=>none
theorem LG:Entry Tryz.prog 131 (Ay aa):=by
 refine bg (E:= ⟨aw 162 (wL aa) aK,au,aq⟩) (u:=10) (d:=10) ((aJ _).add LC) aN mixed (by kernel_rfl) (fun args r h=> ?_)
 unfold Ay at h
 split at h
 ·rename_i b s
  simp only [Option.some.injEq,Prod.mk.injEq,Bool.and_eq_true,decide_eq_true_eq] at h
  obtain ⟨⟨G,I⟩,rfl⟩:=h
  rw [aem,dT G,dT I]
  have J:aa.val b s=if b=true then -(aa.vs s:Int) else (aa.vs s:Int):=rfl
  rw [J]
  cases b with
  | true=>
   have e:IntKind.i64.wrap (0 - ((aa.vs s:Nat):Int))= -((aa.vs s:Nat):Int):=by rw [IntKind.wrap_i64];omega
   rw [e]
   rfl
  | false=>rfl
 ·cases h
abbrev gq:List Bool:= [false,false,true,true,true,true]
def kP (n i:Int) (zs:List Int):List AV:=ar 26 [(0, .val (.int .i64 n)),(3, .ptr 0 0),(4, .val (.int .i64 i))]
def jX (n i:Int) (zs:List Int):Hp:= [.row (.ints .u8 zs) 158 .live]
theorem TU:aH Tryz.prog 159 gq=some (.loop (lb 159 gq)):=by kernel_rfl
theorem Vz:aH Tryz.prog 159 (false :: gq)=some (lb 159 gq):=by kernel_rfl
theorem FB (n i:Int) (zs:List Int):aO Tryz.prog br 159 [0,3,4] (lb 159 gq) (false :: gq) (kP n i zs) (jX n i zs)=
  (bif decide (0 < n) then (bif ai IntKind.i64 (i - 1) then (bif decide (0≤i - 1)&&decide (i - (1:Int) < (8:Int)) then (bif decide (0+(i - 1).toNat*1 < zs.length) then some (.normal,ar 26 [(0,(.val (.int .i64 (n.fdiv (256:Int))))),(3,(.ptr 0 0)),(4,(.val (.int .i64 (i - 1))))], [(.row (.ints .u8 (zs.set (0+(i - 1).toNat*1) (IntKind.u8.wrap n))) 158 .live)]) else none) else none) else none) else some ((.exit 0),ar 26 [(0,(.val (.int .i64 n))),(3,(.ptr 0 0)),(4,(.val (.int .i64 i)))], [(.row (.ints .u8 zs) 158 .live)])):=by kernel_rfl
theorem Gh {n i:Int} {zs:List Int} {e:Ex} {T:List AV} {H:Hp} (h:aO Tryz.prog br 159 [0,3,4] (lb 159 gq) (false :: gq) (kP n i zs) (jX n i zs)=some (e,T,H)):V.Ends Tryz.prog false 0 0 (lb 159 gq) (kP n i zs) (jX n i zs) e T H:=
 bF (aJ _) aN mixed Vz h
def vI (n i:Int) (zs:List Int):Prop:=0≤n∧n≤9223372036854775807∧i=8∧zs= [0,0,0,0,0,0,0,0]
def E0 (n i:Int) (zs:List Int) (r:Int×Int×List Int):Prop:=∃ k:Nat,r.2.1=k∧k≤8∧r.2.2.length=8∧(r.2.2.drop k).map (fun z=>UInt8.ofNat z.toNat)=toB n.toNat
theorem adL:∀ (k n:Nat) (zs:List Int) (l:List UInt8),zs.length=8→k≤8→n < 256 ^ k→(zs.drop k).map (fun z=>UInt8.ofNat z.toNat)=l→
  ∃ r:Int×Int×List Int,av Tryz.prog (lb 159 gq) (kP n k zs) (jX n k zs) (.exit 0) (kP r.1 r.2.1 r.2.2) (jX r.1 r.2.1 r.2.2)∧∃ j:Nat,r.2.1=j∧j≤8∧r.2.2.length=8∧(r.2.2.drop j).map (fun z=>UInt8.ofNat z.toNat)=toB n ++ l:=by
 intro k
 induction k with
 | zero=>
  intro n zs l I a6 J G
  have a7:n=0:=by simpa using J
  subst a7
  refine ⟨((0:Nat),(0:Nat),zs), .last (Gh ?_) (by intro h;cases h),0,rfl,by omega,I,by rw [toB_zero];exact G⟩
  rw [FB,dF (show ¬ ((0:Int) < ((0:Nat):Int)) by omega)]
  rfl
 | succ k bx=>
  intro n zs l I a6 J G
  by_cases M:n=0
  ·subst M
   refine ⟨((0:Nat),((k+1:Nat):Int),zs), .last (Gh ?_) (by intro h;cases h),k+1,rfl,by omega,I,by rw [toB_zero];exact G⟩
   rw [FB,dF (show ¬ ((0:Int) < ((0:Nat):Int)) by omega)]
   rfl
  ·have e1:((k+1:Nat):Int) - 1=(k:Int):=by omega
   have O:=FB n ((k+1:Nat):Int) zs
   obtain ⟨r,U,j,Z,ab,aE,a1⟩:=bx (n / 256) (zs.set k ((n % 256:Nat):Int)) (UInt8.ofNat n :: l) (by rw [List.length_set];exact I) (by omega) (by rw [Nat.div_lt_iff_lt_mul (by decide),← Nat.pow_succ];exact J) (by
    rw [List.drop_eq_getElem_cons (by rw [List.length_set];omega),List.getElem_set_self,List.drop_set_of_lt (by omega),List.map_cons,G,Int.toNat_natCast]
    refine congrArg (· :: l) ?_
    apply UInt8.toNat_inj.1
    rw [UInt8.toNat_ofNat',UInt8.toNat_ofNat']
    omega)
   refine ⟨r, .more (Gh ?_) U,j,Z,ab,aE,by rw [a1,toB_pos M,List.append_assoc];rfl⟩
   rw [e1,Int.toNat_natCast,Nat.zero_add,Nat.mul_one,bH k (by omega),dT (show (0:Int) < n by omega),dT (show (0:Int)≤(k:Int) by omega),dT (show (k:Int) < 8 by omega),dT (show k < zs.length by omega),show IntKind.u8.wrap (n:Int)=((n % 256:Nat):Int) from by rw [sV];rfl,show (n:Int).fdiv (256:Int)=((n / 256:Nat):Int) from iJ n 256] at O
   rw [O]
   rfl
theorem aaY (n i:Int) (zs:List Int) (h:vI n i zs):∃ r:Int×Int×List Int,av Tryz.prog (lb 159 gq) (kP n i zs) (jX n i zs) (.exit 0) (kP r.1 r.2.1 r.2.2) (jX r.1 r.2.1 r.2.2)∧E0 n i zs r:=by
 obtain ⟨G,U,rfl,rfl⟩:=h
 obtain ⟨n,rfl⟩:=Int.eq_ofNat_of_zero_le G
 obtain ⟨r,k1,j,I,J,M,O⟩:=adL 8 n [0,0,0,0,0,0,0,0] [] rfl (by omega) (by have:(256:Nat) ^ 8=18446744073709551616:=rfl;omega) rfl
 exact ⟨r,k1,j,I,J,M,by rw [O,List.append_nil];rfl⟩
def HG (I:Int→Int→List Int→Bool) (G:Int→Int→List Int→Int×Int×List Int) (T:List AV) (H:Hp):Option (Bool×Ex×List AV×Hp):=
 match al T 0,al T 3,al T 4,H with
 | .val (.int .i64 n), .ptr 0 0, .val (.int .i64 i), [.row (.ints .u8 zs) 158 .live]=>bif T.length==26 then some (I n i zs, .exit 0,kP ((G n i zs).1) ((G n i zs).2.1) ((G n i zs).2.2),jX ((G n i zs).1) ((G n i zs).2.1) ((G n i zs).2.2)) else none
 | _,_,_,_=>none
abbrev BL:Type:=Int→Int→List Int→Bool
abbrev Bp:Type:=Int→Int→List Int→Int×Int×List Int
def J8 (G:BL) (I:Bp) (L:aC):aC:=bp 0 159 gq [0,3,4] (HG G I) L
def kr (n i:Int) (zs:List Int):Int×Int×List Int:=Classical.epsilon fun ρ=>av Tryz.prog (lb 159 gq) (kP n i zs) (jX n i zs) (.exit 0) (kP (ρ.1) (ρ.2.1) (ρ.2.2)) (jX (ρ.1) (ρ.2.1) (ρ.2.2))∧E0 n i zs ρ
theorem Ou (n i:Int) (zs:List Int) (h:vI n i zs):av Tryz.prog (lb 159 gq) (kP n i zs) (jX n i zs) (.exit 0) (kP ((kr n i zs).1) ((kr n i zs).2.1) ((kr n i zs).2.2)) (jX ((kr n i zs).1) ((kr n i zs).2.1) ((kr n i zs).2.2))∧E0 n i zs (kr n i zs):=Classical.epsilon_spec (aaY n i zs h)
def tW (n i:Int) (zs:List Int):Bool:= @decide (vI n i zs) (Classical.propDecidable _)
theorem Ww (n i:Int) (zs:List Int) (h:vI n i zs):tW n i zs=true:= @decide_eq_true _ (Classical.propDecidable _) h
theorem agA (T:List AV) (H:Hp) (e:Ex) (J:List AV) (I:Hp) (h:HG tW kr T H=some (true,e,J,I)):V.Ends Tryz.prog false 0 0 (.loop (lb 159 gq)) T H e J I:=by
 unfold HG at h
 split at h
 ·rename_i n i zs U Z ab
  rw [Bool.cond_eq_ite] at h
  split at h
  ·rename_i M
   rw [beq_iff_eq] at M
   simp only [Option.some.injEq,Prod.mk.injEq,Bool.and_eq_true,decide_eq_true_eq] at h
   obtain ⟨k1,rfl,rfl,rfl⟩:=h
   have a1:= @of_decide_eq_true _ (Classical.propDecidable _) k1
   refine Ends.pre (Ou n i zs a1).1.ends (fun α B w D a6 aE=>bq M (fun p O y G=> ?_) aE)
   simp only [List.mem_cons,List.not_mem_nil,or_false] at O
   rcases O with rfl | rfl | rfl
   ·rw [U] at G;exact G
   ·rw [Z] at G;exact G
   ·rw [ab] at G;exact G
  ·cases h
 ·cases h
theorem Sw {L:aC} (h:aB Tryz.prog L):aB Tryz.prog (J8 tW kr L):=h.bz TU agA
def IJ (G:BL) (I:Bp):Env:= ⟨aK,au,J8 G I aq⟩
theorem adK (I:BL) (J:Bp) (z:Int):letI G:=(J z (8:Int) [(0:Int),(0:Int),(0:Int),(0:Int),(0:Int),(0:Int),(0:Int),(0:Int)]);
  (aF Tryz.prog (IJ I J) 10 10 159 [.val (.int .i64 z)]=(bif decide (z < 256) then (bif decide (z=0) then some (.val (.string (ByteArray.mk #[]))) else some (.val (.string (ofBytes [IntKind.u8.wrap z])))) else (bif I z (8:Int) [(0:Int),(0:Int),(0:Int),(0:Int),(0:Int),(0:Int),(0:Int),(0:Int)] then (bif decide (8≤G.snd.snd.length) then (bif decide (0≤G.snd.fst)&&decide (G.snd.fst≤8) then (bif decide (0+G.snd.fst.toNat*1+(8 - G.snd.fst.toNat)*1≤G.snd.snd.length) then some (.val (.string (ofBytes (List.take ((8 - G.snd.fst.toNat)*1) (List.drop (0+G.snd.fst.toNat*1) G.snd.snd))))) else none) else none) else none) else none))):=by kernel_rfl
theorem adT (S:Sg) (b:Bool) (s:ByteArray):aF Tryz.prog ⟨aw 130 (oS S) aK,au,aq⟩ 10 10 127 [.agg [.val (.bool b), .val (.string s)]]=
  (bif !S.ng (S.val b s) then some (.agg [(.val (.bool (!aG (S.ms (S.val b s)) (ByteArray.mk #[])))),(.val (.string (S.ms (S.val b s))))]) else some (.agg [(.val (.bool false)),(.val (.string (S.ms (S.val b s))))])):=by kernel_rfl
theorem adf (s t:ByteArray):aF Tryz.prog nQ 10 10 133 [.val (.string s), .val (.string t)]=
  (bif !decide ((↑s.size:Int)=(↑t.size:Int)) then (bif decide ((↑s.size:Int) < (↑t.size:Int)) then some (.val (.int .i64 (-1))) else some (.val (.int .i64 1))) else (bif V.strLt s t then some (.val (.int .i64 (-1))) else (bif !(V.strLt s t ||aG s t) then some (.val (.int .i64 1)) else some (.val (.int .i64 0))))):=by kernel_rfl
end
end Go.Proofs.YtamcpiicmfielaaGreat.L
namespace Go.Proofs.YtamcpiicmfielaaGreat.L
open Go Go.V Go.RowKit Go.Proofs.YtamcpiicmfielaaGreat.Sp Go.Proofs.YtamcpiicmfielaaGreat.F
open Go.Proofs (Tryz.prog)
noncomputable section
abbrev fZ:List Bool:= [false,true,false,true,true]
def kF (s:ByteArray) (v n i:Int):List AV:=ar 19 [(0, .val (.string s)),(3, .val (.int .i64 v)),(6, .val (.int .i64 n)),(7, .val (.int .i64 i))]
def jN (s:ByteArray) (v n i:Int):Hp:= []
theorem Tk:aH Tryz.prog 138 fZ=some (.loop (lb 138 fZ)):=by kernel_rfl
theorem U6:aH Tryz.prog 138 (false :: fZ)=some (lb 138 fZ):=by kernel_rfl
theorem O0 (s:ByteArray) (v n i:Int):aO Tryz.prog br 138 [0,3,6,7] (lb 138 fZ) (false :: fZ) (kF s v n i) (jN s v n i)=
  (bif decide (i < n) then (bif ai IntKind.i64 (v*256) then (bif decide (0≤i)&&decide (i < (↑s.size:Int)) then (bif ai IntKind.i64 (aR s i.toNat) then (bif ai IntKind.i64 (i+1) then some (.normal,ar 19 [(0,(.val (.string s))),(3,(.val (.int .i64 (cm BinOp.or IntKind.i64 (v*256) (aR s i.toNat))))),(6,(.val (.int .i64 n))),(7,(.val (.int .i64 (i+1))))], []) else none) else none) else none) else none) else some ((.exit 0),ar 19 [(0,(.val (.string s))),(3,(.val (.int .i64 v))),(6,(.val (.int .i64 n))),(7,(.val (.int .i64 i)))], [])):=by kernel_rfl
theorem P1 {s:ByteArray} {v n i:Int} {e:Ex} {T:List AV} {H:Hp} (h:aO Tryz.prog br 138 [0,3,6,7] (lb 138 fZ) (false :: fZ) (kF s v n i) (jN s v n i)=some (e,T,H)):V.Ends Tryz.prog false 0 0 (lb 138 fZ) (kF s v n i) (jN s v n i) e T H:=
 bF (aJ _) aN mixed U6 h
def u4 (s:ByteArray) (v n i:Int):Prop:=s.size≤3∧n=s.size∧v=0∧i=0
def Ey (s:ByteArray) (v n i:Int) (r:Int×Int):Prop:=r.1=(vS s:Nat)
theorem WY (s:ByteArray) (ab:s.size≤3) (d:Nat):∀ i:Nat,i+d=s.size→∃ r:Int×Int,av Tryz.prog (lb 138 fZ) (kF s (vB (s.data.toList.take i):Nat) s.size i) (jN s (vB (s.data.toList.take i):Nat) s.size i) (.exit 0) (kF s r.1 s.size r.2) (jN s r.1 s.size r.2)∧r.1=(vS s:Nat):=by
 induction d with
 | zero=>
  intro i hi
  have O:i=s.size:=by omega
  subst O
  have e:s.data.toList.take s.size=s.data.toList:=List.take_of_length_le (by simp_all)
  refine ⟨((vB (s.data.toList.take s.size):Nat),(s.size:Int)), .last (P1 ?_) (by grind),by rw [e];rfl⟩
  rw [O0,dF (show ¬ ((s.size:Int) < s.size) by omega)]
  rfl
 | succ d Z=>
  intro i hi
  obtain ⟨r,J,M⟩:=Z (i+1) (by omega)
  refine ⟨r, .more (P1 ?_) J,M⟩
  rw [O0]
  have hb:=lQ s i
  have U:=qP s i (by omega)
  have I:=Ib s.data.toList (i+1)
  have I:vB (s.data.toList.take (i+1))≤vS s:=I
  have aE:=qQ (s:=s) (by omega)
  obtain ⟨c,G⟩:∃ c:Nat,aR s i=c:= ⟨(aR s i).toNat,by omega⟩
  rw [G] at hb U
  have e:vB (s.data.toList.take (i+1))=vB (s.data.toList.take i)*256+c:=by omega
  rw [Int.toNat_natCast,G,NQ _ _ (by omega) (by omega),aM (show -9223372036854775808≤((vB (s.data.toList.take i):Nat):Int)*256∧((vB (s.data.toList.take i):Nat):Int)*256≤9223372036854775807 by omega),aM (show -9223372036854775808≤(c:Int)∧(c:Int)≤9223372036854775807 by omega),aM (show -9223372036854775808≤(i:Int)+1∧(i:Int)+1≤9223372036854775807 by omega),dT (show (i:Int) < s.size by omega),dT (show (0:Int)≤(i:Int) by omega)]
  rw [e]
  rfl
theorem aas (s:ByteArray) (v n i:Int) (h:u4 s v n i):∃ r:Int×Int,av Tryz.prog (lb 138 fZ) (kF s v n i) (jN s v n i) (.exit 0) (kF s r.1 n r.2) (jN s r.1 n r.2)∧Ey s v n i r:=by
 obtain ⟨G,rfl,rfl,rfl⟩:=h
 exact WY s G s.size 0 (by omega)
def G4 (I:ByteArray→Int→Int→Int→Bool) (G:ByteArray→Int→Int→Int→Int×Int) (T:List AV) (H:Hp):Option (Bool×Ex×List AV×Hp):=
 match al T 0,al T 3,al T 6,al T 7,H with
 | .val (.string s), .val (.int .i64 v), .val (.int .i64 n), .val (.int .i64 i), []=>bif T.length==19 then some (I s v n i, .exit 0,kF s ((G s v n i).1) n ((G s v n i).2),jN s ((G s v n i).1) n ((G s v n i).2)) else none
 | _,_,_,_,_=>none
abbrev Jw:Type:=ByteArray→Int→Int→Int→Bool
abbrev IX:Type:=ByteArray→Int→Int→Int→Int×Int
def B4 (G:Jw) (I:IX) (L:aC):aC:=bp 0 138 fZ [0,3,6,7] (G4 G I) L
def nj (s:ByteArray) (v n i:Int):Int×Int:=Classical.epsilon fun ρ=>av Tryz.prog (lb 138 fZ) (kF s v n i) (jN s v n i) (.exit 0) (kF s (ρ.1) n (ρ.2)) (jN s (ρ.1) n (ρ.2))∧Ey s v n i ρ
theorem N3 (s:ByteArray) (v n i:Int) (h:u4 s v n i):av Tryz.prog (lb 138 fZ) (kF s v n i) (jN s v n i) (.exit 0) (kF s ((nj s v n i).1) n ((nj s v n i).2)) (jN s ((nj s v n i).1) n ((nj s v n i).2))∧Ey s v n i (nj s v n i):=Classical.epsilon_spec (aas s v n i h)
def xR (s:ByteArray) (v n i:Int):Bool:= @decide (u4 s v n i) (Classical.propDecidable _)
theorem V1 (s:ByteArray) (v n i:Int) (h:u4 s v n i):xR s v n i=true:= @decide_eq_true _ (Classical.propDecidable _) h
theorem af3 (T:List AV) (H:Hp) (e:Ex) (J:List AV) (I:Hp) (h:G4 xR nj T H=some (true,e,J,I)):V.Ends Tryz.prog false 0 0 (.loop (lb 138 fZ)) T H e J I:=by
 unfold G4 at h
 split at h
 ·rename_i s v n i U Z ab aE
  rw [Bool.cond_eq_ite] at h
  split at h
  ·rename_i M
   rw [beq_iff_eq] at M
   simp only [Option.some.injEq,Prod.mk.injEq,Bool.and_eq_true,decide_eq_true_eq] at h
   obtain ⟨k1,rfl,rfl,rfl⟩:=h
   have a6:= @of_decide_eq_true _ (Classical.propDecidable _) k1
   refine Ends.pre (N3 s v n i a6).1.ends (fun α B w D a7 a1=>bq M (fun p O y G=> ?_) a1)
   simp only [List.mem_cons,List.not_mem_nil,or_false] at O
   rcases O with rfl | rfl | rfl | rfl
   ·rw [U] at G;exact G
   ·rw [Z] at G;exact G
   ·rw [ab] at G;exact G
   ·rw [aE] at G;exact G
  ·cases h
 ·cases h
theorem RR {L:aC} (h:aB Tryz.prog L):aB Tryz.prog (B4 xR nj L):=h.bz Tk af3
theorem WX (G:Jw) (I:IX) (s:ByteArray):aF Tryz.prog ⟨aK,au,B4 G I aq⟩ 10 10 138 [.val (.string s)]=
  (bif G s (0:Int) (↑s.size:Int) (0:Int) then some (.val (.int .i64 ((I s (0:Int) (↑s.size:Int) (0:Int)).fst))) else none):=by kernel_rfl
theorem XA:Entry Tryz.prog 138 (qI aa):=by
 refine bg (E:= ⟨aK,au,B4 xR nj aq⟩) (u:=10) (d:=10) (aJ _) (RR aB.none).ok mixed (by kernel_rfl) (fun args r h=> ?_)
 unfold qI at h
 split at h
 ·rename_i s
  simp only [Option.some.injEq,Prod.mk.injEq,decide_eq_true_eq] at h
  obtain ⟨J,rfl⟩:=h
  have I:u4 s 0 s.size 0:= ⟨J,rfl,rfl,rfl⟩
  have G:=(N3 _ _ _ _ I).2
  have G:(nj s 0 s.size 0).1=(vS s:Nat):=G
  rw [WX,V1 _ _ _ _ I,G]
  rfl
 ·cases h
abbrev gF:List Bool:= [false,false,true,true,true]
def kS (n i:Int) (zs:List Int):List AV:=ar 18 [(0, .val (.int .i64 n)),(3, .ptr 0 0),(4, .val (.int .i64 i))]
def j3 (n i:Int) (zs:List Int):Hp:= [.row (.ints .u8 zs) 158 .live]
theorem Uh:aH Tryz.prog 116 gF=some (.loop (lb 116 gF)):=by kernel_rfl
theorem VR:aH Tryz.prog 116 (false :: gF)=some (lb 116 gF):=by kernel_rfl
theorem FC (n i:Int) (zs:List Int):aO Tryz.prog br 116 [0,3,4] (lb 116 gF) (false :: gF) (kS n i zs) (j3 n i zs)=
  (bif decide (0 < n) then (bif ai IntKind.i64 (i - 1) then (bif decide (0≤i - 1)&&decide (i - (1:Int) < (8:Int)) then (bif decide (0+(i - 1).toNat*1 < zs.length) then some (.normal,ar 18 [(0,(.val (.int .i64 (n.fdiv (256:Int))))),(3,(.ptr 0 0)),(4,(.val (.int .i64 (i - 1))))], [(.row (.ints .u8 (zs.set (0+(i - 1).toNat*1) (IntKind.u8.wrap n))) 158 .live)]) else none) else none) else none) else some ((.exit 0),ar 18 [(0,(.val (.int .i64 n))),(3,(.ptr 0 0)),(4,(.val (.int .i64 i)))], [(.row (.ints .u8 zs) 158 .live)])):=by kernel_rfl
theorem Gj {n i:Int} {zs:List Int} {e:Ex} {T:List AV} {H:Hp} (h:aO Tryz.prog br 116 [0,3,4] (lb 116 gF) (false :: gF) (kS n i zs) (j3 n i zs)=some (e,T,H)):V.Ends Tryz.prog false 0 0 (lb 116 gF) (kS n i zs) (j3 n i zs) e T H:=
 bF (aJ _) aN mixed VR h
def v7 (n i:Int) (zs:List Int):Prop:=0≤n∧n≤9223372036854775807∧i=8∧zs= [0,0,0,0,0,0,0,0]
def Fb (n i:Int) (zs:List Int) (r:Int×Int×List Int):Prop:=∃ k:Nat,r.2.1=k∧k≤8∧r.2.2.length=8∧(r.2.2.drop k).map (fun z=>UInt8.ofNat z.toNat)=toB n.toNat
theorem ag9:∀ (k n:Nat) (zs:List Int) (l:List UInt8),zs.length=8→k≤8→n < 256 ^ k→(zs.drop k).map (fun z=>UInt8.ofNat z.toNat)=l→
  ∃ r:Int×Int×List Int,av Tryz.prog (lb 116 gF) (kS n k zs) (j3 n k zs) (.exit 0) (kS r.1 r.2.1 r.2.2) (j3 r.1 r.2.1 r.2.2)∧∃ j:Nat,r.2.1=j∧j≤8∧r.2.2.length=8∧(r.2.2.drop j).map (fun z=>UInt8.ofNat z.toNat)=toB n ++ l:=by
 intro k
 induction k with
 | zero=>
  intro n zs l I a1 a6 G
  have a7:n=0:=by grind
  subst a7
  refine ⟨((0:Nat),(0:Nat),zs), .last (Gj ?_) (by grind),0,rfl,by omega,I,by rw [toB_zero];exact G⟩
  rw [FC,dF (show ¬ ((0:Int) < ((0:Nat):Int)) by omega)]
  rfl
 | succ k bx=>
  intro n zs l I a1 a6 G
  by_cases J:n=0
  ·subst J
   refine ⟨((0:Nat),((k+1:Nat):Int),zs), .last (Gj ?_) (by grind),k+1,rfl,by omega,I,by rw [toB_zero];exact G⟩
   rw [FC,dF (show ¬ ((0:Int) < ((0:Nat):Int)) by omega)]
   rfl
  ·have e1:((k+1:Nat):Int) - 1=(k:Int):=by omega
   have M:=FC n ((k+1:Nat):Int) zs
   obtain ⟨r,O,j,U,Z,ab,aE⟩:=bx (n / 256) (zs.set k ((n % 256:Nat):Int)) (UInt8.ofNat n :: l) (by grind) (by omega) (by grind) (by
    rw [List.drop_eq_getElem_cons (by grind),List.getElem_set_self,List.drop_set_of_lt (by omega),List.map_cons,G,Int.toNat_natCast]
    refine congrArg (· :: l) ?_
    apply UInt8.toNat_inj.1
    simp_all)
   refine ⟨r, .more (Gj ?_) O,j,U,Z,ab,by rw [aE,toB_pos J,List.append_assoc];rfl⟩
   rw [e1,Int.toNat_natCast,Nat.zero_add,Nat.mul_one,bH k (by omega),dT (show (0:Int) < n by omega),dT (show (0:Int)≤(k:Int) by omega),dT (show (k:Int) < 8 by omega),dT (show k < zs.length by omega),show IntKind.u8.wrap (n:Int)=((n % 256:Nat):Int) from by rw [sV];rfl,show (n:Int).fdiv (256:Int)=((n / 256:Nat):Int) from iJ n 256] at M
   rw [M]
   rfl
theorem abe (n i:Int) (zs:List Int) (h:v7 n i zs):∃ r:Int×Int×List Int,av Tryz.prog (lb 116 gF) (kS n i zs) (j3 n i zs) (.exit 0) (kS r.1 r.2.1 r.2.2) (j3 r.1 r.2.1 r.2.2)∧Fb n i zs r:=by
 obtain ⟨G,O,rfl,rfl⟩:=h
 obtain ⟨n,rfl⟩:=Int.eq_ofNat_of_zero_le G
 obtain ⟨r,k1,j,I,J,M,U⟩:=ag9 8 n [0,0,0,0,0,0,0,0] [] rfl (by omega) (by grind) rfl
 exact ⟨r,k1,j,I,J,M,by grind⟩
def HZ (I:Int→Int→List Int→Bool) (G:Int→Int→List Int→Int×Int×List Int) (T:List AV) (H:Hp):Option (Bool×Ex×List AV×Hp):=
 match al T 0,al T 3,al T 4,H with
 | .val (.int .i64 n), .ptr 0 0, .val (.int .i64 i), [.row (.ints .u8 zs) 158 .live]=>bif T.length==18 then some (I n i zs, .exit 0,kS ((G n i zs).1) ((G n i zs).2.1) ((G n i zs).2.2),j3 ((G n i zs).1) ((G n i zs).2.1) ((G n i zs).2.2)) else none
 | _,_,_,_=>none
abbrev JX:Type:=Int→Int→List Int→Bool
abbrev Jq:Type:=Int→Int→List Int→Int×Int×List Int
def Cu (G:JX) (I:Jq) (L:aC):aC:=bp 0 116 gF [0,3,4] (HZ G I) L
def kB (n i:Int) (zs:List Int):Int×Int×List Int:=Classical.epsilon fun ρ=>av Tryz.prog (lb 116 gF) (kS n i zs) (j3 n i zs) (.exit 0) (kS (ρ.1) (ρ.2.1) (ρ.2.2)) (j3 (ρ.1) (ρ.2.1) (ρ.2.2))∧Fb n i zs ρ
theorem OI (n i:Int) (zs:List Int) (h:v7 n i zs):av Tryz.prog (lb 116 gF) (kS n i zs) (j3 n i zs) (.exit 0) (kS ((kB n i zs).1) ((kB n i zs).2.1) ((kB n i zs).2.2)) (j3 ((kB n i zs).1) ((kB n i zs).2.1) ((kB n i zs).2.2))∧Fb n i zs (kB n i zs):=Classical.epsilon_spec (abe n i zs h)
def ug (n i:Int) (zs:List Int):Bool:= @decide (v7 n i zs) (Classical.propDecidable _)
theorem WO (n i:Int) (zs:List Int) (h:v7 n i zs):ug n i zs=true:= @decide_eq_true _ (Classical.propDecidable _) h
theorem agQ (T:List AV) (H:Hp) (e:Ex) (J:List AV) (I:Hp) (h:HZ ug kB T H=some (true,e,J,I)):V.Ends Tryz.prog false 0 0 (.loop (lb 116 gF)) T H e J I:=by
 unfold HZ at h
 split at h
 ·rename_i n i zs U Z ab
  rw [Bool.cond_eq_ite] at h
  split at h
  ·rename_i M
   rw [beq_iff_eq] at M
   simp only [Option.some.injEq,Prod.mk.injEq,Bool.and_eq_true,decide_eq_true_eq] at h
   obtain ⟨k1,rfl,rfl,rfl⟩:=h
   have a1:= @of_decide_eq_true _ (Classical.propDecidable _) k1
   refine Ends.pre (OI n i zs a1).1.ends (fun α B w D a6 aE=>bq M (fun p O y G=> ?_) aE)
   simp only [List.mem_cons,List.not_mem_nil,or_false] at O
   rcases O with rfl | rfl | rfl
   ·rw [U] at G;exact G
   ·rw [Z] at G;exact G
   ·rw [ab] at G;exact G
  ·cases h
 ·cases h
theorem SN {L:aC} (h:aB Tryz.prog L):aB Tryz.prog (Cu ug kB L):=h.bz Uh agQ
theorem ag8 (I:JX) (J:Jq) (z:Int):letI G:=(J z (8:Int) [(0:Int),(0:Int),(0:Int),(0:Int),(0:Int),(0:Int),(0:Int),(0:Int)]);
  (aF Tryz.prog ⟨aK,au,Cu I J aq⟩ 10 10 116 [.val (.int .i64 z)]=(bif I z (8:Int) [(0:Int),(0:Int),(0:Int),(0:Int),(0:Int),(0:Int),(0:Int),(0:Int)] then (bif decide (8≤G.snd.snd.length) then (bif decide (0≤G.snd.fst)&&decide (G.snd.fst≤8) then (bif decide (0+G.snd.fst.toNat*1+(8 - G.snd.fst.toNat)*1≤G.snd.snd.length) then some (.val (.string (ofBytes (List.take ((8 - G.snd.fst.toNat)*1) (List.drop (0+G.snd.fst.toNat*1) G.snd.snd))))) else none) else none) else none) else none)):=by kernel_rfl
theorem NA {zs:List Int} {n:Nat} (h:zs.map (fun z=>UInt8.ofNat z.toNat)=toB n):ofBytes zs=aA n:=by
 apply nY
 rw [pX]
 exact h
theorem Ys:Entry Tryz.prog 116 (AB aa):=by
 refine bg (E:= ⟨aK,au,Cu ug kB aq⟩) (u:=10) (d:=10) (aJ _) (SN aB.none).ok mixed (by kernel_rfl) (fun args r h=> ?_)
 unfold AB at h
 split at h
 ·rename_i z
  simp only [Option.some.injEq,Prod.mk.injEq,Bool.and_eq_true,decide_eq_true_eq] at h
  obtain ⟨⟨I,U⟩,rfl⟩:=h
  obtain ⟨n,rfl⟩:=Int.eq_ofNat_of_zero_le I
  rw [Int.toNat_natCast]
  have G:=ag8 ug kB (n:Int)
  have J:v7 (n:Int) 8 [0,0,0,0,0,0,0,0]:= ⟨I,U,rfl,rfl⟩
  obtain ⟨_,k,e1,Z,M,O⟩:=OI _ _ _ J
  rw [WO _ _ _ J] at G
  generalize kB (n:Int) 8 [0,0,0,0,0,0,0,0]=r at*
  rw [e1,M,dT (show 8≤8 by omega),dT (show (0:Int)≤(k:Int) by omega),dT (show (k:Int)≤8 by omega),Int.toNat_natCast,dT (show 0+k*1+(8 - k)*1≤8 by omega)] at G
  rw [G]
  show some (AV.val (.string (ofBytes _)))=some (AV.val (.string (aA n)))
  rw [NA (n:=n)]
  rw [Nat.zero_add,Nat.mul_one,Nat.mul_one,List.take_of_length_le (by grind)]
  exact O
 ·cases h
theorem XS:Entry Tryz.prog 105 (qJ af):=by
 refine bg (E:= ⟨Iv aa,au,aq⟩) (u:=10) (d:=10) ((aJ _).add XA) aN mixed (by kernel_rfl) (fun args r h=> ?_)
 unfold qJ at h
 split at h
 ·rename_i b n d
  simp only [Option.some.injEq,Prod.mk.injEq,true_and] at h
  subst h
  rw [abh]
  have Z:∀ x y:ByteArray,af.ms x y=gM x y:=fun x y=>rfl
  have U:af.mn b n d=bif gM n d then aa.val b n else 0:=rfl
  have O:af.md n d=bif gM n d then dn d else 0:=rfl
  rw [Z,U,O]
  unfold gM
  by_cases J:n.size≤3
  ·by_cases M:d.size≤3
   ·rw [dF (show ¬ (3:Int) < n.size by omega),dF (show ¬ (3:Int) < d.size by omega),dT J,dT M]
    have G:=qQ (s:=n) (by omega)
    have G:aa.vs n < _:=G
    have e1:lq ((aa.vs d:Nat):Int) 1=dn d:=by
     rw [show (1:Int)=((1:Nat):Int) from rfl,Np]
     unfold dn
     have:aa.vs d=vS d:=rfl
     grind
    rw [e1]
    have I:∀ b,aa.val b n=if b=true then -(aa.vs n:Int) else (aa.vs n:Int):=fun b=>rfl
    cases b
    ·rw [I];rfl
    ·rw [I,show IntKind.i64.wrap (0 - ((aa.vs n:Nat):Int))= -((aa.vs n:Nat):Int) by rw [IntKind.wrap_i64];omega];rfl
   grind
  grind
 ·cases h
abbrev gk:List Bool:= [false,false,true,true]
def kM (n d a c:Int) (G:Bool) (I rd:ByteArray):List AV:=ar 43 [(0, .val (.int .i64 n)),(1, .val (.int .i64 d)),(4, .ptr 0 0),(5, .val (.int .i64 a)),(6, .val (.int .i64 c))]
def jU (n d a c:Int) (G:Bool) (I rd:ByteArray):Hp:= [.row (.cells [.val (.bool G), .val (.string I), .val (.string rd)]) 27 .live]
theorem TQ:aH Tryz.prog 73 gk=some (.loop (lb 73 gk)):=by kernel_rfl
theorem Vv:aH Tryz.prog 73 (false :: gk)=some (lb 73 gk):=by kernel_rfl
theorem ad3 (n d a c:Int) (G:Bool) (I rd:ByteArray):aO Tryz.prog br 73 [0,1,4,5,6] (lb 73 gk) (false :: gk) (kM n d a c G I rd) (jU n d a c G I rd)=
  (bif !decide (c=0) then (bif decide (c=0) then none else some (.normal,ar 43 [(0,(.val (.int .i64 n))),(1,(.val (.int .i64 d))),(4,(.ptr 0 0)),(5,(.val (.int .i64 c))),(6,(.val (.int .i64 (a.tmod c))))], [(.row (.cells [(.val (.bool G)),(.val (.string I)),(.val (.string rd))]) 27 .live)])) else some ((.exit 0),ar 43 [(0,(.val (.int .i64 n))),(1,(.val (.int .i64 d))),(4,(.ptr 0 0)),(5,(.val (.int .i64 a))),(6,(.val (.int .i64 c)))], [(.row (.cells [(.val (.bool G)),(.val (.string I)),(.val (.string rd))]) 27 .live)])):=by kernel_rfl
theorem Qd {n d a c:Int} {G:Bool} {I rd:ByteArray} {e:Ex} {T:List AV} {H:Hp} (h:aO Tryz.prog br 73 [0,1,4,5,6] (lb 73 gk) (false :: gk) (kM n d a c G I rd) (jU n d a c G I rd)=some (e,T,H)):V.Ends Tryz.prog false 0 0 (lb 73 gk) (kM n d a c G I rd) (jU n d a c G I rd) e T H:=
 bF (aJ _) aN mixed Vv h
def vE (n d a c:Int) (G:Bool) (I rd:ByteArray):Prop:=True
def EW (n d a c:Int) (G:Bool) (I rd:ByteArray) (r:Int×Int):Prop:=r.1.natAbs=Nat.gcd a.natAbs c.natAbs∧(r.1.natAbs≤a.natAbs∨r.1.natAbs≤c.natAbs)
theorem ac9 (n d:Int) (G:Bool) (I rd:ByteArray) (k:Nat):∀ a c:Int,c.natAbs=k→∃ r:Int×Int,av Tryz.prog (lb 73 gk) (kM n d a c G I rd) (jU n d a c G I rd) (.exit 0) (kM n d r.1 r.2 G I rd) (jU n d r.1 r.2 G I rd)∧r.1.natAbs=Nat.gcd a.natAbs c.natAbs:=by
 induction k using Nat.strongRecOn with
 | _ k Z=>
  intro a c ab
  have M:=ad3 n d a c G I rd
  by_cases J:c=0
  ·refine ⟨(a,c), .last (Qd ?_) (by grind),by rw [J];grind⟩
   rw [M,dT J]
   rfl
  ·have aE:(a.tmod c).natAbs < c.natAbs:=by rw [Int.natAbs_tmod];exact Nat.mod_lt _ (by omega)
   obtain ⟨r,O,U⟩:=Z _ (by omega) c (a.tmod c) rfl
   refine ⟨r, .more (Qd ?_) O, ?_⟩
   ·rw [M,dF J]
    rfl
   ·rw [U,Int.natAbs_tmod,Nat.gcd_comm c.natAbs,← Nat.gcd_rec,Nat.gcd_comm]
theorem aaU (n d a c:Int) (G:Bool) (I rd:ByteArray) (h:vE n d a c G I rd):∃ r:Int×Int,av Tryz.prog (lb 73 gk) (kM n d a c G I rd) (jU n d a c G I rd) (.exit 0) (kM n d r.1 r.2 G I rd) (jU n d r.1 r.2 G I rd)∧EW n d a c G I rd r:=by
 obtain ⟨r,M,J⟩:=ac9 n d G I rd c.natAbs a c rfl
 refine ⟨r,M,J, ?_⟩
 rw [J]
 rcases Nat.eq_zero_or_pos a.natAbs with e | e
 ·grind
 ·left;exact Nat.gcd_le_left _ e
def HC (M:Int→Int→Int→Int→Bool→ByteArray→ByteArray→Bool) (J:Int→Int→Int→Int→Bool→ByteArray→ByteArray→Int×Int) (T:List AV) (H:Hp):Option (Bool×Ex×List AV×Hp):=
 match al T 0,al T 1,al T 4,al T 5,al T 6,H with
 | .val (.int .i64 n), .val (.int .i64 d), .ptr 0 0, .val (.int .i64 a), .val (.int .i64 c), [.row (.cells [.val (.bool G), .val (.string I), .val (.string rd)]) 27 .live]=>bif T.length==43 then some (M n d a c G I rd, .exit 0,kM n d ((J n d a c G I rd).1) ((J n d a c G I rd).2) G I rd,jU n d ((J n d a c G I rd).1) ((J n d a c G I rd).2) G I rd) else none
 | _,_,_,_,_,_=>none
abbrev JP:Type:=Int→Int→Int→Int→Bool→ByteArray→ByteArray→Bool
abbrev Jh:Type:=Int→Int→Int→Int→Bool→ByteArray→ByteArray→Int×Int
def Co (G:JP) (I:Jh) (L:aC):aC:=bp 0 73 gk [0,1,4,5,6] (HC G I) L
def mf (n d a c:Int) (G:Bool) (I rd:ByteArray):Int×Int:=Classical.epsilon fun ρ=>av Tryz.prog (lb 73 gk) (kM n d a c G I rd) (jU n d a c G I rd) (.exit 0) (kM n d (ρ.1) (ρ.2) G I rd) (jU n d (ρ.1) (ρ.2) G I rd)∧EW n d a c G I rd ρ
theorem Oo (n d a c:Int) (G:Bool) (I rd:ByteArray) (h:vE n d a c G I rd):av Tryz.prog (lb 73 gk) (kM n d a c G I rd) (jU n d a c G I rd) (.exit 0) (kM n d ((mf n d a c G I rd).1) ((mf n d a c G I rd).2) G I rd) (jU n d ((mf n d a c G I rd).1) ((mf n d a c G I rd).2) G I rd)∧EW n d a c G I rd (mf n d a c G I rd):=Classical.epsilon_spec (aaU n d a c G I rd h)
def tT (n d a c:Int) (G:Bool) (I rd:ByteArray):Bool:= @decide (vE n d a c G I rd) (Classical.propDecidable _)
theorem Ws (n d a c:Int) (G:Bool) (I rd:ByteArray) (h:vE n d a c G I rd):tT n d a c G I rd=true:= @decide_eq_true _ (Classical.propDecidable _) h
theorem agw (T:List AV) (H:Hp) (e:Ex) (J:List AV) (I:Hp) (h:HC tT mf T H=some (true,e,J,I)):V.Ends Tryz.prog false 0 0 (.loop (lb 73 gk)) T H e J I:=by
 unfold HC at h
 split at h
 ·rename_i n d a c bx bD rd U Z ab aE a1
  rw [Bool.cond_eq_ite] at h
  split at h
  ·rename_i M
   rw [beq_iff_eq] at M
   simp only [Option.some.injEq,Prod.mk.injEq,Bool.and_eq_true,decide_eq_true_eq] at h
   obtain ⟨k1,rfl,rfl,rfl⟩:=h
   have a7:= @of_decide_eq_true _ (Classical.propDecidable _) k1
   refine Ends.pre (Oo n d a c bx bD rd a7).1.ends (fun α B w D b0 a6=>bq M (fun p O y G=> ?_) a6)
   simp only [List.mem_cons,List.not_mem_nil,or_false] at O
   rcases O with rfl | rfl | rfl | rfl | rfl
   ·rw [U] at G;exact G
   ·rw [Z] at G;exact G
   ·rw [ab] at G;exact G
   ·rw [aE] at G;exact G
   ·rw [a1] at G;exact G
  ·cases h
 ·cases h
theorem Ss {L:aC} (h:aB Tryz.prog L):aB Tryz.prog (Co tT mf L):=h.bz TQ agw
theorem ada (S:Sg) (M:JP) (O:Jh) (n d:Int):letI J:=(O n d n d false (ByteArray.mk #[]) (ByteArray.mk #[]));letI G:=(lq (J.fst) (IntKind.i64.wrap (0 - J.fst)));letI I:=(lq n (IntKind.i64.wrap (0 - n)));
  (aF Tryz.prog ⟨aw 116 (AB S) aK,au,Co M O aq⟩ 10 10 73 [.val (.int .i64 n), .val (.int .i64 d)]=(bif M n d n d false (ByteArray.mk #[]) (ByteArray.mk #[]) then (bif decide (n=0) then some (.agg [(.val (.bool false)),(.val (.string (ByteArray.mk #[]))),(.val (.string (ByteArray.mk #[])))]) else (bif decide (G=0) then none else (bif ai IntKind.i64 (I.tdiv G) then (bif decide (0≤I.tdiv G)&&decide (I.tdiv G≤9223372036854775807) then (bif !decide (d=lq (J.fst) (IntKind.i64.wrap (0 - J.fst))) then (bif decide (G=0) then none else (bif ai IntKind.i64 (d.tdiv G) then (bif decide (0≤d.tdiv G)&&decide (d.tdiv G≤9223372036854775807) then some (.agg [(.val (.bool (decide (n < 0)))),(.val (.string (S.mg (I.tdiv G).toNat))),(.val (.string (S.mg (d.tdiv G).toNat)))]) else none) else none)) else some (.agg [(.val (.bool (decide (n < 0)))),(.val (.string (S.mg (I.tdiv G).toNat))),(.val (.string (ByteArray.mk #[])))])) else none) else none))) else none)):=by kernel_rfl
end
end Go.Proofs.YtamcpiicmfielaaGreat.L
namespace Go.Proofs.YtamcpiicmfielaaGreat.L
open Go Go.V Go.RowKit Go.Proofs.YtamcpiicmfielaaGreat.Sp Go.Proofs.YtamcpiicmfielaaGreat.F
open Go.Proofs (Tryz.prog)
noncomputable section
theorem p9 {s:ByteArray} (h:s.size≤8796093022208):aa.ok s=true:=decide_eq_true h
theorem NJ:aa.ok (aa.ms 0)=true:=bW (by rw [show (0:Int).natAbs=0 from rfl,KK];grind)
theorem NK:aa.ok (aa.ms 1)=true:=bW (by rw [show (1:Int).natAbs=1 from rfl];exact Nat.le_trans xD (by decide))
theorem abK:aa.ng 1=false:=abJ (by decide)
theorem aby:aa.ms 1=aA 1:=rfl
theorem og (x y:Int):aa.fT x y=0↔x=y:=by
 show cR x y=0↔_
 unfold cR
 grind
theorem Ll (x y:Int):aa.fT x y= -1↔x < y:=by
 show cR x y= -1↔_
 unfold cR
 grind
theorem wT:bf Tryz.prog (o6 aa):=((aJ _).add yp).add Lo
theorem Lu:Entry Tryz.prog 68 (wH af):=by
 refine bg (E:= ⟨o6 aa,au,aq⟩) (u:=10) (d:=10) wT aN mixed (by kernel_rfl) (fun args r h=> ?_)
 unfold wH at h
 split at h
 ·rename_i b n d
  simp only [Option.some.injEq,Prod.mk.injEq] at h
  obtain ⟨I,rfl⟩:=h
  obtain ⟨k1,O⟩:=wc I
  rw [abV,p9 (s:=d) (by omega),NJ,eX]
  have M:aa.val false d=(vS d:Nat):=rfl
  have J:af.fd d=if vS d=0 then aA 1 else d:=rfl
  rw [J]
  by_cases G:vS d=0
  ·rw [if_pos G,dT ((og _ _).2 (by grind)),abK,aby];rfl
  ·rw [if_neg G,dF (fun h=>G (by have:=(og _ _).1 h;omega))];rfl
 ·cases h
theorem yC (x:Int) {y:Int} (ab:0 < y):(Rat.divInt x y).num=x / (zg x y)∧(((Rat.divInt x y).den:Nat):Int)=y / (zg x y)∧(Rat.divInt x y).num.natAbs=x.natAbs / Nat.gcd x.natAbs y.natAbs∧(Rat.divInt x y).den=y.natAbs / Nat.gcd x.natAbs y.natAbs:=by
 have M:Int.gcd y x=Nat.gcd x.natAbs y.natAbs:=by rw [Int.gcd_eq_natAbs_gcd_natAbs,Nat.gcd_comm]
 have e1:(Rat.divInt x y).num=x / (zg x y):=by
  rw [Rat.num_divInt,Int.sign_eq_one_of_pos ab,Int.one_mul,M];rfl
 have J:(Rat.divInt x y).den=y.natAbs / Nat.gcd x.natAbs y.natAbs:=by
  rw [Rat.den_divInt,if_neg (by omega),M]
 refine ⟨e1, ?_, ?_,J⟩
 ·rw [J,Int.natCast_ediv]
  unfold zg
  grind
 ·rw [e1]
  obtain ⟨k,O⟩:=Int.ofNat_dvd_left.2 (Nat.gcd_dvd_left x.natAbs y.natAbs)
  have I:0 < Nat.gcd x.natAbs y.natAbs:=Nat.gcd_pos_of_pos_right _ (by omega)
  have G:x.natAbs=Nat.gcd x.natAbs y.natAbs*k.natAbs:=by
   have:=congrArg Int.natAbs O
   rwa [Int.natAbs_mul,Int.natAbs_natCast] at this
  have U:x / zg x y=k:=by
   have Z:zg x y*k / zg x y=k:=Int.mul_ediv_cancel_left k (by unfold zg;omega)
   rw [← Z]
   exact congrArg (· / zg x y) O
  rw [U]
  rw [G] at I ⊢
  rw [← G]
  exact (Nat.eq_of_mul_eq_mul_left (by rw [← G] at I;exact I) (by rw [← G,Nat.mul_div_cancel' (Nat.gcd_dvd_left _ _)])).symm
theorem Ih (x:Int) {y:Int} (G:0 < y):0 < zg x y:=by
 have:0 < Nat.gcd x.natAbs y.natAbs:=Nat.gcd_pos_of_pos_right _ (by omega)
 unfold zg;omega
theorem Ii (x:Int) {y:Int} (G:0 < y):zq x (zg x y)=(Rat.divInt x y).num∧zq y (zg x y)=((Rat.divInt x y).den:Nat):=by
 obtain ⟨e1,I,_,_⟩:=yC x G
 have J:=Ih x G
 unfold zq
 grind
theorem zL (q:Rat):af.qd q=if q.den=1 then ByteArray.mk #[] else aA q.den:=rfl
theorem Ru:bf Tryz.prog (A0 aa bd):=(wT.add Lp).add XH
theorem XV:Entry Tryz.prog 70 (GJ aa af):=by
 refine bg (E:= ⟨A0 aa bd,au,aq⟩) (u:=10) (d:=10) Ru aN mixed (by kernel_rfl) (fun args r h=> ?_)
 unfold GJ at h
 split at h
 ·rename_i b s c t
  simp only [Option.some.injEq,Prod.mk.injEq,Bool.and_eq_true,decide_eq_true_eq] at h
  obtain ⟨⟨⟨O,U⟩,ab⟩,rfl⟩:=h
  have M:=abR aa bd b c s t
  have k1:=dK b s
  have a1:=dK c t
  have z1:s.size≤8796093022208:=of_decide_eq_true O
  have z2:t.size≤8796093022208:=of_decide_eq_true U
  simp only [eX,Rj,Ie] at M
  rw [M]
  clear M
  generalize aa.val b s=x at*
  generalize aa.val c t=y at*
  have a6:=CI x y
  have a7:=dI (Ny x y)
  have bx:=dI (Lm x (show y≠0 by omega))
  obtain ⟨e1,Z⟩:=Ii x ab
  rw [e1,Z,O,U,NJ,NK,bW (z:=zg x y) (by omega),bW (z:=(((Rat.divInt x y).den:Nat):Int)) (by grind)]
  have aE:af.fr x y=Rat.divInt x y:=rfl
  rw [aE]
  by_cases J:x=0
  ·rw [dT ((og _ _).2 J),J,Rat.zero_divInt,we];rfl
  ·rw [dF (fun h=>J ((og _ _).1 h))]
   have I:=zL (Rat.divInt x y)
   by_cases G:(Rat.divInt x y).den=1
   ·rw [if_pos G] at I
    rw [dT ((og _ _).2 (by rw [G];rfl))]
    unfold Qg.rat
    rw [I];rfl
   ·rw [if_neg G] at I
    rw [dF (fun h=>G (by have:=(og _ _).1 h;omega))]
    unfold Qg.rat
    rw [I];rfl
 ·cases h
theorem Nq {a:Int} (h: -4611686018427387904 < a∧a < 4611686018427387904):lq a (IntKind.i64.wrap (0 - a))=((a.natAbs:Nat):Int):=by
 rw [show IntKind.i64.wrap (0 - a)= -a by rw [IntKind.wrap_i64];omega]
 unfold lq
 grind
theorem yY {z:Int} (h:j7 z=true): -72057594037927936 < z∧z < 72057594037927936:=by
 unfold j7 at h
 grind
theorem Ym:Entry Tryz.prog 73 (qM af):=by
 refine bg (E:= ⟨aw 116 (AB aa) aK,au,Co tT mf aq⟩) (u:=10) (d:=10) ((aJ _).add Ys) (Ss aB.none).ok mixed (by kernel_rfl) (fun args r h=> ?_)
 unfold qM at h
 split at h
 ·rename_i n d
  simp only [Option.some.injEq,Prod.mk.injEq,Bool.and_eq_true,decide_eq_true_eq] at h
  obtain ⟨⟨⟨a7,bx⟩,O⟩,rfl⟩:=h
  have b4:=yY a7
  have b5:=yY bx
  have G:=ada aa tT mf n d
  have ab:vE n d n d false (ByteArray.mk #[]) (ByteArray.mk #[]):=True.intro
  obtain ⟨_,b0,b7⟩:=Oo _ _ _ _ _ _ _ ab
  rw [Ws _ _ _ _ _ _ _ ab] at G
  generalize mf n d n d false (ByteArray.mk #[]) (ByteArray.mk #[])=ρ at*
  have b1:0 < Nat.gcd n.natAbs d.natAbs:=Nat.gcd_pos_of_pos_right _ (by omega)
  rw [Nq (a:=ρ.1) (by omega),Nq (a:=n) (by omega),b0] at G
  have b2:Int.tdiv ((n.natAbs:Nat):Int) ((Nat.gcd n.natAbs d.natAbs:Nat):Int)=((n.natAbs / Nat.gcd n.natAbs d.natAbs:Nat):Int):=rfl
  have b3:Int.tdiv d ((Nat.gcd n.natAbs d.natAbs:Nat):Int)=((d.natAbs / Nat.gcd n.natAbs d.natAbs:Nat):Int):=by
   grind
  have l1:=Nat.div_le_self n.natAbs (Nat.gcd n.natAbs d.natAbs)
  have l2:=Nat.div_le_self d.natAbs (Nat.gcd n.natAbs d.natAbs)
  obtain ⟨_,_,a6,U⟩:=yC n O
  rw [b2,b3] at G
  have bD:af.fr n d=Rat.divInt n d:=rfl
  rw [bD]
  by_cases M:n=0
  ·rw [dT M] at G
   rw [G,M,Rat.zero_divInt,we];rfl
  ·have Z:d=((Nat.gcd n.natAbs d.natAbs:Nat):Int)↔(Rat.divInt n d).den=1:=by
    rw [U]
    have b6:=Nat.div_mul_cancel (Nat.gcd_dvd_right n.natAbs d.natAbs)
    constructor
    ·intro h
     have h':d.natAbs=Nat.gcd n.natAbs d.natAbs:=by omega
     exact Nat.div_eq_of_eq_mul_left b1 (by omega)
    grind
   rw [dF M,dF (show ¬ ((Nat.gcd n.natAbs d.natAbs:Nat):Int)=0 by omega)] at G
   rw [← a6] at G l1
   rw [← U] at G l2
   rw [aM (z:=(((Rat.divInt n d).num.natAbs:Nat):Int)) (by omega),dT (show (0:Int)≤(((Rat.divInt n d).num.natAbs:Nat):Int) by omega),dT (show (((Rat.divInt n d).num.natAbs:Nat):Int)≤9223372036854775807 by omega),aM (z:=(((Rat.divInt n d).den:Nat):Int)) (by omega),dT (show (0:Int)≤(((Rat.divInt n d).den:Nat):Int) by omega),dT (show (((Rat.divInt n d).den:Nat):Int)≤9223372036854775807 by omega),Int.toNat_natCast,Int.toNat_natCast] at G
   rw [G]
   have J:=zL (Rat.divInt n d)
   have aE:af.qn (Rat.divInt n d)=decide (n < 0):=by
    have:af.qn (Rat.divInt n d)=aa.ng (Rat.divInt n d).num:=rfl
    rw [this,dm]
    refine decide_eq_decide.2 ?_
    obtain ⟨a1,_,_,_⟩:=yC n O
    rw [a1]
    rw [Int.ediv_lt_iff_lt_mul (Ih n O),Int.zero_mul]
   by_cases I:(Rat.divInt n d).den=1
   ·rw [if_pos I] at J
    rw [dT (Z.2 I)]
    unfold Qg.rat
    rw [J,aE];rfl
   ·rw [if_neg I] at J
    rw [dF (fun h=>I (Z.1 h))]
    unfold Qg.rat
    rw [J,aE];rfl
 ·cases h
theorem qY:bf Tryz.prog (jE aa bd af):=((wT.add Ls).add Lu).add XV
theorem X0:Entry Tryz.prog 28 (GM af):=by
 refine bg (E:= ⟨jE aa bd af,au,aq⟩) (u:=10) (d:=10) qY aN mixed (by kernel_rfl) (fun args r h=> ?_)
 unfold GM at h
 split at h
 ·rename_i z
  simp only [Option.some.injEq,Prod.mk.injEq] at h
  obtain ⟨G,rfl⟩:=h
  have I:=G
  unfold cW at I
  rw [Bool.and_eq_true,decide_eq_true_eq,decide_eq_true_eq] at I
  have hb:bs z.natAbs≤8:=iC (by grind)
  rw [acU]
  simp only [eX]
  rw [G,bW (z:=z) (by omega),NK,dT (show (0:Int) < 1 by decide)]
  rfl
 ·cases h
theorem Db:Entry Tryz.prog 84 (qL aa bd af):=by
 refine bg (E:= ⟨jE aa bd af,au,aq⟩) (u:=10) (d:=10) qY aN mixed (by kernel_rfl) (fun args r h=> ?_)
 unfold qL at h
 split at h
 ·rename_i b s c t
  simp only [Option.some.injEq,Prod.mk.injEq,Bool.and_eq_true] at h
  obtain ⟨⟨J,M⟩,rfl⟩:=h
  have I:=acT aa bd af b c s t
  have k1:=dK b s
  have Z:=dK c t
  have z1:s.size≤8796093022208:=of_decide_eq_true J
  have z2:t.size≤8796093022208:=of_decide_eq_true M
  simp only [eX,AN] at I
  rw [I]
  clear I
  generalize aa.val b s=x at*
  generalize aa.val c t=y at*
  have ab:=xC x
  have aE:=xC y
  have U:∀ x y,af.fr x y=Rat.divInt x y:=fun x y=>rfl
  rw [J,M,y9,bW (z:= -x) (by omega),bW (z:= -y) (by omega),Ri,U,U]
  by_cases G:y=0
  ·rw [dT ((og _ _).2 G),G,LS,Rat.divInt_zero,we];rfl
  ·rw [dF (fun h=>G ((og _ _).1 h)),LU G]
   by_cases O:y < 0
   ·rw [dT ((Ll _ _).2 O),dT (show 0 < -y by omega),Rat.neg_divInt_neg];rfl
   ·rw [dF (fun h=>O ((Ll _ _).1 h)),dT (show 0 < y by omega)];rfl
 ·cases h
theorem X2:Entry Tryz.prog 87 (GO bd af):=by
 refine bg (E:= ⟨aw 84 (qL aa bd af) (o6 aa),au,aq⟩) (u:=10) (d:=10) (wT.add Db) aN mixed (by kernel_rfl) (fun args r h=> ?_)
 unfold GO at h
 split at h
 ·rename_i n d
  simp only [Option.some.injEq,Prod.mk.injEq,Bool.and_eq_true] at h
  obtain ⟨⟨G,I⟩,rfl⟩:=h
  have J:=G
  have M:=I
  unfold cW at J M
  rw [Bool.and_eq_true,decide_eq_true_eq,decide_eq_true_eq] at J M
  have O:bs n.natAbs≤8:=iC (by grind)
  have U:bs d.natAbs≤8:=iC (by grind)
  rw [acW]
  simp only [eX]
  rw [G,I,bW (z:=n) (by omega),bW (z:=d) (by omega)]
  rfl
 ·cases h
theorem L8 (b:Bool) (n d:ByteArray):af.fr (aa.val b n) (aa.val false (af.fd d))=af.qv b n d:=by rw [mD];rfl
theorem rV {n d:ByteArray} (h:af.ok n d=true):aa.ok n=true∧aa.ok (af.fd d)=true∧decide (0 < aa.val false (af.fd d))=true:=by
 obtain ⟨k1,G⟩:=wc h
 have I:=aeL d
 exact ⟨p9 (by omega),p9 (by omega),by rw [mD];exact dT (fU d)⟩
theorem Da:Entry Tryz.prog 49 (sR af):=by
 refine bg (E:= ⟨jE aa bd af,au,aq⟩) (u:=10) (d:=10) qY aN mixed (by kernel_rfl) (fun args r h=> ?_)
 unfold sR mA at h
 split at h
 ·rename_i b n d
  simp only [Option.some.injEq,Prod.mk.injEq] at h
  obtain ⟨G,rfl⟩:=h
  obtain ⟨k1,I,J⟩:=rV G
  rw [acL,G,k1,I,J]
  simp only [L8]
  have M:af.ck b n d=bif (b==af.qn (af.qv b n d))&&aG n (af.qs (af.qv b n d))&&aG d (af.qd (af.qv b n d)) then 0 else 1:=rfl
  grind
 ·cases h
theorem XZ:Entry Tryz.prog 156 (Ar af):=by
 refine bg (E:= ⟨jE aa bd af,au,aq⟩) (u:=10) (d:=10) qY aN mixed (by kernel_rfl) (fun args r h=> ?_)
 unfold Ar mA at h
 split at h
 ·rename_i b n d
  simp only [Option.some.injEq,Prod.mk.injEq] at h
  obtain ⟨G,rfl⟩:=h
  obtain ⟨k1,I,J⟩:=rV G
  rw [acS]
  simp only [L8,OQ]
  rw [G,k1,I,J]
  rfl
 ·cases h
theorem X3:Entry Tryz.prog 27 (GP af):=by
 refine bg (E:= ⟨jE aa bd af,au,aq⟩) (u:=10) (d:=10) qY aN mixed (by kernel_rfl) (fun args r h=> ?_)
 unfold GP mA at h
 split at h
 ·rename_i b n d
  simp only [Option.some.injEq,Prod.mk.injEq] at h
  obtain ⟨G,rfl⟩:=h
  obtain ⟨k1,J,M⟩:=rV G
  rw [acY]
  simp only [AN]
  rw [G,k1,y9]
  have I:af.sq (af.qv b n d)=aa.fT (aa.val b n) 0:=aeS (aa.val b n) (fU d)
  rw [I]
  rfl
 ·cases h
end
end Go.Proofs.YtamcpiicmfielaaGreat.L
namespace Go.Proofs.YtamcpiicmfielaaGreat.L
open Go Go.V Go.RowKit Go.Proofs.YtamcpiicmfielaaGreat.Sp Go.Proofs.YtamcpiicmfielaaGreat.F
open Go.Proofs (Tryz.prog)
noncomputable section
theorem wU:bf Tryz.prog (jD aa bd af):=(((qY.add yo).add XU).add Ym).add XS
theorem mW {n d:ByteArray} (h:af.ms n d=true) (b:Bool):n.size≤3∧d.size≤3∧af.mn b n d=aa.val b n∧af.md n d=dn d∧(aa.val b n).natAbs < 16777216∧dn d < 16777216:=by
 have h':gM n d=true:=h
 have G:=h'
 unfold gM at G
 rw [Bool.and_eq_true,decide_eq_true_eq,decide_eq_true_eq] at G
 have e1:af.mn b n d=bif gM n d then aa.val b n else 0:=rfl
 have I:af.md n d=bif gM n d then dn d else 0:=rfl
 rw [h'] at e1 I
 have J:vS n < 16777216:=Nat.lt_of_lt_of_le (lK n) (Nat.pow_le_pow_right (by decide:0 < 256) G.1)
 have v2:vS d < 16777216:=Nat.lt_of_lt_of_le (lK d) (Nat.pow_le_pow_right (by decide:0 < 256) G.2)
 refine ⟨G.1,G.2,e1,I,by rw [← lL];exact J, ?_⟩
 unfold dn
 grind
theorem rR {z:Int} (h: -72057594037927936 < z∧z < 72057594037927936):j7 z=true:=by
 unfold j7
 grind
theorem mX {x y:Int} (G:x.natAbs < 16777216) (I:y.natAbs < 16777216):(x*y).natAbs≤281474976710656:=by
 rw [Int.natAbs_mul]
 exact Nat.le_trans (Nat.mul_le_mul (Nat.le_of_lt G) (Nat.le_of_lt I)) (by decide)
theorem AI {n d m e:ByteArray} (G:af.ok n d=true) (I:af.ok m e=true):∀ (b c:Bool),aa.ok n=true∧aa.ok m=true∧aa.ok (af.fd d)=true∧aa.ok (af.fd e)=true∧
  bs (aa.val b n).natAbs≤1099511627776∧bs (aa.val c m).natAbs≤1099511627776∧bs (dn d).natAbs≤1099511627776∧bs (dn e).natAbs≤1099511627776:=by
 intro b c
 obtain ⟨k1,Z,_⟩:=rV G
 obtain ⟨ab,aE,_⟩:=rV I
 obtain ⟨z1,z2⟩:=wc G
 obtain ⟨z3,z4⟩:=wc I
 have J:=dK b n
 have M:=dK c m
 have O:=rf d
 have U:=rf e
 grind
theorem Lw:Entry Tryz.prog 29 (wI af):=by
 refine bg (E:= ⟨jD aa bd af,au,aq⟩) (u:=10) (d:=10) wU aN mixed (by kernel_rfl) (fun args r h=> ?_)
 unfold wI mB at h
 split at h
 ·rename_i b n d c m e
  simp only [Option.some.injEq,Prod.mk.injEq,Bool.and_eq_true] at h
  obtain ⟨⟨I,J⟩,rfl⟩:=h
  have G:=acI aa bd af b c n d m e
  obtain ⟨k1,b0,b1,b2,b6,b7,ch,ct⟩:=AI I J b c
  have p1:=fU d
  have p2:=fU e
  have M:af.qv b n d+af.qv c m e=Rat.divInt (aa.val b n*dn e+aa.val c m*dn d) (dn d*dn e):=YL _ _ (yn d) (yn e)
  have q1:=lg (aa.val b n) (dn e)
  have q2:=lg (aa.val c m) (dn d)
  have c5:=lg (dn d) (dn e)
  have c6:=Un (aa.val b n*dn e) (aa.val c m*dn d)
  have p3:=Int.mul_pos p1 p2
  have a7:∀ x y,af.fr x y=Rat.divInt x y:=fun x y=>rfl
  simp only [eX,mD,a7] at G
  rw [I,J,k1,b0,b1,b2,bW (z:=aa.val b n*dn e) (by omega),bW (z:=aa.val c m*dn d) (by omega),bW (z:=dn d*dn e) (by omega),bW (z:=aa.val b n*dn e+aa.val c m*dn d) (by omega),dT p3,← M] at G
  have b5:∀ u v:Bool,(u=true→af.ms n d=true)→(v=true→af.ms m e=true)→af.ms n d=u→af.ms m e=v→aF Tryz.prog ⟨jD aa bd af,au,aq⟩ 10 10 29 [.agg [.val (.bool b), .val (.string n), .val (.string d)], .agg [.val (.bool c), .val (.string m), .val (.string e)]]=some (af.rat (af.qv b n d+af.qv c m e)):=by
   intro u v bx bD a1 a6
   rw [G,a1,a6]
   cases u
   ·rfl
   ·cases v
    ·rfl
    ·obtain ⟨_,_,e1,Z,O,b3⟩:=mW (bx rfl) b
     obtain ⟨_,_,ab,aE,U,b4⟩:=mW (bD rfl) c
     rw [e1,Z,ab,aE]
     have c0:=mX (x:=aa.val b n) (y:=dn e) O (by omega)
     have c3:=mX (x:=aa.val c m) (y:=dn d) U (by omega)
     have c4:=mX (x:=dn d) (y:=dn e) (by omega) (by omega)
     rw [aM (z:=aa.val b n*dn e) (by omega),aM (z:=aa.val c m*dn d) (by omega),aM (z:=aa.val b n*dn e+aa.val c m*dn d) (by omega),aM (z:=dn d*dn e) (by omega),rR (z:=aa.val b n*dn e+aa.val c m*dn d) (by omega),rR (z:=dn d*dn e) (by omega),dT p3,← M]
     rfl
  grind
 ·cases h
theorem XY:Entry Tryz.prog 30 (GL af):=by
 refine bg (E:= ⟨jD aa bd af,au,aq⟩) (u:=10) (d:=10) wU aN mixed (by kernel_rfl) (fun args r h=> ?_)
 unfold GL mB at h
 split at h
 ·rename_i b n d c m e
  simp only [Option.some.injEq,Prod.mk.injEq,Bool.and_eq_true] at h
  obtain ⟨⟨I,J⟩,rfl⟩:=h
  have G:=acQ aa bd af b c n d m e
  obtain ⟨k1,b0,b1,b2,b6,b7,ch,ct⟩:=AI I J b c
  have p1:=fU d
  have p2:=fU e
  have M:af.qv b n d*af.qv c m e=Rat.divInt (aa.val b n*aa.val c m) (dn d*dn e):=L9 _ _ _ _
  have q1:=lg (aa.val b n) (aa.val c m)
  have c4:=lg (dn d) (dn e)
  have p3:=Int.mul_pos p1 p2
  have a7:∀ x y,af.fr x y=Rat.divInt x y:=fun x y=>rfl
  simp only [eX,mD,a7] at G
  rw [I,J,k1,b0,b1,b2,bW (z:=aa.val b n*aa.val c m) (by omega),bW (z:=dn d*dn e) (by omega),dT p3,← M] at G
  have b5:∀ u v:Bool,(u=true→af.ms n d=true)→(v=true→af.ms m e=true)→af.ms n d=u→af.ms m e=v→aF Tryz.prog ⟨jD aa bd af,au,aq⟩ 10 10 30 [.agg [.val (.bool b), .val (.string n), .val (.string d)], .agg [.val (.bool c), .val (.string m), .val (.string e)]]=some (af.rat (af.qv b n d*af.qv c m e)):=by
   intro u v bx bD a1 a6
   rw [G,a1,a6]
   cases u
   ·rfl
   ·cases v
    ·rfl
    ·obtain ⟨_,_,e1,Z,O,b3⟩:=mW (bx rfl) b
     obtain ⟨_,_,ab,aE,U,b4⟩:=mW (bD rfl) c
     rw [e1,Z,ab,aE]
     have c0:=mX (x:=aa.val b n) (y:=aa.val c m) O U
     have c3:=mX (x:=dn d) (y:=dn e) (by omega) (by omega)
     rw [aM (z:=aa.val b n*aa.val c m) (by omega),aM (z:=dn d*dn e) (by omega),rR (z:=aa.val b n*aa.val c m) (by omega),rR (z:=dn d*dn e) (by omega),dT p3,← M]
     rfl
  grind
 ·cases h
theorem pC:Entry Tryz.prog 23 (qK af):=by
 refine bg (E:= ⟨jD aa bd af,au,aq⟩) (u:=10) (d:=10) wU aN mixed (by kernel_rfl) (fun args r h=> ?_)
 unfold qK mB at h
 split at h
 ·rename_i b n d c m e
  simp only [Option.some.injEq,Prod.mk.injEq,Bool.and_eq_true] at h
  obtain ⟨⟨I,J⟩,rfl⟩:=h
  have G:=acM aa bd af b c n d m e
  obtain ⟨k1,b0,b1,b2,b6,b7,ch,ct⟩:=AI I J b c
  have p1:=fU d
  have p2:=fU e
  have M:af.cq (af.qv b n d) (af.qv c m e)=cR (aa.val b n*dn e) (aa.val c m*dn d):=C1 _ _ p1 p2
  have q1:=lg (aa.val b n) (dn e)
  have q2:=lg (aa.val c m) (dn d)
  simp only [eX,mD] at G
  rw [I,J,k1,b0,b1,b2,bW (z:=aa.val b n*dn e) (by omega),bW (z:=aa.val c m*dn d) (by omega)] at G
  have bD:aa.fT (aa.val b n*dn e) (aa.val c m*dn d)=af.cq (af.qv b n d) (af.qv c m e):=M.symm
  rw [bD] at G
  have b5:∀ u v:Bool,(u=true→af.ms n d=true)→(v=true→af.ms m e=true)→af.ms n d=u→af.ms m e=v→aF Tryz.prog ⟨jD aa bd af,au,aq⟩ 10 10 23 [.agg [.val (.bool b), .val (.string n), .val (.string d)], .agg [.val (.bool c), .val (.string m), .val (.string e)]]=some (.val (.int .i64 (af.cq (af.qv b n d) (af.qv c m e)))):=by
   intro u v a7 bx a1 a6
   rw [G,a1,a6]
   cases u
   ·rfl
   ·cases v
    ·rfl
    ·obtain ⟨_,_,e1,Z,O,b3⟩:=mW (a7 rfl) b
     obtain ⟨_,_,ab,aE,U,b4⟩:=mW (bx rfl) c
     rw [e1,Z,ab,aE]
     have c0:=mX (x:=aa.val b n) (y:=dn e) O (by omega)
     have c3:=mX (x:=aa.val c m) (y:=dn d) U (by omega)
     rw [aM (z:=aa.val b n*dn e) (by omega),aM (z:=aa.val c m*dn d) (by omega),M]
     unfold cR
     grind
  grind
 ·cases h
theorem acO (x:Int) {y:Int} (I:0 < y):af.qe (Rat.divInt x y)=ze x:=by
 have h:af.qe (Rat.divInt x y)=if Rat.divInt x y=0 then 10 else 0:=rfl
 rw [h]
 unfold ze
 by_cases G:x=0
 ·simp_all
 ·rw [if_neg G,if_neg (fun h=>G ((YN (by omega)).1 h))]
theorem X1:Entry Tryz.prog 42 (GN af):=by
 refine bg (E:= ⟨aw 84 (qL aa bd af) (jD aa bd af),au,aq⟩) (u:=10) (d:=10) (wU.add Db) aN mixed (by kernel_rfl) (fun args r h=> ?_)
 unfold GN mB at h
 split at h
 ·rename_i b n d c m e
  simp only [Option.some.injEq,Prod.mk.injEq,Bool.and_eq_true] at h
  obtain ⟨⟨J,M⟩,rfl⟩:=h
  have G:=acV aa bd af b c n d m e
  obtain ⟨k1,aE,a1,a6,a7,bx,bD,b0⟩:=AI J M b c
  have p1:=fU d
  have p2:=fU e
  have q1:=lg (aa.val b n) (dn e)
  have q2:=lg (dn d) (aa.val c m)
  have Z:af.qv b n d / af.qv c m e=Rat.divInt (aa.val b n*dn e) (dn d*aa.val c m):=YM _ _ _ _
  have O:af.qe (af.qv c m e)=ze (aa.val c m):=acO _ p2
  have U:∀ x y,af.fr x y=Rat.divInt x y:=fun x y=>rfl
  have ab:ze (dn d*aa.val c m)=ze (aa.val c m):=by
   unfold ze
   by_cases I:aa.val c m=0
   ·grind
   ·rw [if_neg I,if_neg (abA (yn d) I)]
  simp only [eX,mD,U,Ri,ab] at G
  rw [J,M,k1,aE,a1,a6,bW (z:=aa.val b n*dn e) (by omega),bW (z:=dn d*aa.val c m) (by omega),← Z,← O] at G
  exact G
 ·cases h
theorem X4:Entry Tryz.prog 31 (GQ af):=by
 refine bg (E:= ⟨aw 29 (wI af) aK,au,aq⟩) (u:=10) (d:=10) ((aJ _).add Lw) aN mixed (by kernel_rfl) (fun args r h=> ?_)
 unfold GQ mB at h
 split at h
 ·rename_i b n d c m e
  simp only [Option.some.injEq,Prod.mk.injEq,Bool.and_eq_true] at h
  obtain ⟨⟨I,J⟩,rfl⟩:=h
  have G:=acZ af b c n d m e
  simp only [OQ] at G
  rw [I,J,← Rat.sub_eq_add_neg] at G
  exact G
 ·cases h
theorem YJ (b:Bool) (n d:ByteArray):zq (aa.val b n) (dn d)=af.fl (af.qv b n d):=by
 have h:af.fl (af.qv b n d)=(Rat.divInt (aa.val b n) (dn d)).floor:=rfl
 rw [h,L4 _ (fU d)]
 unfold zq
 grind
theorem XX:Entry Tryz.prog 155 (Aq aa af):=by
 refine bg (E:= ⟨aw 68 (wH af) (aw 115 (sM aa bd) aK),au,aq⟩) (u:=10) (d:=10) (((aJ _).add Lp).add Lu) aN mixed (by kernel_rfl) (fun args r h=> ?_)
 unfold Aq mA at h
 split at h
 ·rename_i b n d
  simp only [Option.some.injEq,Prod.mk.injEq] at h
  obtain ⟨I,rfl⟩:=h
  obtain ⟨k1,J,M⟩:=rV I
  have G:=acP aa bd af b n d
  simp only [mD,Ie,YJ] at G
  rw [I,k1,J] at G
  exact G
 ·cases h
theorem Uk (q:Rat):bs q.floor.natAbs≤bs q.num.natAbs+1:=by
 have h:=L4 q.num (d:=q.den) (by have:=q.den_pos;omega)
 rw [Rat.num_divInt_den] at h
 have G:=Uo q.num q.den
 unfold zq at G
 grind
theorem XW:Entry Tryz.prog 122 (GK aa af):=by
 refine bg (E:= ⟨aw 155 (Aq aa af) (aw 156 (Ar af) (aw 121 (lH aa) aK)),au,aq⟩) (u:=10) (d:=10) ((((aJ _).add Ls).add XZ).add XX) aN mixed (by kernel_rfl) (fun args r h=> ?_)
 unfold GK mA at h
 split at h
 ·rename_i b n d
  simp only [Option.some.injEq,Prod.mk.injEq] at h
  obtain ⟨I,rfl⟩:=h
  obtain ⟨z1,z2⟩:=wc I
  have Z:=Gt b n d
  have G:=acK aa bd af b n d
  have M:∀ q,af.fl q=q.floor:=fun q=>rfl
  have J:af.cl (af.qv b n d)=(af.qv b n d).ceil:=rfl
  simp only [fK,eX,M] at G
  rw [J,Rat.ceil_eq_neg_floor_neg]
  generalize af.qv b n d=q at*
  have e1:=Uk (-q)
  have O:=afR q
  have U:bs (-q).num.natAbs≤cK (-q):=Nat.le_max_left _ _
  rw [I,rW (q:= -q) (by omega),bW (z:=(-q).floor) (by omega)] at G
  exact G
 ·cases h
end
end Go.Proofs.YtamcpiicmfielaaGreat.L
