import Derived.Test.YtamcpiicmfielaaGreatZMD
set_option linter.unusedVariables false
set_option linter.unusedSimpArgs false
namespace Go.Proofs.YtamcpiicmfielaaGreat.L
open Go Go.V Go.RowKit Go.Proofs.YtamcpiicmfielaaGreat.Sp
open Go.Proofs (Tryz.prog)
noncomputable section
structure Qg where
 qv:Bool→ByteArray→ByteArray→Rat
 qn:Rat→Bool
 qs:Rat→ByteArray
 qd:Rat→ByteArray
 ok:ByteArray→ByteArray→Bool
 fd:ByteArray→ByteArray
 fr:Int→Int→Rat
 cq:Rat→Rat→Int
 sq:Rat→Int
 ms:ByteArray→ByteArray→Bool
 mn:Bool→ByteArray→ByteArray→Int
 md:ByteArray→ByteArray→Int
 ck:Bool→ByteArray→ByteArray→Int
 nu:Rat→Int
 de:Rat→Int
 qe:Rat→Int
 fl:Rat→Int
 cl:Rat→Int
 aL:ByteArray→ByteArray→Bool
 sp:Rat→Rat→Rat
 se:Rat→Rat→Int
def Qg.rat (j:Qg) (q:Rat):AV:= .agg [.val (.bool (j.qn q)), .val (.string (j.qs q)), .val (.string (j.qd q))]
abbrev TF:Type:=List AV→Option (Bool×AV)
def vC (j:Qg):TF:=fun args=>match args with | [.agg [.val (.bool b), .val (.string n), .val (.string d)]]=>some (j.ok n d, .agg [.val (.bool b), .val (.string n), .val (.bool false), .val (.string (j.fd d))]) | _=>none
def FB (j:Sg) (G:Qg):TF:=fun args=>match args with | [.agg [.val (.bool b), .val (.string s), .val (.bool c), .val (.string t)]]=>some (j.ok s&&j.ok t&&decide (0 < j.val c t),G.rat (G.fr (j.val b s) (j.val c t))) | _=>none
def pH (j:Qg):TF:=fun args=>match args with | [.agg [.val (.bool b), .val (.string n), .val (.string d)]]=>some (true, .tup [.val (.int .i64 (j.mn b n d)), .val (.int .i64 (j.md n d)), .val (.bool (j.ms n d))]) | _=>none
def ff (z:Int):Bool:=decide (-72057594037927936 < z)&&decide (z < 72057594037927936)
def pL (j:Qg):TF:=fun args=>match args with | [.val (.int .i64 n), .val (.int .i64 d)]=>some (ff n&&ff d&&decide (0 < d),j.rat (j.fr n d)) | _=>none
def zt (j:Sg):TF:=fun args=>match args with | [.val (.int .i64 n)]=>some (decide (0≤n)&&decide (n≤9223372036854775807), .val (.string (j.mg n.toNat))) | _=>none
def pG (j:Sg):TF:=fun args=>match args with | [.val (.string s)]=>some (decide (s.size≤3), .val (.int .i64 (j.vs s))) | _=>none
def FD (j:Qg):TF:=fun args=>match args with | [.val (.int .i64 z)]=>some (cI z,j.rat (j.fr z 1)) | _=>none
def FE (X:Xg) (j:Qg):TF:=fun args=>match args with | [.val (.int .i64 n), .val (.int .i64 d)]=>some (cI n&&cI d, .tup [j.rat (j.fr n d), .val (.int .i64 (X.de d))]) | _=>none
def pI (j:Sg) (X:Xg) (G:Qg):TF:=fun args=>match args with | [.agg [.val (.bool b), .val (.string s)], .agg [.val (.bool c), .val (.string t)]]=>some (j.ok s&&j.ok t, .tup [G.rat (G.fr (j.val b s) (j.val c t)), .val (.int .i64 (X.de (j.val c t)))]) | _=>none
def l8 (j:Qg) (f:Bool→ByteArray→ByteArray→AV):TF:=fun args=>match args with | [.agg [.val (.bool b), .val (.string n), .val (.string d)]]=>some (j.ok n d,f b n d) | _=>none
def l9 (j:Qg) (f:Rat→Rat→AV):TF:=fun args=>match args with | [.agg [.val (.bool b), .val (.string n), .val (.string d)], .agg [.val (.bool c), .val (.string m), .val (.string e)]]=>some (j.ok n d&&j.ok m e,f (j.qv b n d) (j.qv c m e)) | _=>none
def ma (j:Qg):TF:=l8 j fun b n d=> .val (.int .i64 (j.ck b n d))
def y7 (j:Qg):TF:=l8 j fun b n d=>j.rat (-(j.qv b n d))
def y8 (j:Qg):TF:=l8 j fun b n d=> .val (.int .i64 (j.sq (j.qv b n d)))
def y6 (G:Sg) (j:Qg):TF:=l8 j fun b n d=>G.int (j.fl (j.qv b n d))
def FC (G:Sg) (j:Qg):TF:=l8 j fun b n d=>G.int (j.cl (j.qv b n d))
def nX (j:Qg):TF:=l9 j fun x y=>j.rat (x+y)
def pJ (j:Qg):TF:=l9 j fun x y=>j.rat (x - y)
def rF (j:Qg):TF:=l9 j fun x y=>j.rat (x*y)
def vD (j:Qg):TF:=l9 j fun x y=> .tup [j.rat (x / y), .val (.int .i64 (j.qe y))]
def rE (j:Qg):TF:=l9 j fun x y=> .val (.int .i64 (j.cq x y))
end
end Go.Proofs.YtamcpiicmfielaaGreat.L
namespace Go.Proofs.YtamcpiicmfielaaGreat.L
open Go Go.V Go.RowKit Go.Proofs.YtamcpiicmfielaaGreat.Sp
open Go.Proofs (Tryz.prog)
noncomputable section
def oa (j:Sg):FuncId→TF:=an 64 (nV j) (an 69 (kB j) aF)
theorem Y0 (j:Sg) (b:Bool) (n d:ByteArray):aD Tryz.prog ⟨oa j,ar,aq⟩ 10 10 68 [.agg [.val (.bool b), .val (.string n), .val (.string d)]]=
  (bif j.ok d&&j.ok (j.ms (0:Int)) then (bif decide (j.fD (j.val false d) (j.val (j.ng (0:Int)) (j.ms (0:Int)))=(0:Int)) then some (.agg [(.val (.bool b)),(.val (.string n)),(.val (.bool (j.ng (1:Int)))),(.val (.string (j.ms (1:Int))))]) else some (.agg [(.val (.bool b)),(.val (.string n)),(.val (.bool false)),(.val (.string d))])) else none):=by kernel_rfl
def zK (j:Sg) (X:Xg):FuncId→TF:=an 114 (yX j X) (an 115 (rB j X) (oa j))
theorem YW (j:Sg) (X:Xg) (b c:Bool) (s t:ByteArray):letI I:=(X.gcd (j.val b s) (j.val c t));letI G:=(j.val (j.ng I) (j.ms I));
  (aD Tryz.prog ⟨zK j X,ar,aq⟩ 10 10 70 [.agg [.val (.bool b), .val (.string s), .val (.bool c), .val (.string t)]]=(bif j.ok s&&j.ok (j.ms (0:Int)) then (bif decide (j.fD (j.val b s) (j.val (j.ng (0:Int)) (j.ms (0:Int)))=(0:Int)) then some (.agg [(.val (.bool false)),(.val (.string (ByteArray.mk #[]))),(.val (.string (ByteArray.mk #[])))]) else (bif j.ok s&&j.ok t then (bif j.ok s&&j.ok (j.ms I) then (bif j.ok t&&j.ok (j.ms I) then (bif j.ok (j.ms (X.dq (j.val c t) G))&&j.ok (j.ms (1:Int)) then (bif !decide (j.fD (j.val (j.ng (X.dq (j.val c t) G)) (j.ms (X.dq (j.val c t) G))) (j.val (j.ng (1:Int)) (j.ms (1:Int)))=(0:Int)) then some (.agg [(.val (.bool (j.ng (X.dq (j.val b s) G)))),(.val (.string (j.ms (X.dq (j.val b s) G)))),(.val (.string (j.ms (X.dq (j.val c t) G))))]) else some (.agg [(.val (.bool (j.ng (X.dq (j.val b s) G)))),(.val (.string (j.ms (X.dq (j.val b s) G)))),(.val (.string (ByteArray.mk #[])))])) else none) else none) else none) else none)) else none)):=by kernel_rfl
def G4 (j:Sg):FuncId→TF:=an 138 (pG j) aF
theorem Yt (j:Sg) (b:Bool) (n d:ByteArray):aD Tryz.prog ⟨G4 j,ar,aq⟩ 10 10 105 [.agg [.val (.bool b), .val (.string n), .val (.string d)]]=
  (bif decide ((3:Int) < (↑n.size:Int)) then some (.tup [(.val (.int .i64 0)),(.val (.int .i64 0)),(.val (.bool false))]) else (bif decide ((3:Int) < (↑d.size:Int)) then some (.tup [(.val (.int .i64 0)),(.val (.int .i64 0)),(.val (.bool false))]) else (bif decide (n.size≤(3:Nat)) then (bif decide (d.size≤(3:Nat)) then (bif b then some (.tup [(.val (.int .i64 (IntKind.i64.wrap ((0:Int) - (↑(j.vs n):Int))))),(.val (.int .i64 (kK (↑(j.vs d):Int) (1:Int)))),(.val (.bool true))]) else some (.tup [(.val (.int .i64 ((↑(j.vs n):Int)))),(.val (.int .i64 (kK (↑(j.vs d):Int) (1:Int)))),(.val (.bool true))])) else none) else none))):=by kernel_rfl
def jf (j:Sg) (X:Xg) (G:Qg):FuncId→TF:=an 70 (FB j G) (an 68 (vC G) (an 121 (kX j) (oa j)))
theorem ZL (j:Sg) (X:Xg) (G:Qg) (z:Int):aD Tryz.prog ⟨jf j X G,ar,aq⟩ 10 10 28 [.val (.int .i64 z)]=
  (bif cI z then (bif j.ok (j.ms z)&&j.ok (j.ms (1:Int))&&decide ((0:Int) < j.val (j.ng (1:Int)) (j.ms (1:Int))) then some (.agg [(.val (.bool (G.qn (G.fr (j.val (j.ng z) (j.ms z)) (j.val (j.ng (1:Int)) (j.ms (1:Int))))))),(.val (.string (G.qs (G.fr (j.val (j.ng z) (j.ms z)) (j.val (j.ng (1:Int)) (j.ms (1:Int))))))),(.val (.string (G.qd (G.fr (j.val (j.ng z) (j.ms z)) (j.val (j.ng (1:Int)) (j.ms (1:Int)))))))]) else none) else none):=by kernel_rfl
theorem ZK (j:Sg) (X:Xg) (G:Qg) (b c:Bool) (s t:ByteArray):letI I:=(G.fr (j.val (j.ng (-j.val b s)) (j.ms (-j.val b s))) (j.val (j.ng (-j.val c t)) (j.ms (-j.val c t))));
  (aD Tryz.prog ⟨jf j X G,ar,aq⟩ 10 10 84 [.agg [.val (.bool b), .val (.string s)], .agg [.val (.bool c), .val (.string t)]]=(bif j.ok t&&j.ok (ByteArray.mk #[]) then (bif decide (j.fD (j.val c t) (j.val false (ByteArray.mk #[]))=(0:Int)) then some (.tup [(.agg [(.val (.bool false)),(.val (.string (ByteArray.mk #[]))),(.val (.string (ByteArray.mk #[])))]),(.val (.int .i64 10))]) else (bif decide (j.fD (j.val c t) (j.val false (ByteArray.mk #[]))=(-1:Int)) then (bif j.ok s then (bif j.ok t then (bif j.ok (j.ms (-j.val b s))&&j.ok (j.ms (-j.val c t))&&decide ((0:Int) < j.val (j.ng (-j.val c t)) (j.ms (-j.val c t))) then some (.tup [(.agg [(.val (.bool (G.qn I))),(.val (.string (G.qs I))),(.val (.string (G.qd I)))]),(.val (.int .i64 0))]) else none) else none) else none) else (bif j.ok s&&j.ok t&&decide ((0:Int) < j.val c t) then some (.tup [(.agg [(.val (.bool (G.qn (G.fr (j.val b s) (j.val c t))))),(.val (.string (G.qs (G.fr (j.val b s) (j.val c t))))),(.val (.string (G.qd (G.fr (j.val b s) (j.val c t)))))]),(.val (.int .i64 0))]) else none))) else none)):=by kernel_rfl
theorem ZN (j:Sg) (X:Xg) (G:Qg) (n d:Int):aD Tryz.prog ⟨an 84 (pI j X G) (oa j),ar,aq⟩ 10 10 87 [.val (.int .i64 n), .val (.int .i64 d)]=
  (bif cI n then (bif cI d then (bif j.ok (j.ms n)&&j.ok (j.ms d) then some (.tup [(.agg [(.val (.bool (G.qn (G.fr (j.val (j.ng n) (j.ms n)) (j.val (j.ng d) (j.ms d)))))),(.val (.string (G.qs (G.fr (j.val (j.ng n) (j.ms n)) (j.val (j.ng d) (j.ms d)))))),(.val (.string (G.qd (G.fr (j.val (j.ng n) (j.ms n)) (j.val (j.ng d) (j.ms d))))))]),(.val (.int .i64 (X.de (j.val (j.ng d) (j.ms d)))))]) else none) else none) else none):=by kernel_rfl
theorem ZF (G:Sg) (X:Xg) (j:Qg) (b:Bool) (n d:ByteArray):aD Tryz.prog ⟨jf G X j,ar,aq⟩ 10 10 49 [.agg [.val (.bool b), .val (.string n), .val (.string d)]]=
  (bif j.ok n d then (bif G.ok n&&G.ok (j.fd d)&&decide ((0:Int) < G.val false (j.fd d)) then (bif bif true then !(b==j.qn (j.fr (G.val b n) (G.val false (j.fd d)))&&(aG n (j.qs (j.fr (G.val b n) (G.val false (j.fd d))))&&(aG d (j.qd (j.fr (G.val b n) (G.val false (j.fd d))))&&true))) else b==j.qn (j.fr (G.val b n) (G.val false (j.fd d)))&&(aG n (j.qs (j.fr (G.val b n) (G.val false (j.fd d))))&&(aG d (j.qd (j.fr (G.val b n) (G.val false (j.fd d))))&&true)) then some (.val (.int .i64 1)) else some (.val (.int .i64 0))) else none) else none):=by kernel_rfl
theorem ZJ (G:Sg) (X:Xg) (j:Qg) (b:Bool) (n d:ByteArray):aD Tryz.prog ⟨jf G X j,ar,aq⟩ 10 10 156 [.agg [.val (.bool b), .val (.string n), .val (.string d)]]=
  (bif j.ok n d then (bif G.ok n&&G.ok (j.fd d)&&decide ((0:Int) < G.val false (j.fd d)) then some (.agg [(.val (.bool (j.qn (j.fr (G.val (!b) n) (G.val false (j.fd d)))))),(.val (.string (j.qs (j.fr (G.val (!b) n) (G.val false (j.fd d)))))),(.val (.string (j.qd (j.fr (G.val (!b) n) (G.val false (j.fd d))))))]) else none) else none):=by kernel_rfl
theorem ZO (j:Sg) (X:Xg) (G:Qg) (b:Bool) (n d:ByteArray):aD Tryz.prog ⟨jf j X G,ar,aq⟩ 10 10 27 [.agg [.val (.bool b), .val (.string n), .val (.string d)]]=
  (bif G.ok n d then (bif j.ok n&&j.ok (ByteArray.mk #[]) then some (.val (.int .i64 (j.fD (j.val b n) (j.val false (ByteArray.mk #[]))))) else none) else none):=by kernel_rfl
def je (j:Sg) (X:Xg) (G:Qg):FuncId→TF:=an 105 (pH G) (an 73 (pL G) (an 65 (rC j) (an 75 (kA j) (jf j X G))))
theorem ZD (G:Sg) (X:Xg) (j:Qg) (b c:Bool) (n d m e:ByteArray):letI N:=(G.val (G.ng (G.val b n*G.val false (j.fd e))) (G.ms (G.val b n*G.val false (j.fd e)))+G.val (G.ng (G.val c m*G.val false (j.fd d))) (G.ms (G.val c m*G.val false (j.fd d))));letI J:=(G.val false (j.fd d)*G.val false (j.fd e));letI M:=(j.fr (G.val (G.ng N) (G.ms N)) (G.val (G.ng J) (G.ms J)));letI O:Option AV:=(bif j.ok n d then (bif j.ok m e then (bif G.ok n&&G.ok (j.fd e) then (bif G.ok m&&G.ok (j.fd d) then (bif G.ok (G.ms (G.val b n*G.val false (j.fd e)))&&G.ok (G.ms (G.val c m*G.val false (j.fd d))) then (bif G.ok (j.fd d)&&G.ok (j.fd e) then (bif G.ok (G.ms N)&&G.ok (G.ms J)&&decide ((0:Int) < G.val (G.ng J) (G.ms J)) then some (.agg [(.val (.bool (j.qn M))),(.val (.string (j.qs M))),(.val (.string (j.qd M)))]) else none) else none) else none) else none) else none) else none) else none);letI I:=(j.mn b n d*j.md m e+j.mn c m e*j.md n d);
  (aD Tryz.prog ⟨je G X j,ar,aq⟩ 10 10 29 [.agg [.val (.bool b), .val (.string n), .val (.string d)], .agg [.val (.bool c), .val (.string m), .val (.string e)]]=(bif j.ms n d then (bif j.ms m e then (bif aj IntKind.i64 (j.mn b n d*j.md m e) then (bif aj IntKind.i64 (j.mn c m e*j.md n d) then (bif aj IntKind.i64 I then (bif aj IntKind.i64 (j.md n d*j.md m e) then (bif ff I&&ff (j.md n d*j.md m e)&&decide ((0:Int) < j.md n d*j.md m e) then some (.agg [(.val (.bool (j.qn (j.fr I (j.md n d*j.md m e))))),(.val (.string (j.qs (j.fr I (j.md n d*j.md m e))))),(.val (.string (j.qd (j.fr I (j.md n d*j.md m e)))))]) else none) else none) else none) else none) else none) else O) else O)):=by kernel_rfl
theorem ZI (G:Sg) (X:Xg) (j:Qg) (b c:Bool) (n d m e:ByteArray):letI I:=(G.val false (j.fd d)*G.val false (j.fd e));letI J:=(j.fr (G.val (G.ng (G.val b n*G.val c m)) (G.ms (G.val b n*G.val c m))) (G.val (G.ng I) (G.ms I)));letI N:Option AV:=(bif j.ok n d then (bif j.ok m e then (bif G.ok n&&G.ok m then (bif G.ok (j.fd d)&&G.ok (j.fd e) then (bif G.ok (G.ms (G.val b n*G.val c m))&&G.ok (G.ms I)&&decide ((0:Int) < G.val (G.ng I) (G.ms I)) then some (.agg [(.val (.bool (j.qn J))),(.val (.string (j.qs J))),(.val (.string (j.qd J)))]) else none) else none) else none) else none) else none);letI M:=(j.fr (j.mn b n d*j.mn c m e) (j.md n d*j.md m e));
  (aD Tryz.prog ⟨je G X j,ar,aq⟩ 10 10 30 [.agg [.val (.bool b), .val (.string n), .val (.string d)], .agg [.val (.bool c), .val (.string m), .val (.string e)]]=(bif j.ms n d then (bif j.ms m e then (bif aj IntKind.i64 (j.mn b n d*j.mn c m e) then (bif aj IntKind.i64 (j.md n d*j.md m e) then (bif ff (j.mn b n d*j.mn c m e)&&ff (j.md n d*j.md m e)&&decide ((0:Int) < j.md n d*j.md m e) then some (.agg [(.val (.bool (j.qn M))),(.val (.string (j.qs M))),(.val (.string (j.qd M)))]) else none) else none) else none) else N) else N)):=by kernel_rfl
theorem ZG (j:Sg) (X:Xg) (G:Qg) (b c:Bool) (n d m e:ByteArray):letI I:Option AV:=(bif G.ok n d then (bif G.ok m e then (bif j.ok n&&j.ok (G.fd e) then (bif j.ok m&&j.ok (G.fd d) then (bif j.ok (j.ms (j.val b n*j.val false (G.fd e)))&&j.ok (j.ms (j.val c m*j.val false (G.fd d))) then some (.val (.int .i64 (j.fD (j.val (j.ng (j.val b n*j.val false (G.fd e))) (j.ms (j.val b n*j.val false (G.fd e)))) (j.val (j.ng (j.val c m*j.val false (G.fd d))) (j.ms (j.val c m*j.val false (G.fd d))))))) else none) else none) else none) else none) else none);
  (aD Tryz.prog ⟨je j X G,ar,aq⟩ 10 10 23 [.agg [.val (.bool b), .val (.string n), .val (.string d)], .agg [.val (.bool c), .val (.string m), .val (.string e)]]=(bif G.ms n d then (bif G.ms m e then (bif aj IntKind.i64 (G.mn b n d*G.md m e) then (bif aj IntKind.i64 (G.mn c m e*G.md n d) then (bif decide (G.mn b n d*G.md m e < G.mn c m e*G.md n d) then some (.val (.int .i64 (-1))) else (bif decide (G.mn c m e*G.md n d < G.mn b n d*G.md m e) then some (.val (.int .i64 1)) else some (.val (.int .i64 0)))) else none) else none) else I) else I)):=by kernel_rfl
theorem ZM (j:Sg) (X:Xg) (G:Qg) (b c:Bool) (n d m e:ByteArray):aD Tryz.prog ⟨an 84 (pI j X G) (je j X G),ar,aq⟩ 10 10 42 [.agg [.val (.bool b), .val (.string n), .val (.string d)], .agg [.val (.bool c), .val (.string m), .val (.string e)]]=
  (bif G.ok n d then (bif G.ok m e then (bif j.ok n&&j.ok (G.fd e) then (bif j.ok (G.fd d)&&j.ok m then (bif j.ok (j.ms (j.val b n*j.val false (G.fd e)))&&j.ok (j.ms (j.val false (G.fd d)*j.val c m)) then some (.tup [(.agg [(.val (.bool (G.qn (G.fr (j.val (j.ng (j.val b n*j.val false (G.fd e))) (j.ms (j.val b n*j.val false (G.fd e)))) (j.val (j.ng (j.val false (G.fd d)*j.val c m)) (j.ms (j.val false (G.fd d)*j.val c m))))))),(.val (.string (G.qs (G.fr (j.val (j.ng (j.val b n*j.val false (G.fd e))) (j.ms (j.val b n*j.val false (G.fd e)))) (j.val (j.ng (j.val false (G.fd d)*j.val c m)) (j.ms (j.val false (G.fd d)*j.val c m))))))),(.val (.string (G.qd (G.fr (j.val (j.ng (j.val b n*j.val false (G.fd e))) (j.ms (j.val b n*j.val false (G.fd e)))) (j.val (j.ng (j.val false (G.fd d)*j.val c m)) (j.ms (j.val false (G.fd d)*j.val c m)))))))]),(.val (.int .i64 (X.de (j.val (j.ng (j.val false (G.fd d)*j.val c m)) (j.ms (j.val false (G.fd d)*j.val c m))))))]) else none) else none) else none) else none) else none):=by kernel_rfl
theorem ZP (j:Qg) (b c:Bool) (n d m e:ByteArray):aD Tryz.prog ⟨an 29 (nX j) aF,ar,aq⟩ 10 10 31 [.agg [.val (.bool b), .val (.string n), .val (.string d)], .agg [.val (.bool c), .val (.string m), .val (.string e)]]=
  (bif j.ok n d&&j.ok m e then some (.agg [(.val (.bool (j.qn (j.qv b n d+j.qv (!c) m e)))),(.val (.string (j.qs (j.qv b n d+j.qv (!c) m e)))),(.val (.string (j.qd (j.qv b n d+j.qv (!c) m e))))]) else none):=by kernel_rfl
theorem ZH (j:Sg) (X:Xg) (G:Qg) (b:Bool) (n d:ByteArray):aD Tryz.prog ⟨an 68 (vC G) (an 115 (rB j X) aF),ar,aq⟩ 10 10 155 [.agg [.val (.bool b), .val (.string n), .val (.string d)]]=
  (bif G.ok n d then (bif j.ok n&&j.ok (G.fd d) then some (.agg [(.val (.bool (j.ng (X.dq (j.val b n) (j.val false (G.fd d)))))),(.val (.string (j.ms (X.dq (j.val b n) (j.val false (G.fd d))))))]) else none) else none):=by kernel_rfl
theorem ZE (G:Sg) (X:Xg) (j:Qg) (b:Bool) (n d:ByteArray):aD Tryz.prog ⟨an 155 (y6 G j) (an 156 (y7 j) (an 121 (kX G) aF)),ar,aq⟩ 10 10 122 [.agg [.val (.bool b), .val (.string n), .val (.string d)]]=
  (bif j.ok n d then (bif j.ok (j.qs (-j.qv b n d)) (j.qd (-j.qv b n d)) then (bif G.ok (G.ms (j.fl (j.qv (j.qn (-j.qv b n d)) (j.qs (-j.qv b n d)) (j.qd (-j.qv b n d))))) then some (.agg [(.val (.bool (G.ng (-G.val (G.ng (j.fl (j.qv (j.qn (-j.qv b n d)) (j.qs (-j.qv b n d)) (j.qd (-j.qv b n d))))) (G.ms (j.fl (j.qv (j.qn (-j.qv b n d)) (j.qs (-j.qv b n d)) (j.qd (-j.qv b n d))))))))),(.val (.string (G.ms (-G.val (G.ng (j.fl (j.qv (j.qn (-j.qv b n d)) (j.qs (-j.qv b n d)) (j.qd (-j.qv b n d))))) (G.ms (j.fl (j.qv (j.qn (-j.qv b n d)) (j.qs (-j.qv b n d)) (j.qd (-j.qv b n d)))))))))]) else none) else none) else none):=by kernel_rfl
end
end Go.Proofs.YtamcpiicmfielaaGreat.L
namespace Go.Proofs.YtamcpiicmfielaaGreat.L
open Go Go.V Go.RowKit Go.Proofs.YtamcpiicmfielaaGreat.Sp Go.Proofs.YtamcpiicmfielaaGreat.F
open Go.Proofs (Tryz.prog)
noncomputable section
def dn (d:ByteArray):Int:=if vS d=0 then 1 else (vS d:Int)
def tt (d:ByteArray):ByteArray:=if vS d=0 then az 1 else d
def NW:Nat→Rat→Rat→Rat
 | 0,_,_=>0
 | n+1,a,b=>if (a.ceil:Rat)≤b then (a.ceil:Rat) else ((a.ceil - 1:Int):Rat)+1 / NW n (1 / (b - ((a.ceil - 1:Int):Rat))) (1 / (a - ((a.ceil - 1:Int):Rat)))
def NV (a b:Rat):Rat:=NW (a.den+b.den) a b
def abI (x y:Rat):Rat:=if y < x then 0 else if x≤0∧0≤y then 0 else if y < 0 then -(NV (-y) (-x)) else NV x y
def iL (b:Bool) (n d:ByteArray):Rat:=Rat.divInt (Sp.val b n) (dn d)
def uZ (q:Rat):Bool:=(enc q.num).1
def yE (q:Rat):ByteArray:=(enc q.num).2
def kS (q:Rat):ByteArray:=if q.den=1 then ByteArray.mk #[] else az q.den
def ij (a b:Rat):Int:=if a < b then -1 else if b < a then 1 else 0
def gq (n d:ByteArray):Bool:=decide (n.size≤3)&&decide (d.size≤3)
def ad:Qg where
 qv:=iL
 qn:=uZ
 qs:=yE
 qd:=kS
 ok n d:=decide (n.size≤1099511627776)&&decide (d.size≤1099511627776)
 fd:=tt
 fr:=Rat.divInt
 cq:=ij
 sq a:=ij a 0
 ms:=gq
 mn b n d:=bif gq n d then Sp.val b n else 0
 md n d:=bif gq n d then dn d else 0
 ck b n d:=bif (b==uZ (iL b n d))&&aG n (yE (iL b n d))&&aG d (kS (iL b n d)) then 0 else 1
 nu q:=q.num
 de q:=q.den
 qe q:=if q=0 then 10 else 0
 fl q:=q.floor
 cl q:=q.ceil
 aL n d:=decide (n.size≤1073741824)&&decide (d.size≤1073741824)
 sp:=abI
 se x y:=if y < x then 8 else 0
theorem cU (d:ByteArray):0 < dn d:=by unfold dn;split <;> omega
theorem ox (d:ByteArray):dn d≠0:=by have:=cU d;omega
theorem aek:aa.vs (az 1)=1:=jc 1
theorem jd (d:ByteArray):aa.val false (ad.fd d)=dn d:=by
 show ((aa.vs (tt d):Nat):Int)=dn d
 unfold tt dn
 split
 ·rw [aek];rfl
 ·rfl
theorem wJ:bs 1≤1:=ib (by decide)
theorem Jy:bs 0=0:=Nat.le_zero.1 (ib (n:=0) (m:=0) (by decide))
theorem abK (d:ByteArray):(ad.fd d).size≤max d.size 1:=by
 show (tt d).size≤_
 unfold tt
 split
 ·have:(az 1).size=bs 1:=kV 1
  have:=wJ
  omega
 ·omega
theorem p8 (d:ByteArray):bs (dn d).natAbs≤max d.size 1:=by
 unfold dn
 split
 ·have:=wJ
  show bs 1≤_
  omega
 ·rw [Int.natAbs_natCast]
  have:=ot d
  have h:bs (vS d)≤d.size:=this
  omega
theorem U9 (q:Rat):dn (kS q)=q.den:=by
 have j:=q.den_pos
 unfold dn kS
 by_cases h:q.den=1
 ·rw [if_pos h,if_pos (show vS (ByteArray.mk #[])=0 from rfl),h];rfl
 ·rw [if_neg h,jc,if_neg (by omega)]
theorem gT (q:Rat):ad.qv (ad.qn q) (ad.qs q) (ad.qd q)=q:=by
 show Rat.divInt (Sp.val (enc q.num).1 (enc q.num).2) (dn (kS q))=q
 rw [Pm,U9,Rat.num_divInt_den]
theorem uY:ad.qn 0=false:=rfl
theorem u5:ad.qs 0=ByteArray.mk #[]:=lB
theorem uX:ad.qd 0=ByteArray.mk #[]:=by show kS 0=_;unfold kS;exact if_pos rfl
theorem nO:ad.rat 0= .agg [.val (.bool false), .val (.string (ByteArray.mk #[])), .val (.string (ByteArray.mk #[]))]:=by
 unfold Qg.rat;rw [uY,u5,uX]
theorem ZR:ad.qv false (ByteArray.mk #[]) (ByteArray.mk #[])=0:=by
 have:=gT 0
 rwa [uY,u5,uX] at this
theorem YS (b:Bool) (n:ByteArray):aa.val (!b) n= -aa.val b n:=Pn b n
theorem DS (b:Bool) (n d:ByteArray):ad.qv (!b) n d= -ad.qv b n d:=by
 show Rat.divInt (aa.val (!b) n) (dn d)= -Rat.divInt (aa.val b n) (dn d)
 rw [YS,Rat.neg_divInt]
theorem DR (b:Bool) (n d:ByteArray):ad.qv b n d=Rat.divInt (aa.val b n) (dn d):=rfl
def bg (q:Rat):Nat:=max (bs q.num.natAbs) (bs q.den)
theorem EF (q:Rat):(ad.qs q).size=bs q.num.natAbs:=kV _
theorem EE (q:Rat):(ad.qd q).size≤bs q.den:=by
 show (kS q).size≤_
 unfold kS
 split
 ·exact Nat.zero_le _
 ·exact Nat.le_of_eq (kV _)
theorem df {q:Rat} (h:bg q≤1099511627776):ad.ok (ad.qs q) (ad.qd q)=true:=by
 unfold bg at h
 have j:=EF q
 have G:=EE q
 show (decide _&&decide _)=true
 rw [decide_eq_true (show (ad.qs q).size≤1099511627776 by omega),decide_eq_true (show (ad.qd q).size≤1099511627776 by omega)];rfl
theorem dz {q:Rat} (h:bg q≤1073741824):ad.aL (ad.qs q) (ad.qd q)=true:=by
 unfold bg at h
 have j:=EF q
 have G:=EE q
 show (decide _&&decide _)=true
 rw [decide_eq_true (show (ad.qs q).size≤1073741824 by omega),decide_eq_true (show (ad.qd q).size≤1073741824 by omega)];rfl
theorem u0 {n d:ByteArray} (h:ad.ok n d=true):n.size≤1099511627776∧d.size≤1099511627776:=by
 have h:(decide _&&decide _)=true:=h
 rwa [Bool.and_eq_true,decide_eq_true_eq,decide_eq_true_eq] at h
theorem yD {n d:ByteArray} (h:ad.aL n d=true):n.size≤1073741824∧d.size≤1073741824:=by
 have h:(decide _&&decide _)=true:=h
 rwa [Bool.and_eq_true,decide_eq_true_eq,decide_eq_true_eq] at h
theorem DQ {n d:ByteArray} (j:n.size≤1099511627776) (G:d.size≤1099511627776):ad.ok n d=true:=by
 show (decide _&&decide _)=true
 rw [decide_eq_true j,decide_eq_true G];rfl
theorem LG (x y:Int):(Rat.divInt x y).num.natAbs≤x.natAbs:=by
 rw [Rat.num_divInt]
 refine Nat.le_trans (Int.natAbs_ediv_le_natAbs _ _) ?_
 rw [Int.natAbs_mul]
 have h:y.sign.natAbs≤1:=by rcases Int.lt_trichotomy y 0 with h | h | h <;> simp [Int.sign_eq_neg_one_of_neg,Int.sign_eq_one_of_pos,h]
 exact Nat.le_trans (Nat.mul_le_mul_right _ h) (by omega)
theorem J2 (x:Int) {y:Int} (j:y≠0):(Rat.divInt x y).den≤y.natAbs:=by
 rw [Rat.den_divInt,if_neg j]
 exact Nat.div_le_self _ _
theorem yU (x:Int) {y:Int} (j:y≠0):bg (Rat.divInt x y)≤max (bs x.natAbs) (bs y.natAbs):=by
 have G:=du (LG x y)
 have I:=du (J2 x j)
 unfold bg
 omega
theorem nT (b:Bool) (n d:ByteArray):bg (ad.qv b n d)≤max n.size (max d.size 1):=by
 have j:=yU (aa.val b n) (ox d)
 have G:=dv b n
 have I:=p8 d
 have J:bg (ad.qv b n d)≤_:=j
 omega
theorem nq (q:Rat):((q.den:Nat):Int)≠0:=by have:=q.den_pos;omega
theorem x8 {a b:Int} (j:a≠0) (G:b≠0):a*b≠0:=Int.mul_ne_zero j G
theorem OZ:bg 0≤1:=by
 unfold bg
 have h:bs 1≤1:=wJ
 have j:bs 0=0:=Jy
 show max (bs 0) (bs 1)≤1
 omega
theorem OY (a:Rat):bg (-a)=bg a:=by
 unfold bg
 rw [Rat.neg_num,Rat.neg_den,Int.natAbs_neg]
theorem yT (a b:Rat):bg (a+b)≤bg a+bg b+1:=by
 have h:=yU (a.num*b.den+b.num*a.den) (x8 (nq a) (nq b))
 have e:a+b=Rat.divInt (a.num*b.den+b.num*a.den) ((a.den:Int)*(b.den:Int)):=by
  rw [← Rat.divInt_add_divInt _ _ (nq a) (nq b),Rat.num_divInt_den,Rat.num_divInt_den]
 rw [e]
 have J:=Bp (a.num*b.den) (b.num*a.den)
 have G:=cO a.num b.den
 have I:=cO b.num a.den
 have j:=cO a.den b.den
 rw [Int.natAbs_natCast] at G I j
 rw [Int.natAbs_natCast] at j
 unfold bg at*
 omega
theorem gv (a b:Rat):bg (a - b)≤bg a+bg b+1:=by
 rw [Rat.sub_eq_add_neg]
 have:=yT a (-b)
 rwa [OY] at this
theorem gu (a b:Rat):bg (a*b)≤bg a+bg b:=by
 have h:=yU (a.num*b.num) (x8 (nq a) (nq b))
 have e:a*b=Rat.divInt (a.num*b.num) ((a.den:Int)*(b.den:Int)):=by
  rw [← Rat.divInt_mul_divInt,Rat.num_divInt_den,Rat.num_divInt_den]
 rw [e]
 have G:=cO a.num b.num
 have j:=cO a.den b.den
 rw [Int.natAbs_natCast] at j
 rw [Int.natAbs_natCast] at j
 unfold bg at*
 omega
theorem UJ (a b:Rat):a / b=Rat.divInt (a.num*b.den) ((a.den:Int)*b.num):=by
 rw [Rat.div_def,Rat.inv_def,← Rat.divInt_mul_divInt,Rat.num_divInt_den]
theorem Fo (a b:Rat):bg (a / b)≤bg a+bg b+1:=by
 by_cases j:b=0
 ·subst j
  have e:a / 0=0:=by rw [Rat.div_def,Rat.inv_zero,Rat.mul_zero]
  rw [e]
  have:=OZ
  omega
 ·rw [UJ]
  have J:b.num≠0:=fun h=>j (Rat.num_eq_zero.1 h)
  have h:=yU (a.num*b.den) (x8 (nq a) J)
  have G:=cO a.num b.den
  have I:=cO a.den b.num
  rw [Int.natAbs_natCast] at G I
  unfold bg at*
  omega
theorem KE (x y:Int) {d e:Int} (j:d≠0) (G:e≠0):Rat.divInt x d+Rat.divInt y e=Rat.divInt (x*e+y*d) (d*e):=Rat.divInt_add_divInt _ _ j G
theorem Cp (x y d e:Int):Rat.divInt x d*Rat.divInt y e=Rat.divInt (x*y) (d*e):=Rat.divInt_mul_divInt _ _
theorem Wx (x y d e:Int):Rat.divInt x d / Rat.divInt y e=Rat.divInt (x*e) (d*y):=by
 rw [Rat.div_def,Rat.inv_divInt,Cp]
theorem KG {x d:Int} (j:d≠0):Rat.divInt x d=0↔x=0:=by
 rw [show (0:Rat)=Rat.divInt 0 1 from rfl,Rat.divInt_eq_divInt_iff j (by decide)]
 omega
theorem qz {x y d e:Int} (j:0 < d) (I:0 < e):Rat.divInt x d < Rat.divInt y e↔x*e < y*d:=by
 have G:(0:Rat) < (d:Rat):=Rat.intCast_pos.2 j
 have J:(0:Rat) < (e:Rat):=Rat.intCast_pos.2 I
 rw [Rat.divInt_eq_div,Rat.divInt_eq_div,Rat.div_lt_iff G,← Rat.intCast_lt_intCast,Rat.intCast_mul,Rat.intCast_mul]
 have h:(y:Rat) / (e:Rat)*(d:Rat)=(y:Rat)*(d:Rat) / (e:Rat):=by grind
 rw [h,Rat.lt_div_iff J]
theorem BI (x y:Int) {d e:Int} (I:0 < d) (J:0 < e):ij (Rat.divInt x d) (Rat.divInt y e)=cE (x*e) (y*d):=by
 unfold ij cE
 by_cases j:x*e < y*d
 ·rw [if_pos j,if_pos ((qz I J).2 j)]
 ·rw [if_neg j,if_neg (fun h=>j ((qz I J).1 h))]
  by_cases G:y*d < x*e
  ·rw [if_pos G,if_pos ((qz J I).2 G)]
  ·rw [if_neg G,if_neg (fun h=>G ((qz J I).1 h))]
theorem abU (x:Int) {d:Int} (j:0 < d):ij (Rat.divInt x d) 0=cE x 0:=by
 rw [show (0:Rat)=Rat.divInt 0 1 from rfl,BI x 0 j (by decide),Int.mul_one,Int.zero_mul]
theorem KA (x:Int) {d:Int} (j:0 < d):(Rat.divInt x d).floor=x.fdiv d:=by
 rw [Int.fdiv_eq_ediv_of_nonneg _ (by omega)]
 have G:((x / d:Int):Rat)≤Rat.divInt x d:=by
  rw [← Rat.not_lt,show ((x / d:Int):Rat)=Rat.divInt (x / d) 1 from by rw [Rat.divInt_eq_div];grind,qz j (by decide)]
  have:=Int.ediv_mul_le x (show d≠0 by omega)
  omega
 have I:Rat.divInt x d < ((x / d+1:Int):Rat):=by
  rw [show ((x / d+1:Int):Rat)=Rat.divInt (x / d+1) 1 from by rw [Rat.divInt_eq_div];grind,qz j (by decide)]
  have:=Int.lt_ediv_add_one_mul_self x j
  omega
 have J:=Rat.le_floor_iff.2 G
 have M:=Rat.floor_lt_iff.2 I
 omega
end
end Go.Proofs.YtamcpiicmfielaaGreat.L
namespace Go.Proofs.YtamcpiicmfielaaGreat.L
open Go Go.V Go.RowKit Go.Proofs.YtamcpiicmfielaaGreat.Sp Go.Proofs.YtamcpiicmfielaaGreat.F Go.Proofs.YtamcpiicmfielaaGreatW.PrintWords
open Go.Proofs (Tryz.prog)
noncomputable section
abbrev fZ:List Bool:= [false,true,false,true,true]
def kj (s:ByteArray) (v:Int) (i:Int):List AV:=av 19 [(0, .val (.string s)),(3, .val (.int .i64 v)),(4, .val (.int .i64 i))]
def jz (s:ByteArray) (v:Int) (i:Int):Hp:= []
theorem RF:aJ Tryz.prog 162 fZ=some (.loop (lb 162 fZ)):=by kernel_rfl
theorem Td:aJ Tryz.prog 162 (false :: fZ)=some (lb 162 fZ):=by kernel_rfl
theorem Nk (s:ByteArray) (v:Int) (i:Int):aN Tryz.prog bj 162 [0,3,4] (lb 162 fZ) (false :: fZ) (kj s v i) (jz s v i)=
  (bif decide (i < (↑s.size:Int)) then (bif aj IntKind.i64 (v*(256:Int)) then (bif decide ((0:Int)≤i)&&decide (i < (↑s.size:Int)) then (bif aj IntKind.i64 (aR s i.toNat) then (bif aj IntKind.i64 (i+(1:Int)) then some (.normal,av 19 [(0,(.val (.string s))),(3,(.val (.int .i64 (bV BinOp.or IntKind.i64 (v*(256:Int)) (aR s i.toNat))))),(4,(.val (.int .i64 (i+(1:Int)))))], []) else none) else none) else none) else none) else some ((.exit 0),av 19 [(0,(.val (.string s))),(3,(.val (.int .i64 v))),(4,(.val (.int .i64 i)))], [])):=by kernel_rfl
theorem Oo {s:ByteArray} {v:Int} {i:Int} {e:Ex} {T:List AV} {H:Hp} (h:aN Tryz.prog bj 162 [0,3,4] (lb 162 fZ) (false :: fZ) (kj s v i) (jz s v i)=some (e,T,H)):V.Ends Tryz.prog false 0 0 (lb 162 fZ) (kj s v i) (jz s v i) e T H:=
 bw (aH _) aK mixed Td h
def uH (s:ByteArray) (v i:Int):Prop:=s.size≤8∧vS s < 9223372036854775808∧v=0∧i=0
def DD (s:ByteArray) (v i:Int) (r:Int×Int):Prop:=r.1=(vS s:Nat)
theorem LX (v b:Nat) (M:v*256+b < 9223372036854775808) (J:b < 256):bV .or .i64 ((v:Int)*256) (b:Int)=((v*256+b:Nat):Int):=by
 have j:Go.bits .or .i64 ((v*256:Nat):Int) ((b:Nat):Int)=((v*256+b:Nat):Int):=by
  have:=bits_join .i64 63 (by decide) (fun n G I=>by rw [IntKind.wrap_i64];omega) 8 ((v*256:Nat):Int) ((b:Nat):Int) (by omega) (by omega) (by omega) (by omega) (by omega) (by omega)
  rw [this];omega
 rw [Int.natCast_mul] at j
 exact j
theorem GR (l:List UInt8) (i:Nat):vB (l.take i)≤vB l:=by
 have:=GQ (l.take i) (l.drop i)
 rw [List.take_append_drop] at this
 rw [this]
 have h:=Nat.le_mul_of_pos_right (vB (l.take i)) (Nat.pow_pos (n:=(l.drop i).length) (by decide:0 < 256))
 omega
theorem abb (s:ByteArray) (Z:s.size≤8) (ab:vS s < 9223372036854775808) (d:Nat):∀ i:Nat,i+d=s.size→∃ r:Int×Int,aw Tryz.prog (lb 162 fZ) (kj s (vB (s.data.toList.take i):Nat) i) (jz s (vB (s.data.toList.take i):Nat) i) (.exit 0) (kj s r.1 r.2) (jz s r.1 r.2)∧r.1=(vS s:Nat):=by
 induction d with
 | zero=>
  intro i N
  have O:i=s.size:=by omega
  subst O
  have e:s.data.toList.take s.size=s.data.toList:=List.take_of_length_le (by rw [Array.length_toList];exact Nat.le_refl _)
  refine ⟨((vB (s.data.toList.take s.size):Nat),(s.size:Int)), .last (Oo ?_) (by intro h;cases h),by rw [e];rfl⟩
  rw [Nk,dF (show ¬ ((s.size:Int) < s.size) by omega)]
  rfl
 | succ d U=>
  intro i N
  obtain ⟨r,I,J⟩:=U (i+1) (by omega)
  refine ⟨r, .more (Oo ?_) I,J⟩
  rw [Nk]
  have M:=lj s i
  have S:=pO s i (by omega)
  have G:=GR s.data.toList (i+1)
  have G:vB (s.data.toList.take (i+1))≤vS s:=G
  obtain ⟨c,j⟩:∃ c:Nat,aR s i=c:= ⟨(aR s i).toNat,by omega⟩
  rw [j] at M S
  have e:vB (s.data.toList.take (i+1))=vB (s.data.toList.take i)*256+c:=by omega
  rw [Int.toNat_natCast,j,LX _ _ (by omega) (by omega),aO (show -9223372036854775808≤((vB (s.data.toList.take i):Nat):Int)*256∧((vB (s.data.toList.take i):Nat):Int)*256≤9223372036854775807 by omega),aO (show -9223372036854775808≤(c:Int)∧(c:Int)≤9223372036854775807 by omega),aO (show -9223372036854775808≤(i:Int)+1∧(i:Int)+1≤9223372036854775807 by omega),dT (show (i:Int) < s.size by omega),dT (show (0:Int)≤(i:Int) by omega)]
  rw [e]
  rfl
theorem Yb (s:ByteArray) (v i:Int) (h:uH s v i):∃ r:Int×Int,aw Tryz.prog (lb 162 fZ) (kj s v i) (jz s v i) (.exit 0) (kj s r.1 r.2) (jz s r.1 r.2)∧DD s v i r:=by
 obtain ⟨j,G,rfl,rfl⟩:=h
 exact abb s j G s.size 0 (by omega)
def Gs (G:ByteArray→Int→Int→Bool) (j:ByteArray→Int→Int→Int×Int) (T:List AV) (H:Hp):Option (Bool×Ex×List AV×Hp):=
 match al T 0,al T 3,al T 4,H with
 | .val (.string s), .val (.int .i64 v), .val (.int .i64 i), []=>bif T.length==19 then some (G s v i, .exit 0,kj s ((j s v i).1) ((j s v i).2),jz s ((j s v i).1) ((j s v i).2)) else none
 | _,_,_,_=>none
abbrev AE:Type:=ByteArray→Int→Int→Bool
abbrev Al:Type:=ByteArray→Int→Int→Int×Int
def I3 (j:AE) (G:Al) (L:aE):aE:=bp 0 162 fZ [0,3,4] (Gs j G) L
def mJ (s:ByteArray) (v:Int) (i:Int):Int×Int:=Classical.epsilon fun ρ=>aw Tryz.prog (lb 162 fZ) (kj s v i) (jz s v i) (.exit 0) (kj s (ρ.1) (ρ.2)) (jz s (ρ.1) (ρ.2))∧DD s v i ρ
theorem MC (s:ByteArray) (v:Int) (i:Int) (h:uH s v i):aw Tryz.prog (lb 162 fZ) (kj s v i) (jz s v i) (.exit 0) (kj s ((mJ s v i).1) ((mJ s v i).2)) (jz s ((mJ s v i).1) ((mJ s v i).2))∧DD s v i (mJ s v i):=Classical.epsilon_spec (Yb s v i h)
def xh (s:ByteArray) (v:Int) (i:Int):Bool:= @decide (uH s v i) (Classical.propDecidable _)
theorem Ue (s:ByteArray) (v:Int) (i:Int) (h:uH s v i):xh s v i=true:= @decide_eq_true _ (Classical.propDecidable _) h
theorem adG (T:List AV) (H:Hp) (e:Ex) (I:List AV) (G:Hp) (h:Gs xh mJ T H=some (true,e,I,G)):V.Ends Tryz.prog false 0 0 (.loop (lb 162 fZ)) T H e I G:=by
 unfold Gs at h
 split at h
 ·rename_i s v i N O S
  rw [Bool.cond_eq_ite] at h
  split at h
  ·rename_i J
   rw [beq_iff_eq] at J
   simp only [Option.some.injEq,Prod.mk.injEq,Bool.and_eq_true,decide_eq_true_eq] at h
   obtain ⟨k1,rfl,rfl,rfl⟩:=h
   have Z:= @of_decide_eq_true _ (Classical.propDecidable _) k1
   refine Ends.pre (MC s v i Z).1.ends (fun α B w D ab U=>bm J (fun p M y j=> ?_) U)
   simp only [List.mem_cons,List.not_mem_nil,or_false] at M
   rcases M with rfl | rfl | rfl
   ·rw [N] at j;exact j
   ·rw [O] at j;exact j
   ·rw [S] at j;exact j
  ·cases h
 ·cases h
theorem Qw {L:aE} (h:aB Tryz.prog L):aB Tryz.prog (I3 xh mJ L):=h.br RF adG
def Hv (j:AE) (G:Al):Env:= ⟨aF,ar,I3 j G aq⟩
theorem aba (j:AE) (G:Al) (s:ByteArray):aD Tryz.prog (Hv j G) 10 10 162 [.val (.string s)]=
  (bif j s (0:Int) (0:Int) then some (.val (.int .i64 ((G s (0:Int) (0:Int)).fst))) else none):=by kernel_rfl
def vI (j:Sg) (args:List AV):Option (Bool×AV):=match args with | [.val (.string s)]=>some (decide (s.size≤8)&&decide (j.vs s < 9223372036854775808), .val (.int .i64 (j.vs s))) | _=>none
theorem Ki:Entry Tryz.prog 162 (vI aa):=by
 refine aX (E:=Hv xh mJ) (u:=10) (d:=10) (aH _) (Qw aB.none).ok mixed (by kernel_rfl) (fun args r h=> ?_)
 unfold vI at h
 split at h
 ·rename_i s
  simp only [Option.some.injEq,Prod.mk.injEq,Bool.and_eq_true,decide_eq_true_eq] at h
  obtain ⟨⟨I,J⟩,rfl⟩:=h
  have G:uH s 0 0:= ⟨I,J,rfl,rfl⟩
  have j:=(MC _ _ _ G).2
  have j:(mJ s 0 0).1=(vS s:Nat):=j
  rw [aba,Ue _ _ _ G,j]
  rfl
 ·cases h
theorem abm (j:Sg) (b:Bool) (s:ByteArray):aD Tryz.prog ⟨an 162 (vI j) aF,ar,aq⟩ 10 10 131 [.agg [.val (.bool b), .val (.string s)]]=
  (bif b then (bif decide (s.size≤(8:Nat))&&decide (j.vs s < (9223372036854775808:Nat)) then some (.val (.int .i64 (IntKind.i64.wrap ((0:Int) - (↑(j.vs s):Int))))) else none) else (bif decide (s.size≤(8:Nat))&&decide (j.vs s < (9223372036854775808:Nat)) then some (.val (.int .i64 ((↑(j.vs s):Int)))) else none)):=by kernel_rfl
def zo (j:Sg) (args:List AV):Option (Bool×AV):=match args with | [.agg [.val (.bool b), .val (.string s)]]=>some (decide (s.size≤8)&&decide (j.vs s < 9223372036854775808), .val (.int .i64 (j.val b s))) | _=>none
theorem Kl:Entry Tryz.prog 131 (zo aa):=by
 refine aX (E:= ⟨an 162 (vI aa) aF,ar,aq⟩) (u:=10) (d:=10) ((aH _).add Ki) aK mixed (by kernel_rfl) (fun args r h=> ?_)
 unfold zo at h
 split at h
 ·rename_i b s
  simp only [Option.some.injEq,Prod.mk.injEq,Bool.and_eq_true,decide_eq_true_eq] at h
  obtain ⟨⟨j,G⟩,rfl⟩:=h
  rw [abm,dT j,dT G]
  have I:aa.val b s=if b=true then -(aa.vs s:Int) else (aa.vs s:Int):=rfl
  rw [I]
  cases b with
  | true=>
   have e:IntKind.i64.wrap (0 - ((aa.vs s:Nat):Int))= -((aa.vs s:Nat):Int):=by rw [IntKind.wrap_i64];omega
   rw [e]
   rfl
  | false=>rfl
 ·cases h
abbrev fV:List Bool:= [false,false,true,true,true,true]
def ki (n:Int) (i:Int) (zs:List Int):List AV:=av 26 [(0, .val (.int .i64 n)),(3, .ptr 0 0),(4, .val (.int .i64 i))]
def jy (n:Int) (i:Int) (zs:List Int):Hp:= [.row (.ints .u8 zs) 158 .live]
theorem Ry:aJ Tryz.prog 159 fV=some (.loop (lb 159 fV)):=by kernel_rfl
theorem S7:aJ Tryz.prog 159 (false :: fV)=some (lb 159 fV):=by kernel_rfl
theorem Em (n:Int) (i:Int) (zs:List Int):aN Tryz.prog bj 159 [0,3,4] (lb 159 fV) (false :: fV) (ki n i zs) (jy n i zs)=
  (bif decide ((0:Int) < n) then (bif aj IntKind.i64 (i - (1:Int)) then (bif decide ((0:Int)≤i - (1:Int))&&decide (i - (1:Int) < (8:Int)) then (bif decide ((0:Nat)+(i - (1:Int)).toNat*(1:Nat) < zs.length) then some (.normal,av 26 [(0,(.val (.int .i64 (n.fdiv (256:Int))))),(3,(.ptr 0 0)),(4,(.val (.int .i64 (i - (1:Int)))))], [(.row (.ints .u8 (zs.set ((0:Nat)+(i - (1:Int)).toNat*(1:Nat)) (IntKind.u8.wrap n))) 158 .live)]) else none) else none) else none) else some ((.exit 0),av 26 [(0,(.val (.int .i64 n))),(3,(.ptr 0 0)),(4,(.val (.int .i64 i)))], [(.row (.ints .u8 zs) 158 .live)])):=by kernel_rfl
theorem E8 {n:Int} {i:Int} {zs:List Int} {e:Ex} {T:List AV} {H:Hp} (h:aN Tryz.prog bj 159 [0,3,4] (lb 159 fV) (false :: fV) (ki n i zs) (jy n i zs)=some (e,T,H)):V.Ends Tryz.prog false 0 0 (lb 159 fV) (ki n i zs) (jy n i zs) e T H:=
 bw (aH _) aK mixed S7 h
def uA (n i:Int) (zs:List Int):Prop:=0≤n∧n≤9223372036854775807∧i=8∧zs= [0,0,0,0,0,0,0,0]
def Dx (n i:Int) (zs:List Int) (r:Int×Int×List Int):Prop:=∃ k:Nat,r.2.1=k∧k≤8∧r.2.2.length=8∧(r.2.2.drop k).map (fun z=>UInt8.ofNat z.toNat)=toB n.toNat
theorem aau:∀ (k n:Nat) (zs:List Int) (l:List UInt8),zs.length=8→k≤8→n < 256 ^ k→(zs.drop k).map (fun z=>UInt8.ofNat z.toNat)=l→
  ∃ r:Int×Int×List Int,aw Tryz.prog (lb 159 fV) (ki n k zs) (jy n k zs) (.exit 0) (ki r.1 r.2.1 r.2.2) (jy r.1 r.2.1 r.2.2)∧∃ j:Nat,r.2.1=j∧j≤8∧r.2.2.length=8∧(r.2.2.drop j).map (fun z=>UInt8.ofNat z.toNat)=toB n ++ l:=by
 intro k
 induction k with
 | zero=>
  intro n zs l I a1 J G
  have a2:n=0:=by simpa using J
  subst a2
  refine ⟨((0:Nat),(0:Nat),zs), .last (E8 ?_) (by intro h;cases h),0,rfl,by omega,I,by rw [toB_zero];exact G⟩
  rw [Em,dF (show ¬ ((0:Int) < ((0:Nat):Int)) by omega)]
  rfl
 | succ k a3=>
  intro n zs l I a1 J G
  by_cases M:n=0
  ·subst M
   refine ⟨((0:Nat),((k+1:Nat):Int),zs), .last (E8 ?_) (by intro h;cases h),k+1,rfl,by omega,I,by rw [toB_zero];exact G⟩
   rw [Em,dF (show ¬ ((0:Int) < ((0:Nat):Int)) by omega)]
   rfl
  ·have O:((k+1:Nat):Int) - 1=(k:Int):=by omega
   have N:=Em n ((k+1:Nat):Int) zs
   obtain ⟨r,S,j,U,Z,ab,a0⟩:=a3 (n / 256) (zs.set k ((n % 256:Nat):Int)) (UInt8.ofNat n :: l) (by rw [List.length_set];exact I) (by omega) (by rw [Nat.div_lt_iff_lt_mul (by decide),← Nat.pow_succ];exact J) (by
    rw [List.drop_eq_getElem_cons (by rw [List.length_set];omega),List.getElem_set_self,List.drop_set_of_lt (by omega),List.map_cons,G,Int.toNat_natCast]
    refine congrArg (· :: l) ?_
    apply UInt8.toNat_inj.1
    rw [UInt8.toNat_ofNat',UInt8.toNat_ofNat']
    omega)
   refine ⟨r, .more (E8 ?_) S,j,U,Z,ab,by rw [a0,toB_pos M,List.append_assoc];rfl⟩
   rw [O,Int.toNat_natCast,Nat.zero_add,Nat.mul_one,bz k (by omega),dT (show (0:Int) < n by omega),dT (show (0:Int)≤(k:Int) by omega),dT (show (k:Int) < 8 by omega),dT (show k < zs.length by omega),show IntKind.u8.wrap (n:Int)=((n % 256:Nat):Int) from by rw [rO];rfl,show (n:Int).fdiv (256:Int)=((n / 256:Nat):Int) from gA n 256] at N
   rw [N]
   rfl
theorem X4 (n i:Int) (zs:List Int) (h:uA n i zs):∃ r:Int×Int×List Int,aw Tryz.prog (lb 159 fV) (ki n i zs) (jy n i zs) (.exit 0) (ki r.1 r.2.1 r.2.2) (jy r.1 r.2.1 r.2.2)∧Dx n i zs r:=by
 obtain ⟨j,O,rfl,rfl⟩:=h
 obtain ⟨n,rfl⟩:=Int.eq_ofNat_of_zero_le j
 obtain ⟨r,k1,G,I,J,M,N⟩:=aau 8 n [0,0,0,0,0,0,0,0] [] rfl (by omega) (by have:(256:Nat) ^ 8=18446744073709551616:=rfl;omega) rfl
 exact ⟨r,k1,G,I,J,M,by rw [N,List.append_nil];rfl⟩
def Gk (G:Int→Int→List Int→Bool) (j:Int→Int→List Int→Int×Int×List Int) (T:List AV) (H:Hp):Option (Bool×Ex×List AV×Hp):=
 match al T 0,al T 3,al T 4,H with
 | .val (.int .i64 n), .ptr 0 0, .val (.int .i64 i), [.row (.ints .u8 zs) 158 .live]=>bif T.length==26 then some (G n i zs, .exit 0,ki ((j n i zs).1) ((j n i zs).2.1) ((j n i zs).2.2),jy ((j n i zs).1) ((j n i zs).2.1) ((j n i zs).2.2)) else none
 | _,_,_,_=>none
abbrev Az:Type:=Int→Int→List Int→Bool
abbrev Ah:Type:=Int→Int→List Int→Int×Int×List Int
def IZ (j:Az) (G:Ah) (L:aE):aE:=bp 0 159 fV [0,3,4] (Gk j G) L
def jR (n:Int) (i:Int) (zs:List Int):Int×Int×List Int:=Classical.epsilon fun ρ=>aw Tryz.prog (lb 159 fV) (ki n i zs) (jy n i zs) (.exit 0) (ki (ρ.1) (ρ.2.1) (ρ.2.2)) (jy (ρ.1) (ρ.2.1) (ρ.2.2))∧Dx n i zs ρ
theorem Mw (n:Int) (i:Int) (zs:List Int) (h:uA n i zs):aw Tryz.prog (lb 159 fV) (ki n i zs) (jy n i zs) (.exit 0) (ki ((jR n i zs).1) ((jR n i zs).2.1) ((jR n i zs).2.2)) (jy ((jR n i zs).1) ((jR n i zs).2.1) ((jR n i zs).2.2))∧Dx n i zs (jR n i zs):=Classical.epsilon_spec (X4 n i zs h)
def sK (n:Int) (i:Int) (zs:List Int):Bool:= @decide (uA n i zs) (Classical.propDecidable _)
theorem T7 (n:Int) (i:Int) (zs:List Int) (h:uA n i zs):sK n i zs=true:= @decide_eq_true _ (Classical.propDecidable _) h
theorem adz (T:List AV) (H:Hp) (e:Ex) (I:List AV) (G:Hp) (h:Gk sK jR T H=some (true,e,I,G)):V.Ends Tryz.prog false 0 0 (.loop (lb 159 fV)) T H e I G:=by
 unfold Gk at h
 split at h
 ·rename_i n i zs N O S
  rw [Bool.cond_eq_ite] at h
  split at h
  ·rename_i J
   rw [beq_iff_eq] at J
   simp only [Option.some.injEq,Prod.mk.injEq,Bool.and_eq_true,decide_eq_true_eq] at h
   obtain ⟨k1,rfl,rfl,rfl⟩:=h
   have Z:= @of_decide_eq_true _ (Classical.propDecidable _) k1
   refine Ends.pre (Mw n i zs Z).1.ends (fun α B w D ab U=>bm J (fun p M y j=> ?_) U)
   simp only [List.mem_cons,List.not_mem_nil,or_false] at M
   rcases M with rfl | rfl | rfl
   ·rw [N] at j;exact j
   ·rw [O] at j;exact j
   ·rw [S] at j;exact j
  ·cases h
 ·cases h
theorem Qp {L:aE} (h:aB Tryz.prog L):aB Tryz.prog (IZ sK jR L):=h.br Ry adz
def Hq (j:Az) (G:Ah):Env:= ⟨aF,ar,IZ j G aq⟩
theorem aat (G:Az) (I:Ah) (z:Int):letI j:=(I z (8:Int) [(0:Int),(0:Int),(0:Int),(0:Int),(0:Int),(0:Int),(0:Int),(0:Int)]);
  (aD Tryz.prog (Hq G I) 10 10 159 [.val (.int .i64 z)]=(bif decide (z < (256:Int)) then (bif decide (z=(0:Int)) then some (.val (.string (ByteArray.mk #[]))) else some (.val (.string (ofBytes [IntKind.u8.wrap z])))) else (bif G z (8:Int) [(0:Int),(0:Int),(0:Int),(0:Int),(0:Int),(0:Int),(0:Int),(0:Int)] then (bif decide ((8:Nat)≤j.snd.snd.length) then (bif decide ((0:Int)≤j.snd.fst)&&decide (j.snd.fst≤(8:Int)) then (bif decide ((0:Nat)+j.snd.fst.toNat*(1:Nat)+((8:Nat) - j.snd.fst.toNat)*(1:Nat)≤j.snd.snd.length) then some (.val (.string (ofBytes (List.take (((8:Nat) - j.snd.fst.toNat)*(1:Nat)) (List.drop ((0:Nat)+j.snd.fst.toNat*(1:Nat)) j.snd.snd))))) else none) else none) else none) else none))):=by kernel_rfl
theorem aaD (j:Sg) (b:Bool) (s:ByteArray):aD Tryz.prog ⟨an 130 (nU j) aF,ar,aq⟩ 10 10 127 [.agg [.val (.bool b), .val (.string s)]]=
  (bif !j.ng (j.val b s) then some (.agg [(.val (.bool (!aG (j.ms (j.val b s)) (ByteArray.mk #[])))),(.val (.string (j.ms (j.val b s))))]) else some (.agg [(.val (.bool false)),(.val (.string (j.ms (j.val b s))))])):=by kernel_rfl
theorem Z4 (s t:ByteArray):aD Tryz.prog m9 10 10 133 [.val (.string s), .val (.string t)]=
  (bif !decide ((↑s.size:Int)=(↑t.size:Int)) then (bif decide ((↑s.size:Int) < (↑t.size:Int)) then some (.val (.int .i64 (-1))) else some (.val (.int .i64 1))) else (bif V.strLt s t then some (.val (.int .i64 (-1))) else (bif !(V.strLt s t ||aG s t) then some (.val (.int .i64 1)) else some (.val (.int .i64 0))))):=by kernel_rfl
end
end Go.Proofs.YtamcpiicmfielaaGreat.L
namespace Go.Proofs.YtamcpiicmfielaaGreat.L
open Go Go.V Go.RowKit Go.Proofs.YtamcpiicmfielaaGreat.Sp Go.Proofs.YtamcpiicmfielaaGreat.F
open Go.Proofs (Tryz.prog)
noncomputable section
abbrev fK:List Bool:= [false,true,false,true,true]
def j3 (s:ByteArray) (v:Int) (n:Int) (i:Int):List AV:=av 19 [(0, .val (.string s)),(3, .val (.int .i64 v)),(6, .val (.int .i64 n)),(7, .val (.int .i64 i))]
def jm (s:ByteArray) (v:Int) (n:Int) (i:Int):Hp:= []
theorem Q8:aJ Tryz.prog 138 fK=some (.loop (lb 138 fK)):=by kernel_rfl
theorem SI:aJ Tryz.prog 138 (false :: fK)=some (lb 138 fK):=by kernel_rfl
theorem M4 (s:ByteArray) (v:Int) (n:Int) (i:Int):aN Tryz.prog bj 138 [0,3,6,7] (lb 138 fK) (false :: fK) (j3 s v n i) (jm s v n i)=
  (bif decide (i < n) then (bif aj IntKind.i64 (v*(256:Int)) then (bif decide ((0:Int)≤i)&&decide (i < (↑s.size:Int)) then (bif aj IntKind.i64 (aR s i.toNat) then (bif aj IntKind.i64 (i+(1:Int)) then some (.normal,av 19 [(0,(.val (.string s))),(3,(.val (.int .i64 (bV BinOp.or IntKind.i64 (v*(256:Int)) (aR s i.toNat))))),(6,(.val (.int .i64 n))),(7,(.val (.int .i64 (i+(1:Int)))))], []) else none) else none) else none) else none) else some ((.exit 0),av 19 [(0,(.val (.string s))),(3,(.val (.int .i64 v))),(6,(.val (.int .i64 n))),(7,(.val (.int .i64 i)))], [])):=by kernel_rfl
theorem N7 {s:ByteArray} {v:Int} {n:Int} {i:Int} {e:Ex} {T:List AV} {H:Hp} (h:aN Tryz.prog bj 138 [0,3,6,7] (lb 138 fK) (false :: fK) (j3 s v n i) (jm s v n i)=some (e,T,H)):V.Ends Tryz.prog false 0 0 (lb 138 fK) (j3 s v n i) (jm s v n i) e T H:=
 bw (aH _) aK mixed SI h
def tV (s:ByteArray) (v n i:Int):Prop:=s.size≤3∧n=s.size∧v=0∧i=0
def Dd (s:ByteArray) (v n i:Int) (r:Int×Int):Prop:=r.1=(vS s:Nat)
theorem UC (s:ByteArray) (Z:s.size≤3) (d:Nat):∀ i:Nat,i+d=s.size→∃ r:Int×Int,aw Tryz.prog (lb 138 fK) (j3 s (vB (s.data.toList.take i):Nat) s.size i) (jm s (vB (s.data.toList.take i):Nat) s.size i) (.exit 0) (j3 s r.1 s.size r.2) (jm s r.1 s.size r.2)∧r.1=(vS s:Nat):=by
 induction d with
 | zero=>
  intro i N
  have O:i=s.size:=by omega
  subst O
  have e:s.data.toList.take s.size=s.data.toList:=List.take_of_length_le (by rw [Array.length_toList];exact Nat.le_refl _)
  refine ⟨((vB (s.data.toList.take s.size):Nat),(s.size:Int)), .last (N7 ?_) (by intro h;cases h),by rw [e];rfl⟩
  rw [M4,dF (show ¬ ((s.size:Int) < s.size) by omega)]
  rfl
 | succ d U=>
  intro i N
  obtain ⟨r,I,J⟩:=U (i+1) (by omega)
  refine ⟨r, .more (N7 ?_) I,J⟩
  rw [M4]
  have M:=lj s i
  have S:=pO s i (by omega)
  have G:=GR s.data.toList (i+1)
  have G:vB (s.data.toList.take (i+1))≤vS s:=G
  have ab:=pP (s:=s) (by omega)
  obtain ⟨c,j⟩:∃ c:Nat,aR s i=c:= ⟨(aR s i).toNat,by omega⟩
  rw [j] at M S
  have e:vB (s.data.toList.take (i+1))=vB (s.data.toList.take i)*256+c:=by omega
  rw [Int.toNat_natCast,j,LX _ _ (by omega) (by omega),aO (show -9223372036854775808≤((vB (s.data.toList.take i):Nat):Int)*256∧((vB (s.data.toList.take i):Nat):Int)*256≤9223372036854775807 by omega),aO (show -9223372036854775808≤(c:Int)∧(c:Int)≤9223372036854775807 by omega),aO (show -9223372036854775808≤(i:Int)+1∧(i:Int)+1≤9223372036854775807 by omega),dT (show (i:Int) < s.size by omega),dT (show (0:Int)≤(i:Int) by omega)]
  rw [e]
  rfl
theorem XF (s:ByteArray) (v n i:Int) (h:tV s v n i):∃ r:Int×Int,aw Tryz.prog (lb 138 fK) (j3 s v n i) (jm s v n i) (.exit 0) (j3 s r.1 n r.2) (jm s r.1 n r.2)∧Dd s v n i r:=by
 obtain ⟨j,rfl,rfl,rfl⟩:=h
 exact UC s j s.size 0 (by omega)
def FU (G:ByteArray→Int→Int→Int→Bool) (j:ByteArray→Int→Int→Int→Int×Int) (T:List AV) (H:Hp):Option (Bool×Ex×List AV×Hp):=
 match al T 0,al T 3,al T 6,al T 7,H with
 | .val (.string s), .val (.int .i64 v), .val (.int .i64 n), .val (.int .i64 i), []=>bif T.length==19 then some (G s v n i, .exit 0,j3 s ((j s v n i).1) n ((j s v n i).2),jm s ((j s v n i).1) n ((j s v n i).2)) else none
 | _,_,_,_,_=>none
abbrev Ik:Type:=ByteArray→Int→Int→Int→Bool
abbrev HH:Type:=ByteArray→Int→Int→Int→Int×Int
def AO (j:Ik) (G:HH) (L:aE):aE:=bp 0 138 fK [0,3,6,7] (FU j G) L
def mA (s:ByteArray) (v:Int) (n:Int) (i:Int):Int×Int:=Classical.epsilon fun ρ=>aw Tryz.prog (lb 138 fK) (j3 s v n i) (jm s v n i) (.exit 0) (j3 s (ρ.1) n (ρ.2)) (jm s (ρ.1) n (ρ.2))∧Dd s v n i ρ
theorem Mc (s:ByteArray) (v:Int) (n:Int) (i:Int) (h:tV s v n i):aw Tryz.prog (lb 138 fK) (j3 s v n i) (jm s v n i) (.exit 0) (j3 s ((mA s v n i).1) n ((mA s v n i).2)) (jm s ((mA s v n i).1) n ((mA s v n i).2))∧Dd s v n i (mA s v n i):=Classical.epsilon_spec (XF s v n i h)
def wT (s:ByteArray) (v:Int) (n:Int) (i:Int):Bool:= @decide (tV s v n i) (Classical.propDecidable _)
theorem TG (s:ByteArray) (v:Int) (n:Int) (i:Int) (h:tV s v n i):wT s v n i=true:= @decide_eq_true _ (Classical.propDecidable _) h
theorem ac8 (T:List AV) (H:Hp) (e:Ex) (I:List AV) (G:Hp) (h:FU wT mA T H=some (true,e,I,G)):V.Ends Tryz.prog false 0 0 (.loop (lb 138 fK)) T H e I G:=by
 unfold FU at h
 split at h
 ·rename_i s v n i N O S U
  rw [Bool.cond_eq_ite] at h
  split at h
  ·rename_i J
   rw [beq_iff_eq] at J
   simp only [Option.some.injEq,Prod.mk.injEq,Bool.and_eq_true,decide_eq_true_eq] at h
   obtain ⟨k1,rfl,rfl,rfl⟩:=h
   have ab:= @of_decide_eq_true _ (Classical.propDecidable _) k1
   refine Ends.pre (Mc s v n i ab).1.ends (fun α B w D a0 Z=>bm J (fun p M y j=> ?_) Z)
   simp only [List.mem_cons,List.not_mem_nil,or_false] at M
   rcases M with rfl | rfl | rfl | rfl
   ·rw [N] at j;exact j
   ·rw [O] at j;exact j
   ·rw [S] at j;exact j
   ·rw [U] at j;exact j
  ·cases h
 ·cases h
theorem P1 {L:aE} (h:aB Tryz.prog L):aB Tryz.prog (AO wT mA L):=h.br Q8 ac8
theorem UB (j:Ik) (G:HH) (s:ByteArray):aD Tryz.prog ⟨aF,ar,AO j G aq⟩ 10 10 138 [.val (.string s)]=
  (bif j s (0:Int) (↑s.size:Int) (0:Int) then some (.val (.int .i64 ((G s (0:Int) (↑s.size:Int) (0:Int)).fst))) else none):=by kernel_rfl
theorem Vl:Entry Tryz.prog 138 (pG aa):=by
 refine aX (E:= ⟨aF,ar,AO wT mA aq⟩) (u:=10) (d:=10) (aH _) (P1 aB.none).ok mixed (by kernel_rfl) (fun args r h=> ?_)
 unfold pG at h
 split at h
 ·rename_i s
  simp only [Option.some.injEq,Prod.mk.injEq,decide_eq_true_eq] at h
  obtain ⟨I,rfl⟩:=h
  have G:tV s 0 s.size 0:= ⟨I,rfl,rfl,rfl⟩
  have j:=(Mc _ _ _ _ G).2
  have j:(mA s 0 s.size 0).1=(vS s:Nat):=j
  rw [UB,TG _ _ _ _ G,j]
  rfl
 ·cases h
abbrev gk:List Bool:= [false,false,true,true,true]
def kt (n:Int) (i:Int) (zs:List Int):List AV:=av 18 [(0, .val (.int .i64 n)),(3, .ptr 0 0),(4, .val (.int .i64 i))]
def jD (n:Int) (i:Int) (zs:List Int):Hp:= [.row (.ints .u8 zs) 158 .live]
theorem RT:aJ Tryz.prog 116 gk=some (.loop (lb 116 gk)):=by kernel_rfl
theorem Ty:aJ Tryz.prog 116 (false :: gk)=some (lb 116 gk):=by kernel_rfl
theorem Eo (n:Int) (i:Int) (zs:List Int):aN Tryz.prog bj 116 [0,3,4] (lb 116 gk) (false :: gk) (kt n i zs) (jD n i zs)=
  (bif decide ((0:Int) < n) then (bif aj IntKind.i64 (i - (1:Int)) then (bif decide ((0:Int)≤i - (1:Int))&&decide (i - (1:Int) < (8:Int)) then (bif decide ((0:Nat)+(i - (1:Int)).toNat*(1:Nat) < zs.length) then some (.normal,av 18 [(0,(.val (.int .i64 (n.fdiv (256:Int))))),(3,(.ptr 0 0)),(4,(.val (.int .i64 (i - (1:Int)))))], [(.row (.ints .u8 (zs.set ((0:Nat)+(i - (1:Int)).toNat*(1:Nat)) (IntKind.u8.wrap n))) 158 .live)]) else none) else none) else none) else some ((.exit 0),av 18 [(0,(.val (.int .i64 n))),(3,(.ptr 0 0)),(4,(.val (.int .i64 i)))], [(.row (.ints .u8 zs) 158 .live)])):=by kernel_rfl
theorem Fe {n:Int} {i:Int} {zs:List Int} {e:Ex} {T:List AV} {H:Hp} (h:aN Tryz.prog bj 116 [0,3,4] (lb 116 gk) (false :: gk) (kt n i zs) (jD n i zs)=some (e,T,H)):V.Ends Tryz.prog false 0 0 (lb 116 gk) (kt n i zs) (jD n i zs) e T H:=
 bw (aH _) aK mixed Ty h
def uU (n i:Int) (zs:List Int):Prop:=0≤n∧n≤9223372036854775807∧i=8∧zs= [0,0,0,0,0,0,0,0]
def DN (n i:Int) (zs:List Int) (r:Int×Int×List Int):Prop:=∃ k:Nat,r.2.1=k∧k≤8∧r.2.2.length=8∧(r.2.2.drop k).map (fun z=>UInt8.ofNat z.toNat)=toB n.toNat
theorem ad5:∀ (k n:Nat) (zs:List Int) (l:List UInt8),zs.length=8→k≤8→n < 256 ^ k→(zs.drop k).map (fun z=>UInt8.ofNat z.toNat)=l→
  ∃ r:Int×Int×List Int,aw Tryz.prog (lb 116 gk) (kt n k zs) (jD n k zs) (.exit 0) (kt r.1 r.2.1 r.2.2) (jD r.1 r.2.1 r.2.2)∧∃ j:Nat,r.2.1=j∧j≤8∧r.2.2.length=8∧(r.2.2.drop j).map (fun z=>UInt8.ofNat z.toNat)=toB n ++ l:=by
 intro k
 induction k with
 | zero=>
  intro n zs l I a1 J G
  have a2:n=0:=by simpa using J
  subst a2
  refine ⟨((0:Nat),(0:Nat),zs), .last (Fe ?_) (by intro h;cases h),0,rfl,by omega,I,by rw [toB_zero];exact G⟩
  rw [Eo,dF (show ¬ ((0:Int) < ((0:Nat):Int)) by omega)]
  rfl
 | succ k a3=>
  intro n zs l I a1 J G
  by_cases M:n=0
  ·subst M
   refine ⟨((0:Nat),((k+1:Nat):Int),zs), .last (Fe ?_) (by intro h;cases h),k+1,rfl,by omega,I,by rw [toB_zero];exact G⟩
   rw [Eo,dF (show ¬ ((0:Int) < ((0:Nat):Int)) by omega)]
   rfl
  ·have O:((k+1:Nat):Int) - 1=(k:Int):=by omega
   have N:=Eo n ((k+1:Nat):Int) zs
   obtain ⟨r,S,j,U,Z,ab,a0⟩:=a3 (n / 256) (zs.set k ((n % 256:Nat):Int)) (UInt8.ofNat n :: l) (by rw [List.length_set];exact I) (by omega) (by rw [Nat.div_lt_iff_lt_mul (by decide),← Nat.pow_succ];exact J) (by
    rw [List.drop_eq_getElem_cons (by rw [List.length_set];omega),List.getElem_set_self,List.drop_set_of_lt (by omega),List.map_cons,G,Int.toNat_natCast]
    refine congrArg (· :: l) ?_
    apply UInt8.toNat_inj.1
    rw [UInt8.toNat_ofNat',UInt8.toNat_ofNat']
    omega)
   refine ⟨r, .more (Fe ?_) S,j,U,Z,ab,by rw [a0,toB_pos M,List.append_assoc];rfl⟩
   rw [O,Int.toNat_natCast,Nat.zero_add,Nat.mul_one,bz k (by omega),dT (show (0:Int) < n by omega),dT (show (0:Int)≤(k:Int) by omega),dT (show (k:Int) < 8 by omega),dT (show k < zs.length by omega),show IntKind.u8.wrap (n:Int)=((n % 256:Nat):Int) from by rw [rO];rfl,show (n:Int).fdiv (256:Int)=((n / 256:Nat):Int) from gA n 256] at N
   rw [N]
   rfl
theorem Yp (n i:Int) (zs:List Int) (h:uU n i zs):∃ r:Int×Int×List Int,aw Tryz.prog (lb 116 gk) (kt n i zs) (jD n i zs) (.exit 0) (kt r.1 r.2.1 r.2.2) (jD r.1 r.2.1 r.2.2)∧DN n i zs r:=by
 obtain ⟨j,O,rfl,rfl⟩:=h
 obtain ⟨n,rfl⟩:=Int.eq_ofNat_of_zero_le j
 obtain ⟨r,k1,G,I,J,M,N⟩:=ad5 8 n [0,0,0,0,0,0,0,0] [] rfl (by omega) (by have:(256:Nat) ^ 8=18446744073709551616:=rfl;omega) rfl
 exact ⟨r,k1,G,I,J,M,by rw [N,List.append_nil];rfl⟩
def GH (G:Int→Int→List Int→Bool) (j:Int→Int→List Int→Int×Int×List Int) (T:List AV) (H:Hp):Option (Bool×Ex×List AV×Hp):=
 match al T 0,al T 3,al T 4,H with
 | .val (.int .i64 n), .ptr 0 0, .val (.int .i64 i), [.row (.ints .u8 zs) 158 .live]=>bif T.length==18 then some (G n i zs, .exit 0,kt ((j n i zs).1) ((j n i zs).2.1) ((j n i zs).2.2),jD ((j n i zs).1) ((j n i zs).2.1) ((j n i zs).2.2)) else none
 | _,_,_,_=>none
abbrev IM:Type:=Int→Int→List Int→Bool
abbrev Ig:Type:=Int→Int→List Int→Int×Int×List Int
def Bb (j:IM) (G:Ig) (L:aE):aE:=bp 0 116 gk [0,3,4] (GH j G) L
def jX (n:Int) (i:Int) (zs:List Int):Int×Int×List Int:=Classical.epsilon fun ρ=>aw Tryz.prog (lb 116 gk) (kt n i zs) (jD n i zs) (.exit 0) (kt (ρ.1) (ρ.2.1) (ρ.2.2)) (jD (ρ.1) (ρ.2.1) (ρ.2.2))∧DN n i zs ρ
theorem MO (n:Int) (i:Int) (zs:List Int) (h:uU n i zs):aw Tryz.prog (lb 116 gk) (kt n i zs) (jD n i zs) (.exit 0) (kt ((jX n i zs).1) ((jX n i zs).2.1) ((jX n i zs).2.2)) (jD ((jX n i zs).1) ((jX n i zs).2.1) ((jX n i zs).2.2))∧DN n i zs (jX n i zs):=Classical.epsilon_spec (Yp n i zs h)
def sW (n:Int) (i:Int) (zs:List Int):Bool:= @decide (uU n i zs) (Classical.propDecidable _)
theorem Uu (n:Int) (i:Int) (zs:List Int) (h:uU n i zs):sW n i zs=true:= @decide_eq_true _ (Classical.propDecidable _) h
theorem adU (T:List AV) (H:Hp) (e:Ex) (I:List AV) (G:Hp) (h:GH sW jX T H=some (true,e,I,G)):V.Ends Tryz.prog false 0 0 (.loop (lb 116 gk)) T H e I G:=by
 unfold GH at h
 split at h
 ·rename_i n i zs N O S
  rw [Bool.cond_eq_ite] at h
  split at h
  ·rename_i J
   rw [beq_iff_eq] at J
   simp only [Option.some.injEq,Prod.mk.injEq,Bool.and_eq_true,decide_eq_true_eq] at h
   obtain ⟨k1,rfl,rfl,rfl⟩:=h
   have Z:= @of_decide_eq_true _ (Classical.propDecidable _) k1
   refine Ends.pre (MO n i zs Z).1.ends (fun α B w D ab U=>bm J (fun p M y j=> ?_) U)
   simp only [List.mem_cons,List.not_mem_nil,or_false] at M
   rcases M with rfl | rfl | rfl
   ·rw [N] at j;exact j
   ·rw [O] at j;exact j
   ·rw [S] at j;exact j
  ·cases h
 ·cases h
theorem QJ {L:aE} (h:aB Tryz.prog L):aB Tryz.prog (Bb sW jX L):=h.br RT adU
theorem ad4 (G:IM) (I:Ig) (z:Int):letI j:=(I z (8:Int) [(0:Int),(0:Int),(0:Int),(0:Int),(0:Int),(0:Int),(0:Int),(0:Int)]);
  (aD Tryz.prog ⟨aF,ar,Bb G I aq⟩ 10 10 116 [.val (.int .i64 z)]=(bif G z (8:Int) [(0:Int),(0:Int),(0:Int),(0:Int),(0:Int),(0:Int),(0:Int),(0:Int)] then (bif decide ((8:Nat)≤j.snd.snd.length) then (bif decide ((0:Int)≤j.snd.fst)&&decide (j.snd.fst≤(8:Int)) then (bif decide ((0:Nat)+j.snd.fst.toNat*(1:Nat)+((8:Nat) - j.snd.fst.toNat)*(1:Nat)≤j.snd.snd.length) then some (.val (.string (ofBytes (List.take (((8:Nat) - j.snd.fst.toNat)*(1:Nat)) (List.drop ((0:Nat)+j.snd.fst.toNat*(1:Nat)) j.snd.snd))))) else none) else none) else none) else none)):=by kernel_rfl
theorem LI {zs:List Int} {n:Nat} (h:zs.map (fun z=>UInt8.ofNat z.toNat)=toB n):ofBytes zs=az n:=by
 apply nj
 rw [oQ]
 exact h
theorem Wb:Entry Tryz.prog 116 (zt aa):=by
 refine aX (E:= ⟨aF,ar,Bb sW jX aq⟩) (u:=10) (d:=10) (aH _) (QJ aB.none).ok mixed (by kernel_rfl) (fun args r h=> ?_)
 unfold zt at h
 split at h
 ·rename_i z
  simp only [Option.some.injEq,Prod.mk.injEq,Bool.and_eq_true,decide_eq_true_eq] at h
  obtain ⟨⟨G,O⟩,rfl⟩:=h
  obtain ⟨n,rfl⟩:=Int.eq_ofNat_of_zero_le G
  rw [Int.toNat_natCast]
  have j:=ad4 sW jX (n:Int)
  have I:uU (n:Int) 8 [0,0,0,0,0,0,0,0]:= ⟨G,O,rfl,rfl⟩
  obtain ⟨_,k,J,S,M,N⟩:=MO _ _ _ I
  rw [Uu _ _ _ I] at j
  generalize jX (n:Int) 8 [0,0,0,0,0,0,0,0]=r at*
  rw [J,M,dT (show 8≤8 by omega),dT (show (0:Int)≤(k:Int) by omega),dT (show (k:Int)≤8 by omega),Int.toNat_natCast,dT (show 0+k*1+(8 - k)*1≤8 by omega)] at j
  rw [j]
  show some (AV.val (.string (ofBytes _)))=some (AV.val (.string (az n)))
  rw [LI (n:=n)]
  rw [Nat.zero_add,Nat.mul_one,Nat.mul_one,List.take_of_length_le (by rw [List.length_drop];omega)]
  exact N
 ·cases h
theorem Vv:Entry Tryz.prog 105 (pH ad):=by
 refine aX (E:= ⟨G4 aa,ar,aq⟩) (u:=10) (d:=10) ((aH _).add Vl) aK mixed (by kernel_rfl) (fun args r h=> ?_)
 unfold pH at h
 split at h
 ·rename_i b n d
  simp only [Option.some.injEq,Prod.mk.injEq,true_and] at h
  subst h
  rw [Yt]
  have S:∀ x y:ByteArray,ad.ms x y=gq x y:=fun x y=>rfl
  have O:ad.mn b n d=bif gq n d then aa.val b n else 0:=rfl
  have N:ad.md n d=bif gq n d then dn d else 0:=rfl
  rw [S,O,N]
  unfold gq
  by_cases G:n.size≤3
  ·by_cases I:d.size≤3
   ·rw [dF (show ¬ (3:Int) < n.size by omega),dF (show ¬ (3:Int) < d.size by omega),dT G,dT I]
    have j:=pP (s:=n) (by omega)
    have j:aa.vs n < _:=j
    have M:kK ((aa.vs d:Nat):Int) 1=dn d:=by
     rw [show (1:Int)=((1:Nat):Int) from rfl,Ly]
     unfold dn
     have:aa.vs d=vS d:=rfl
     split <;> omega
    rw [M]
    have J:∀ b,aa.val b n=if b=true then -(aa.vs n:Int) else (aa.vs n:Int):=fun b=>rfl
    cases b
    ·rw [J];rfl
    ·rw [J,show IntKind.i64.wrap (0 - ((aa.vs n:Nat):Int))= -((aa.vs n:Nat):Int) by rw [IntKind.wrap_i64];omega];rfl
   ·rw [dF (show ¬ (3:Int) < n.size by omega),dT (show (3:Int) < d.size by omega),dF I,Bool.and_false];rfl
  ·rw [dT (show (3:Int) < n.size by omega),dF G];rfl
 ·cases h
abbrev fS:List Bool:= [false,false,true,true]
def ke (n:Int) (d:Int) (a:Int) (c:Int) (j:Bool) (G:ByteArray) (rd:ByteArray):List AV:=av 43 [(0, .val (.int .i64 n)),(1, .val (.int .i64 d)),(4, .ptr 0 0),(5, .val (.int .i64 a)),(6, .val (.int .i64 c))]
def ju (n:Int) (d:Int) (a:Int) (c:Int) (j:Bool) (G:ByteArray) (rd:ByteArray):Hp:= [.row (.cells [.val (.bool j), .val (.string G), .val (.string rd)]) 27 .live]
theorem Rv:aJ Tryz.prog 73 fS=some (.loop (lb 73 fS)):=by kernel_rfl
theorem S4:aJ Tryz.prog 73 (false :: fS)=some (lb 73 fS):=by kernel_rfl
theorem aaP (n:Int) (d:Int) (a:Int) (c:Int) (j:Bool) (G:ByteArray) (rd:ByteArray):aN Tryz.prog bj 73 [0,1,4,5,6] (lb 73 fS) (false :: fS) (ke n d a c j G rd) (ju n d a c j G rd)=
  (bif !decide (c=(0:Int)) then (bif decide (c=(0:Int)) then none else some (.normal,av 43 [(0,(.val (.int .i64 n))),(1,(.val (.int .i64 d))),(4,(.ptr 0 0)),(5,(.val (.int .i64 c))),(6,(.val (.int .i64 (a.tmod c))))], [(.row (.cells [(.val (.bool j)),(.val (.string G)),(.val (.string rd))]) 27 .live)])) else some ((.exit 0),av 43 [(0,(.val (.int .i64 n))),(1,(.val (.int .i64 d))),(4,(.ptr 0 0)),(5,(.val (.int .i64 a))),(6,(.val (.int .i64 c)))], [(.row (.cells [(.val (.bool j)),(.val (.string G)),(.val (.string rd))]) 27 .live)])):=by kernel_rfl
theorem Oi {n:Int} {d:Int} {a:Int} {c:Int} {j:Bool} {G:ByteArray} {rd:ByteArray} {e:Ex} {T:List AV} {H:Hp} (h:aN Tryz.prog bj 73 [0,1,4,5,6] (lb 73 fS) (false :: fS) (ke n d a c j G rd) (ju n d a c j G rd)=some (e,T,H)):V.Ends Tryz.prog false 0 0 (lb 73 fS) (ke n d a c j G rd) (ju n d a c j G rd) e T H:=
 bw (aH _) aK mixed S4 h
def ux (n d a c:Int) (j:Bool) (G rd:ByteArray):Prop:=True
def Du (n d a c:Int) (j:Bool) (G rd:ByteArray) (r:Int×Int):Prop:=r.1.natAbs=Nat.gcd a.natAbs c.natAbs∧(r.1.natAbs≤a.natAbs∨r.1.natAbs≤c.natAbs)
theorem ZZ (n d:Int) (j:Bool) (G rd:ByteArray) (k:Nat):∀ a c:Int,c.natAbs=k→∃ r:Int×Int,aw Tryz.prog (lb 73 fS) (ke n d a c j G rd) (ju n d a c j G rd) (.exit 0) (ke n d r.1 r.2 j G rd) (ju n d r.1 r.2 j G rd)∧r.1.natAbs=Nat.gcd a.natAbs c.natAbs:=by
 induction k using Nat.strongRecOn with
 | _ k O=>
  intro a c S
  have J:=aaP n d a c j G rd
  by_cases I:c=0
  ·refine ⟨(a,c), .last (Oi ?_) (by intro h;cases h),by rw [I];exact (Nat.gcd_zero_right _).symm⟩
   rw [J,dT I]
   rfl
  ·have U:(a.tmod c).natAbs < c.natAbs:=by rw [Int.natAbs_tmod];exact Nat.mod_lt _ (by omega)
   obtain ⟨r,M,N⟩:=O _ (by omega) c (a.tmod c) rfl
   refine ⟨r, .more (Oi ?_) M, ?_⟩
   ·rw [J,dF I]
    rfl
   ·rw [N,Int.natAbs_tmod,Nat.gcd_comm c.natAbs,← Nat.gcd_rec,Nat.gcd_comm]
theorem X1 (n d a c:Int) (j:Bool) (G rd:ByteArray) (h:ux n d a c j G rd):∃ r:Int×Int,aw Tryz.prog (lb 73 fS) (ke n d a c j G rd) (ju n d a c j G rd) (.exit 0) (ke n d r.1 r.2 j G rd) (ju n d r.1 r.2 j G rd)∧Du n d a c j G rd r:=by
 obtain ⟨r,J,I⟩:=ZZ n d j G rd c.natAbs a c rfl
 refine ⟨r,J,I, ?_⟩
 rw [I]
 rcases Nat.eq_zero_or_pos a.natAbs with e | e
 ·right;rw [e,Nat.gcd_zero_left];exact Nat.le_refl _
 ·left;exact Nat.gcd_le_left _ e
def Gh (J:Int→Int→Int→Int→Bool→ByteArray→ByteArray→Bool) (I:Int→Int→Int→Int→Bool→ByteArray→ByteArray→Int×Int) (T:List AV) (H:Hp):Option (Bool×Ex×List AV×Hp):=
 match al T 0,al T 1,al T 4,al T 5,al T 6,H with
 | .val (.int .i64 n), .val (.int .i64 d), .ptr 0 0, .val (.int .i64 a), .val (.int .i64 c), [.row (.cells [.val (.bool j), .val (.string G), .val (.string rd)]) 27 .live]=>bif T.length==43 then some (J n d a c j G rd, .exit 0,ke n d ((I n d a c j G rd).1) ((I n d a c j G rd).2) j G rd,ju n d ((I n d a c j G rd).1) ((I n d a c j G rd).2) j G rd) else none
 | _,_,_,_,_,_=>none
abbrev IA:Type:=Int→Int→Int→Int→Bool→ByteArray→ByteArray→Bool
abbrev HZ:Type:=Int→Int→Int→Int→Bool→ByteArray→ByteArray→Int×Int
def A4 (j:IA) (G:HZ) (L:aE):aE:=bp 0 73 fS [0,1,4,5,6] (Gh j G) L
def lO (n:Int) (d:Int) (a:Int) (c:Int) (j:Bool) (G:ByteArray) (rd:ByteArray):Int×Int:=Classical.epsilon fun ρ=>aw Tryz.prog (lb 73 fS) (ke n d a c j G rd) (ju n d a c j G rd) (.exit 0) (ke n d (ρ.1) (ρ.2) j G rd) (ju n d (ρ.1) (ρ.2) j G rd)∧Du n d a c j G rd ρ
theorem Mt (n:Int) (d:Int) (a:Int) (c:Int) (j:Bool) (G:ByteArray) (rd:ByteArray) (h:ux n d a c j G rd):aw Tryz.prog (lb 73 fS) (ke n d a c j G rd) (ju n d a c j G rd) (.exit 0) (ke n d ((lO n d a c j G rd).1) ((lO n d a c j G rd).2) j G rd) (ju n d ((lO n d a c j G rd).1) ((lO n d a c j G rd).2) j G rd)∧Du n d a c j G rd (lO n d a c j G rd):=Classical.epsilon_spec (X1 n d a c j G rd h)
def sH (n:Int) (d:Int) (a:Int) (c:Int) (j:Bool) (G:ByteArray) (rd:ByteArray):Bool:= @decide (ux n d a c j G rd) (Classical.propDecidable _)
theorem T4 (n:Int) (d:Int) (a:Int) (c:Int) (j:Bool) (G:ByteArray) (rd:ByteArray) (h:ux n d a c j G rd):sH n d a c j G rd=true:= @decide_eq_true _ (Classical.propDecidable _) h
theorem adw (T:List AV) (H:Hp) (e:Ex) (I:List AV) (G:Hp) (h:Gh sH lO T H=some (true,e,I,G)):V.Ends Tryz.prog false 0 0 (.loop (lb 73 fS)) T H e I G:=by
 unfold Gh at h
 split at h
 ·rename_i n d a c a1 a2 rd N O S U Z
  rw [Bool.cond_eq_ite] at h
  split at h
  ·rename_i J
   rw [beq_iff_eq] at J
   simp only [Option.some.injEq,Prod.mk.injEq,Bool.and_eq_true,decide_eq_true_eq] at h
   obtain ⟨k1,rfl,rfl,rfl⟩:=h
   have a0:= @of_decide_eq_true _ (Classical.propDecidable _) k1
   refine Ends.pre (Mt n d a c a1 a2 rd a0).1.ends (fun α B w D a3 ab=>bm J (fun p M y j=> ?_) ab)
   simp only [List.mem_cons,List.not_mem_nil,or_false] at M
   rcases M with rfl | rfl | rfl | rfl | rfl
   ·rw [N] at j;exact j
   ·rw [O] at j;exact j
   ·rw [S] at j;exact j
   ·rw [U] at j;exact j
   ·rw [Z] at j;exact j
  ·cases h
 ·cases h
theorem Qm {L:aE} (h:aB Tryz.prog L):aB Tryz.prog (A4 sH lO L):=h.br Rv adw
theorem Z1 (I:Sg) (M:IA) (N:HZ) (n d:Int):letI J:=(N n d n d false (ByteArray.mk #[]) (ByteArray.mk #[]));letI j:=(kK (J.fst) (IntKind.i64.wrap ((0:Int) - J.fst)));letI G:=(kK n (IntKind.i64.wrap ((0:Int) - n)));
  (aD Tryz.prog ⟨an 116 (zt I) aF,ar,A4 M N aq⟩ 10 10 73 [.val (.int .i64 n), .val (.int .i64 d)]=(bif M n d n d false (ByteArray.mk #[]) (ByteArray.mk #[]) then (bif decide (n=(0:Int)) then some (.agg [(.val (.bool false)),(.val (.string (ByteArray.mk #[]))),(.val (.string (ByteArray.mk #[])))]) else (bif decide (j=(0:Int)) then none else (bif aj IntKind.i64 (G.tdiv j) then (bif decide ((0:Int)≤G.tdiv j)&&decide (G.tdiv j≤(9223372036854775807:Int)) then (bif !decide (d=kK (J.fst) (IntKind.i64.wrap ((0:Int) - J.fst))) then (bif decide (j=(0:Int)) then none else (bif aj IntKind.i64 (d.tdiv j) then (bif decide ((0:Int)≤d.tdiv j)&&decide (d.tdiv j≤(9223372036854775807:Int)) then some (.agg [(.val (.bool (decide (n < (0:Int))))),(.val (.string (I.mg (G.tdiv j).toNat))),(.val (.string (I.mg (d.tdiv j).toNat)))]) else none) else none)) else some (.agg [(.val (.bool (decide (n < (0:Int))))),(.val (.string (I.mg (G.tdiv j).toNat))),(.val (.string (ByteArray.mk #[])))])) else none) else none))) else none)):=by kernel_rfl
end
end Go.Proofs.YtamcpiicmfielaaGreat.L
namespace Go.Proofs.YtamcpiicmfielaaGreat.L
open Go Go.V Go.RowKit Go.Proofs.YtamcpiicmfielaaGreat.Sp Go.Proofs.YtamcpiicmfielaaGreat.F
open Go.Proofs (Tryz.prog)
noncomputable section
theorem oU {s:ByteArray} (h:s.size≤8796093022208):aa.ok s=true:=decide_eq_true h
theorem LO:aa.ok (aa.ms 0)=true:=bA (by rw [show (0:Int).natAbs=0 from rfl,Jy];exact Nat.zero_le _)
theorem LP:aa.ok (aa.ms 1)=true:=bA (by rw [show (1:Int).natAbs=1 from rfl];exact Nat.le_trans wJ (by decide))
theorem YP:aa.ng 1=false:=YO (by decide)
theorem YH:aa.ms 1=az 1:=rfl
theorem np (x y:Int):aa.fD x y=0↔x=y:=by
 show cE x y=0↔_
 unfold cE
 split <;> (try split) <;> omega
theorem J0 (x y:Int):aa.fD x y= -1↔x < y:=by
 show cE x y= -1↔_
 unfold cE
 split <;> (try split) <;> omega
theorem vR:bb Tryz.prog (oa aa):=((aH _).add xu).add J4
theorem J9:Entry Tryz.prog 68 (vC ad):=by
 refine aX (E:= ⟨oa aa,ar,aq⟩) (u:=10) (d:=10) vR aK mixed (by kernel_rfl) (fun args r h=> ?_)
 unfold vC at h
 split at h
 ·rename_i b n d
  simp only [Option.some.injEq,Prod.mk.injEq] at h
  obtain ⟨G,rfl⟩:=h
  obtain ⟨k1,M⟩:=u0 G
  rw [Y0,oU (s:=d) (by omega),LO,dp]
  have J:aa.val false d=(vS d:Nat):=rfl
  have I:ad.fd d=if vS d=0 then az 1 else d:=rfl
  rw [I]
  by_cases j:vS d=0
  ·rw [if_pos j,dT ((np _ _).2 (by rw [J,j];rfl)),YP,YH];rfl
  ·rw [if_neg j,dF (fun h=>j (by have:=(np _ _).1 h;omega))];rfl
 ·cases h
theorem xI (x:Int) {y:Int} (U:0 < y):(Rat.divInt x y).num=x / (zg x y)∧(((Rat.divInt x y).den:Nat):Int)=y / (zg x y)∧(Rat.divInt x y).num.natAbs=x.natAbs / Nat.gcd x.natAbs y.natAbs∧(Rat.divInt x y).den=y.natAbs / Nat.gcd x.natAbs y.natAbs:=by
 have M:Int.gcd y x=Nat.gcd x.natAbs y.natAbs:=by rw [Int.gcd_eq_natAbs_gcd_natAbs,Nat.gcd_comm]
 have I:(Rat.divInt x y).num=x / (zg x y):=by
  rw [Rat.num_divInt,Int.sign_eq_one_of_pos U,Int.one_mul,M];rfl
 have J:(Rat.divInt x y).den=y.natAbs / Nat.gcd x.natAbs y.natAbs:=by
  rw [Rat.den_divInt,if_neg (by omega),M]
 refine ⟨I, ?_, ?_,J⟩
 ·rw [J,Int.natCast_ediv]
  unfold zg
  rw [show ((y.natAbs:Nat):Int)=y by omega]
 ·rw [I]
  obtain ⟨k,N⟩:=Int.ofNat_dvd_left.2 (Nat.gcd_dvd_left x.natAbs y.natAbs)
  have G:0 < Nat.gcd x.natAbs y.natAbs:=Nat.gcd_pos_of_pos_right _ (by omega)
  have j:x.natAbs=Nat.gcd x.natAbs y.natAbs*k.natAbs:=by
   have:=congrArg Int.natAbs N
   rwa [Int.natAbs_mul,Int.natAbs_natCast] at this
  have O:x / zg x y=k:=by
   have S:zg x y*k / zg x y=k:=Int.mul_ediv_cancel_left k (by unfold zg;omega)
   rw [← S]
   exact congrArg (· / zg x y) N
  rw [O]
  rw [j] at G ⊢
  rw [← j]
  exact (Nat.eq_of_mul_eq_mul_left (by rw [← j] at G;exact G) (by rw [← j,Nat.mul_div_cancel' (Nat.gcd_dvd_left _ _)])).symm
theorem GW (x:Int) {y:Int} (j:0 < y):0 < zg x y:=by
 have:0 < Nat.gcd x.natAbs y.natAbs:=Nat.gcd_pos_of_pos_right _ (by omega)
 unfold zg;omega
theorem GX (x:Int) {y:Int} (j:0 < y):zq x (zg x y)=(Rat.divInt x y).num∧zq y (zg x y)=((Rat.divInt x y).den:Nat):=by
 obtain ⟨G,I,_,_⟩:=xI x j
 have J:=GW x j
 unfold zq
 rw [if_neg (by omega),if_neg (by omega),Int.fdiv_eq_ediv_of_nonneg _ (by omega),Int.fdiv_eq_ediv_of_nonneg _ (by omega),G,I]
 exact ⟨rfl,rfl⟩
theorem yC (q:Rat):ad.qd q=if q.den=1 then ByteArray.mk #[] else az q.den:=rfl
theorem PD:bb Tryz.prog (zK aa aZ):=(vR.add J6).add Vq
theorem Vz:Entry Tryz.prog 70 (FB aa ad):=by
 refine aX (E:= ⟨zK aa aZ,ar,aq⟩) (u:=10) (d:=10) PD aK mixed (by kernel_rfl) (fun args r h=> ?_)
 unfold FB at h
 split at h
 ·rename_i b s c t
  simp only [Option.some.injEq,Prod.mk.injEq,Bool.and_eq_true,decide_eq_true_eq] at h
  obtain ⟨⟨⟨M,N⟩,U⟩,rfl⟩:=h
  have J:=YW aa aZ b c s t
  have k1:=dv b s
  have ab:=dv c t
  have z1:s.size≤8796093022208:=of_decide_eq_true M
  have z2:t.size≤8796093022208:=of_decide_eq_true N
  simp only [dp,Pt,GU] at J
  rw [J]
  clear J
  generalize aa.val b s=x at*
  generalize aa.val c t=y at*
  have a0:=Bq x y
  have a1:=du (LG x y)
  have a2:=du (J2 x (show y≠0 by omega))
  obtain ⟨O,S⟩:=GX x U
  rw [O,S,M,N,LO,LP,bA (z:=zg x y) (by omega),bA (z:=(((Rat.divInt x y).den:Nat):Int)) (by rw [Int.natAbs_natCast];omega)]
  have Z:ad.fr x y=Rat.divInt x y:=rfl
  rw [Z]
  by_cases I:x=0
  ·rw [dT ((np _ _).2 I),I,Rat.zero_divInt,nO];rfl
  ·rw [dF (fun h=>I ((np _ _).1 h))]
   have G:=yC (Rat.divInt x y)
   by_cases j:(Rat.divInt x y).den=1
   ·rw [if_pos j] at G
    rw [dT ((np _ _).2 (by rw [j];rfl))]
    unfold Qg.rat
    rw [G];rfl
   ·rw [if_neg j] at G
    rw [dF (fun h=>j (by have:=(np _ _).1 h;omega))]
    unfold Qg.rat
    rw [G];rfl
 ·cases h
theorem Lz {a:Int} (h: -4611686018427387904 < a∧a < 4611686018427387904):kK a (IntKind.i64.wrap (0 - a))=((a.natAbs:Nat):Int):=by
 rw [show IntKind.i64.wrap (0 - a)= -a by rw [IntKind.wrap_i64];omega]
 unfold kK
 by_cases j:a < -a
 ·rw [if_pos j];omega
 ·rw [if_neg j];omega
theorem x7 {z:Int} (h:ff z=true): -72057594037927936 < z∧z < 72057594037927936:=by
 unfold ff at h
 rwa [Bool.and_eq_true,decide_eq_true_eq,decide_eq_true_eq] at h
theorem V1:Entry Tryz.prog 73 (pL ad):=by
 refine aX (E:= ⟨an 116 (zt aa) aF,ar,A4 sH lO aq⟩) (u:=10) (d:=10) ((aH _).add Wb) (Qm aB.none).ok mixed (by kernel_rfl) (fun args r h=> ?_)
 unfold pL at h
 split at h
 ·rename_i n d
  simp only [Option.some.injEq,Prod.mk.injEq,Bool.and_eq_true,decide_eq_true_eq] at h
  obtain ⟨⟨⟨a0,a1⟩,M⟩,rfl⟩:=h
  have bx:=x7 a0
  have bD:=x7 a1
  have j:=Z1 aa sH lO n d
  have S:ux n d n d false (ByteArray.mk #[]) (ByteArray.mk #[]):=True.intro
  obtain ⟨_,a4,b0⟩:=Mt _ _ _ _ _ _ _ S
  rw [T4 _ _ _ _ _ _ _ S] at j
  generalize lO n d n d false (ByteArray.mk #[]) (ByteArray.mk #[])=ρ at*
  have a5:0 < Nat.gcd n.natAbs d.natAbs:=Nat.gcd_pos_of_pos_right _ (by omega)
  rw [Lz (a:=ρ.1) (by omega),Lz (a:=n) (by omega),a4] at j
  have a6:Int.tdiv ((n.natAbs:Nat):Int) ((Nat.gcd n.natAbs d.natAbs:Nat):Int)=((n.natAbs / Nat.gcd n.natAbs d.natAbs:Nat):Int):=rfl
  have a7:Int.tdiv d ((Nat.gcd n.natAbs d.natAbs:Nat):Int)=((d.natAbs / Nat.gcd n.natAbs d.natAbs:Nat):Int):=by
   obtain ⟨m,rfl⟩:=Int.eq_ofNat_of_zero_le (show 0≤d by omega)
   rfl
  have l1:=Nat.div_le_self n.natAbs (Nat.gcd n.natAbs d.natAbs)
  have l2:=Nat.div_le_self d.natAbs (Nat.gcd n.natAbs d.natAbs)
  obtain ⟨_,_,ab,N⟩:=xI n M
  rw [a6,a7] at j
  have a3:ad.fr n d=Rat.divInt n d:=rfl
  rw [a3]
  by_cases J:n=0
  ·rw [dT J] at j
   rw [j,J,Rat.zero_divInt,nO];rfl
  ·have O:d=((Nat.gcd n.natAbs d.natAbs:Nat):Int)↔(Rat.divInt n d).den=1:=by
    rw [N]
    have a2:=Nat.div_mul_cancel (Nat.gcd_dvd_right n.natAbs d.natAbs)
    constructor
    ·intro h
     have h':d.natAbs=Nat.gcd n.natAbs d.natAbs:=by omega
     exact Nat.div_eq_of_eq_mul_left a5 (by omega)
    ·intro h
     rw [h] at a2
     omega
   rw [dF J,dF (show ¬ ((Nat.gcd n.natAbs d.natAbs:Nat):Int)=0 by omega)] at j
   rw [← ab] at j l1
   rw [← N] at j l2
   rw [aO (z:=(((Rat.divInt n d).num.natAbs:Nat):Int)) (by omega),dT (show (0:Int)≤(((Rat.divInt n d).num.natAbs:Nat):Int) by omega),dT (show (((Rat.divInt n d).num.natAbs:Nat):Int)≤9223372036854775807 by omega),aO (z:=(((Rat.divInt n d).den:Nat):Int)) (by omega),dT (show (0:Int)≤(((Rat.divInt n d).den:Nat):Int) by omega),dT (show (((Rat.divInt n d).den:Nat):Int)≤9223372036854775807 by omega),Int.toNat_natCast,Int.toNat_natCast] at j
   rw [j]
   have I:=yC (Rat.divInt n d)
   have U:ad.qn (Rat.divInt n d)=decide (n < 0):=by
    have:ad.qn (Rat.divInt n d)=aa.ng (Rat.divInt n d).num:=rfl
    rw [this,cQ]
    refine decide_eq_decide.2 ?_
    obtain ⟨Z,_,_,_⟩:=xI n M
    rw [Z]
    rw [Int.ediv_lt_iff_lt_mul (GW n M),Int.zero_mul]
   by_cases G:(Rat.divInt n d).den=1
   ·rw [if_pos G] at I
    rw [dT (O.2 G)]
    unfold Qg.rat
    rw [I,U];rfl
   ·rw [if_neg G] at I
    rw [dF (fun h=>G (O.1 h))]
    unfold Qg.rat
    rw [I,U];rfl
 ·cases h
theorem pU:bb Tryz.prog (jf aa aZ ad):=((vR.add J8).add J9).add Vz
theorem VE:Entry Tryz.prog 28 (FD ad):=by
 refine aX (E:= ⟨jf aa aZ ad,ar,aq⟩) (u:=10) (d:=10) pU aK mixed (by kernel_rfl) (fun args r h=> ?_)
 unfold FD at h
 split at h
 ·rename_i z
  simp only [Option.some.injEq,Prod.mk.injEq] at h
  obtain ⟨j,rfl⟩:=h
  have G:=j
  unfold cI at G
  rw [Bool.and_eq_true,decide_eq_true_eq,decide_eq_true_eq] at G
  have I:bs z.natAbs≤8:=ib (by have:(256:Nat) ^ 8=18446744073709551616:=rfl;omega)
  rw [ZL]
  simp only [dp]
  rw [j,bA (z:=z) (by omega),LP,dT (show (0:Int) < 1 by decide)]
  rfl
 ·cases h
theorem BV:Entry Tryz.prog 84 (pI aa aZ ad):=by
 refine aX (E:= ⟨jf aa aZ ad,ar,aq⟩) (u:=10) (d:=10) pU aK mixed (by kernel_rfl) (fun args r h=> ?_)
 unfold pI at h
 split at h
 ·rename_i b s c t
  simp only [Option.some.injEq,Prod.mk.injEq,Bool.and_eq_true] at h
  obtain ⟨⟨I,J⟩,rfl⟩:=h
  have G:=ZK aa aZ ad b c s t
  have k1:=dv b s
  have O:=dv c t
  have z1:s.size≤8796093022208:=of_decide_eq_true I
  have z2:t.size≤8796093022208:=of_decide_eq_true J
  simp only [dp,zF] at G
  rw [G]
  clear G
  generalize aa.val b s=x at*
  generalize aa.val c t=y at*
  have S:=wI x
  have U:=wI y
  have N:∀ x y,ad.fr x y=Rat.divInt x y:=fun x y=>rfl
  rw [I,J,ye,bA (z:= -x) (by omega),bA (z:= -y) (by omega),Ps,N,N]
  by_cases j:y=0
  ·rw [dT ((np _ _).2 j),j,Ch,Rat.divInt_zero,nO];rfl
  ·rw [dF (fun h=>j ((np _ _).1 h)),Ci j]
   by_cases M:y < 0
   ·rw [dT ((J0 _ _).2 M),dT (show 0 < -y by omega),Rat.neg_divInt_neg];rfl
   ·rw [dF (fun h=>M ((J0 _ _).1 h)),dT (show 0 < y by omega)];rfl
 ·cases h
theorem VF:Entry Tryz.prog 87 (FE aZ ad):=by
 refine aX (E:= ⟨an 84 (pI aa aZ ad) (oa aa),ar,aq⟩) (u:=10) (d:=10) (vR.add BV) aK mixed (by kernel_rfl) (fun args r h=> ?_)
 unfold FE at h
 split at h
 ·rename_i n d
  simp only [Option.some.injEq,Prod.mk.injEq,Bool.and_eq_true] at h
  obtain ⟨⟨j,G⟩,rfl⟩:=h
  have I:=j
  have J:=G
  unfold cI at I J
  rw [Bool.and_eq_true,decide_eq_true_eq,decide_eq_true_eq] at I J
  have M:bs n.natAbs≤8:=ib (by have:(256:Nat) ^ 8=18446744073709551616:=rfl;omega)
  have N:bs d.natAbs≤8:=ib (by have:(256:Nat) ^ 8=18446744073709551616:=rfl;omega)
  rw [ZN]
  simp only [dp]
  rw [j,G,bA (z:=n) (by omega),bA (z:=d) (by omega)]
  rfl
 ·cases h
theorem KF (b:Bool) (n d:ByteArray):ad.fr (aa.val b n) (aa.val false (ad.fd d))=ad.qv b n d:=by rw [jd];rfl
theorem qN {n d:ByteArray} (h:ad.ok n d=true):aa.ok n=true∧aa.ok (ad.fd d)=true∧decide (0 < aa.val false (ad.fd d))=true:=by
 obtain ⟨k1,j⟩:=u0 h
 have G:=abK d
 exact ⟨oU (by omega),oU (by omega),by rw [jd];exact dT (cU d)⟩
theorem oz:Entry Tryz.prog 49 (ma ad):=by
 refine aX (E:= ⟨jf aa aZ ad,ar,aq⟩) (u:=10) (d:=10) pU aK mixed (by kernel_rfl) (fun args r h=> ?_)
 unfold ma l8 at h
 split at h
 ·rename_i b n d
  simp only [Option.some.injEq,Prod.mk.injEq] at h
  obtain ⟨j,rfl⟩:=h
  obtain ⟨k1,I,J⟩:=qN j
  rw [ZF,j,k1,I,J]
  simp only [KF]
  have G:ad.ck b n d=bif (b==ad.qn (ad.qv b n d))&&aG n (ad.qs (ad.qv b n d))&&aG d (ad.qd (ad.qv b n d)) then 0 else 1:=rfl
  rw [G]
  generalize (b==ad.qn (ad.qv b n d))=M
  generalize aG n (ad.qs (ad.qv b n d))=N
  generalize aG d (ad.qd (ad.qv b n d))=O
  cases M <;> cases N <;> cases O <;> rfl
 ·cases h
theorem VD:Entry Tryz.prog 156 (y7 ad):=by
 refine aX (E:= ⟨jf aa aZ ad,ar,aq⟩) (u:=10) (d:=10) pU aK mixed (by kernel_rfl) (fun args r h=> ?_)
 unfold y7 l8 at h
 split at h
 ·rename_i b n d
  simp only [Option.some.injEq,Prod.mk.injEq] at h
  obtain ⟨j,rfl⟩:=h
  obtain ⟨k1,G,I⟩:=qN j
  rw [ZJ]
  simp only [KF,DS]
  rw [j,k1,G,I]
  rfl
 ·cases h
theorem Kb:Entry Tryz.prog 27 (y8 ad):=by
 refine aX (E:= ⟨jf aa aZ ad,ar,aq⟩) (u:=10) (d:=10) pU aK mixed (by kernel_rfl) (fun args r h=> ?_)
 unfold y8 l8 at h
 split at h
 ·rename_i b n d
  simp only [Option.some.injEq,Prod.mk.injEq] at h
  obtain ⟨j,rfl⟩:=h
  obtain ⟨k1,I,J⟩:=qN j
  rw [ZO]
  simp only [zF]
  rw [j,k1,ye]
  have G:ad.sq (ad.qv b n d)=aa.fD (aa.val b n) 0:=abU (aa.val b n) (cU d)
  rw [G]
  rfl
 ·cases h
end
end Go.Proofs.YtamcpiicmfielaaGreat.L
namespace Go.Proofs.YtamcpiicmfielaaGreat.L
open Go Go.V Go.RowKit Go.Proofs.YtamcpiicmfielaaGreat.Sp Go.Proofs.YtamcpiicmfielaaGreat.F
open Go.Proofs (Tryz.prog)
noncomputable section
theorem vU:bb Tryz.prog (je aa aZ ad):=(((pU.add xt).add Vx).add V1).add Vv
theorem iG {n d:ByteArray} (h:ad.ms n d=true) (b:Bool):n.size≤3∧d.size≤3∧ad.mn b n d=aa.val b n∧ad.md n d=dn d∧(aa.val b n).natAbs < 16777216∧dn d < 16777216:=by
 have h':gq n d=true:=h
 have j:=h'
 unfold gq at j
 rw [Bool.and_eq_true,decide_eq_true_eq,decide_eq_true_eq] at j
 have G:ad.mn b n d=bif gq n d then aa.val b n else 0:=rfl
 have I:ad.md n d=bif gq n d then dn d else 0:=rfl
 rw [h'] at G I
 have J:vS n < 16777216:=Nat.lt_of_lt_of_le (ld n) (Nat.pow_le_pow_right (by decide:0 < 256) j.1)
 have v2:vS d < 16777216:=Nat.lt_of_lt_of_le (ld d) (Nat.pow_le_pow_right (by decide:0 < 256) j.2)
 refine ⟨j.1,j.2,G,I,by rw [← lf];exact J, ?_⟩
 unfold dn
 split <;> omega
theorem lA {z:Int} (h: -72057594037927936 < z∧z < 72057594037927936):ff z=true:=by
 unfold ff
 rw [Bool.and_eq_true,decide_eq_true_eq,decide_eq_true_eq]
 exact h
theorem gJ {x y:Int} (j:x.natAbs < 16777216) (G:y.natAbs < 16777216):(x*y).natAbs≤281474976710656:=by
 rw [Int.natAbs_mul]
 exact Nat.le_trans (Nat.mul_le_mul (Nat.le_of_lt j) (Nat.le_of_lt G)) (by decide)
theorem zB {n d m e:ByteArray} (j:ad.ok n d=true) (G:ad.ok m e=true):∀ (b c:Bool),aa.ok n=true∧aa.ok m=true∧aa.ok (ad.fd d)=true∧aa.ok (ad.fd e)=true∧
  bs (aa.val b n).natAbs≤1099511627776∧bs (aa.val c m).natAbs≤1099511627776∧bs (dn d).natAbs≤1099511627776∧bs (dn e).natAbs≤1099511627776:=by
 intro b c
 obtain ⟨k1,I,_⟩:=qN j
 obtain ⟨J,M,_⟩:=qN G
 obtain ⟨z1,z2⟩:=u0 j
 obtain ⟨z3,z4⟩:=u0 G
 have N:=dv b n
 have O:=dv c m
 have S:=p8 d
 have U:=p8 e
 exact ⟨k1,J,I,M,by omega,by omega,by omega,by omega⟩
theorem oy:Entry Tryz.prog 29 (nX ad):=by
 refine aX (E:= ⟨je aa aZ ad,ar,aq⟩) (u:=10) (d:=10) vU aK mixed (by kernel_rfl) (fun args r h=> ?_)
 unfold nX l9 at h
 split at h
 ·rename_i b n d c m e
  simp only [Option.some.injEq,Prod.mk.injEq,Bool.and_eq_true] at h
  obtain ⟨⟨G,I⟩,rfl⟩:=h
  have j:=ZD aa aZ ad b c n d m e
  obtain ⟨k1,a5,a6,a7,b0,b1,b2,b3⟩:=zB G I b c
  have p1:=cU d
  have p2:=cU e
  have J:ad.qv b n d+ad.qv c m e=Rat.divInt (aa.val b n*dn e+aa.val c m*dn d) (dn d*dn e):=KE _ _ (ox d) (ox e)
  have b7:=cO (aa.val b n) (dn e)
  have b8:=cO (aa.val c m) (dn d)
  have ch:=cO (dn d) (dn e)
  have ct:=Bp (aa.val b n*dn e) (aa.val c m*dn d)
  have p3:=Int.mul_pos p1 p2
  have a2:∀ x y,ad.fr x y=Rat.divInt x y:=fun x y=>rfl
  simp only [dp,jd,a2] at j
  rw [G,I,k1,a5,a6,a7,bA (z:=aa.val b n*dn e) (by omega),bA (z:=aa.val c m*dn d) (by omega),bA (z:=dn d*dn e) (by omega),bA (z:=aa.val b n*dn e+aa.val c m*dn d) (by omega),dT p3,← J] at j
  have a1:∀ u v:Bool,(u=true→ad.ms n d=true)→(v=true→ad.ms m e=true)→ad.ms n d=u→ad.ms m e=v→aD Tryz.prog ⟨je aa aZ ad,ar,aq⟩ 10 10 29 [.agg [.val (.bool b), .val (.string n), .val (.string d)], .agg [.val (.bool c), .val (.string m), .val (.string e)]]=some (ad.rat (ad.qv b n d+ad.qv c m e)):=by
   intro u v a3 a4 ab a0
   rw [j,ab,a0]
   cases u
   ·rfl
   ·cases v
    ·rfl
    ·obtain ⟨_,_,O,S,M,bx⟩:=iG (a3 rfl) b
     obtain ⟨_,_,U,Z,N,bD⟩:=iG (a4 rfl) c
     rw [O,S,U,Z]
     have b4:=gJ (x:=aa.val b n) (y:=dn e) M (by omega)
     have b5:=gJ (x:=aa.val c m) (y:=dn d) N (by omega)
     have b6:=gJ (x:=dn d) (y:=dn e) (by omega) (by omega)
     rw [aO (z:=aa.val b n*dn e) (by omega),aO (z:=aa.val c m*dn d) (by omega),aO (z:=aa.val b n*dn e+aa.val c m*dn d) (by omega),aO (z:=dn d*dn e) (by omega),lA (z:=aa.val b n*dn e+aa.val c m*dn d) (by omega),lA (z:=dn d*dn e) (by omega),dT p3,← J]
     rfl
  exact a1 _ _ id id rfl rfl
 ·cases h
theorem tb:Entry Tryz.prog 30 (rF ad):=by
 refine aX (E:= ⟨je aa aZ ad,ar,aq⟩) (u:=10) (d:=10) vU aK mixed (by kernel_rfl) (fun args r h=> ?_)
 unfold rF l9 at h
 split at h
 ·rename_i b n d c m e
  simp only [Option.some.injEq,Prod.mk.injEq,Bool.and_eq_true] at h
  obtain ⟨⟨G,I⟩,rfl⟩:=h
  have j:=ZI aa aZ ad b c n d m e
  obtain ⟨k1,a5,a6,a7,b0,b1,b2,b3⟩:=zB G I b c
  have p1:=cU d
  have p2:=cU e
  have J:ad.qv b n d*ad.qv c m e=Rat.divInt (aa.val b n*aa.val c m) (dn d*dn e):=Cp _ _ _ _
  have b6:=cO (aa.val b n) (aa.val c m)
  have b7:=cO (dn d) (dn e)
  have p3:=Int.mul_pos p1 p2
  have a2:∀ x y,ad.fr x y=Rat.divInt x y:=fun x y=>rfl
  simp only [dp,jd,a2] at j
  rw [G,I,k1,a5,a6,a7,bA (z:=aa.val b n*aa.val c m) (by omega),bA (z:=dn d*dn e) (by omega),dT p3,← J] at j
  have a1:∀ u v:Bool,(u=true→ad.ms n d=true)→(v=true→ad.ms m e=true)→ad.ms n d=u→ad.ms m e=v→aD Tryz.prog ⟨je aa aZ ad,ar,aq⟩ 10 10 30 [.agg [.val (.bool b), .val (.string n), .val (.string d)], .agg [.val (.bool c), .val (.string m), .val (.string e)]]=some (ad.rat (ad.qv b n d*ad.qv c m e)):=by
   intro u v a3 a4 ab a0
   rw [j,ab,a0]
   cases u
   ·rfl
   ·cases v
    ·rfl
    ·obtain ⟨_,_,O,S,M,bx⟩:=iG (a3 rfl) b
     obtain ⟨_,_,U,Z,N,bD⟩:=iG (a4 rfl) c
     rw [O,S,U,Z]
     have b4:=gJ (x:=aa.val b n) (y:=aa.val c m) M N
     have b5:=gJ (x:=dn d) (y:=dn e) (by omega) (by omega)
     rw [aO (z:=aa.val b n*aa.val c m) (by omega),aO (z:=dn d*dn e) (by omega),lA (z:=aa.val b n*aa.val c m) (by omega),lA (z:=dn d*dn e) (by omega),dT p3,← J]
     rfl
  exact a1 _ _ id id rfl rfl
 ·cases h
theorem xv:Entry Tryz.prog 23 (rE ad):=by
 refine aX (E:= ⟨je aa aZ ad,ar,aq⟩) (u:=10) (d:=10) vU aK mixed (by kernel_rfl) (fun args r h=> ?_)
 unfold rE l9 at h
 split at h
 ·rename_i b n d c m e
  simp only [Option.some.injEq,Prod.mk.injEq,Bool.and_eq_true] at h
  obtain ⟨⟨J,M⟩,rfl⟩:=h
  have I:=ZG aa aZ ad b c n d m e
  obtain ⟨k1,a7,bx,bD,b2,b3,b4,b5⟩:=zB J M b c
  have p1:=cU d
  have p2:=cU e
  have N:ad.cq (ad.qv b n d) (ad.qv c m e)=cE (aa.val b n*dn e) (aa.val c m*dn d):=BI _ _ p1 p2
  have b8:=cO (aa.val b n) (dn e)
  have ch:=cO (aa.val c m) (dn d)
  simp only [dp,jd] at I
  rw [J,M,k1,a7,bx,bD,bA (z:=aa.val b n*dn e) (by omega),bA (z:=aa.val c m*dn d) (by omega)] at I
  have a6:aa.fD (aa.val b n*dn e) (aa.val c m*dn d)=ad.cq (ad.qv b n d) (ad.qv c m e):=N.symm
  rw [a6] at I
  have a3:∀ u v:Bool,(u=true→ad.ms n d=true)→(v=true→ad.ms m e=true)→ad.ms n d=u→ad.ms m e=v→aD Tryz.prog ⟨je aa aZ ad,ar,aq⟩ 10 10 23 [.agg [.val (.bool b), .val (.string n), .val (.string d)], .agg [.val (.bool c), .val (.string m), .val (.string e)]]=some (.val (.int .i64 (ad.cq (ad.qv b n d) (ad.qv c m e)))):=by
   intro u v a4 a5 a1 a2
   rw [I,a1,a2]
   cases u
   ·rfl
   ·cases v
    ·rfl
    ·obtain ⟨_,_,U,Z,O,b0⟩:=iG (a4 rfl) b
     obtain ⟨_,_,ab,a0,S,b1⟩:=iG (a5 rfl) c
     rw [U,Z,ab,a0]
     have b6:=gJ (x:=aa.val b n) (y:=dn e) O (by omega)
     have b7:=gJ (x:=aa.val c m) (y:=dn d) S (by omega)
     rw [aO (z:=aa.val b n*dn e) (by omega),aO (z:=aa.val c m*dn d) (by omega),N]
     unfold cE
     by_cases j:aa.val b n*dn e < aa.val c m*dn d
     ·rw [dT j,if_pos j];rfl
     ·rw [dF j,if_neg j]
      by_cases G:aa.val c m*dn d < aa.val b n*dn e
      ·rw [dT G,if_pos G];rfl
      ·rw [dF G,if_neg G];rfl
  exact a3 _ _ id id rfl rfl
 ·cases h
theorem MX (x:Int) {y:Int} (G:0 < y):ad.qe (Rat.divInt x y)=ze x:=by
 have h:ad.qe (Rat.divInt x y)=if Rat.divInt x y=0 then 10 else 0:=rfl
 rw [h]
 unfold ze
 by_cases j:x=0
 ·rw [if_pos j,if_pos ((KG (by omega)).2 j)]
 ·rw [if_neg j,if_neg (fun h=>j ((KG (by omega)).1 h))]
theorem BW:Entry Tryz.prog 42 (vD ad):=by
 refine aX (E:= ⟨an 84 (pI aa aZ ad) (je aa aZ ad),ar,aq⟩) (u:=10) (d:=10) (vU.add BV) aK mixed (by kernel_rfl) (fun args r h=> ?_)
 unfold vD l9 at h
 split at h
 ·rename_i b n d c m e
  simp only [Option.some.injEq,Prod.mk.injEq,Bool.and_eq_true] at h
  obtain ⟨⟨I,J⟩,rfl⟩:=h
  have G:=ZM aa aZ ad b c n d m e
  obtain ⟨k1,U,Z,ab,a0,a1,a2,a3⟩:=zB I J b c
  have p1:=cU d
  have p2:=cU e
  have a4:=cO (aa.val b n) (dn e)
  have a5:=cO (dn d) (aa.val c m)
  have O:ad.qv b n d / ad.qv c m e=Rat.divInt (aa.val b n*dn e) (dn d*aa.val c m):=Wx _ _ _ _
  have M:ad.qe (ad.qv c m e)=ze (aa.val c m):=MX _ p2
  have N:∀ x y,ad.fr x y=Rat.divInt x y:=fun x y=>rfl
  have S:ze (dn d*aa.val c m)=ze (aa.val c m):=by
   unfold ze
   by_cases j:aa.val c m=0
   ·rw [j,Int.mul_zero]
   ·rw [if_neg j,if_neg (x8 (ox d) j)]
  simp only [dp,jd,N,Ps,S] at G
  rw [I,J,k1,U,Z,ab,bA (z:=aa.val b n*dn e) (by omega),bA (z:=dn d*aa.val c m) (by omega),← O,← M] at G
  exact G
 ·cases h
theorem ql:Entry Tryz.prog 31 (pJ ad):=by
 refine aX (E:= ⟨an 29 (nX ad) aF,ar,aq⟩) (u:=10) (d:=10) ((aH _).add oy) aK mixed (by kernel_rfl) (fun args r h=> ?_)
 unfold pJ l9 at h
 split at h
 ·rename_i b n d c m e
  simp only [Option.some.injEq,Prod.mk.injEq,Bool.and_eq_true] at h
  obtain ⟨⟨G,I⟩,rfl⟩:=h
  have j:=ZP ad b c n d m e
  simp only [DS] at j
  rw [G,I,← Rat.sub_eq_add_neg] at j
  exact j
 ·cases h
theorem Ww (b:Bool) (n d:ByteArray):zq (aa.val b n) (dn d)=ad.fl (ad.qv b n d):=by
 have h:ad.fl (ad.qv b n d)=(Rat.divInt (aa.val b n) (dn d)).floor:=rfl
 rw [h,KA _ (cU d)]
 unfold zq
 rw [if_neg (ox d)]
theorem VC:Entry Tryz.prog 155 (y6 aa ad):=by
 refine aX (E:= ⟨an 68 (vC ad) (an 115 (rB aa aZ) aF),ar,aq⟩) (u:=10) (d:=10) (((aH _).add J6).add J9) aK mixed (by kernel_rfl) (fun args r h=> ?_)
 unfold y6 l8 at h
 split at h
 ·rename_i b n d
  simp only [Option.some.injEq,Prod.mk.injEq] at h
  obtain ⟨G,rfl⟩:=h
  obtain ⟨k1,I,J⟩:=qN G
  have j:=ZH aa aZ ad b n d
  simp only [jd,GU,Ww] at j
  rw [G,k1,I] at j
  exact j
 ·cases h
theorem RX (q:Rat):bs q.floor.natAbs≤bs q.num.natAbs+1:=by
 have h:=KA q.num (d:=q.den) (by have:=q.den_pos;omega)
 rw [Rat.num_divInt_den] at h
 have j:=R8 q.num q.den
 unfold zq at j
 rw [if_neg (nq q)] at j
 rw [h]
 exact j
theorem VB:Entry Tryz.prog 122 (FC aa ad):=by
 refine aX (E:= ⟨an 155 (y6 aa ad) (an 156 (y7 ad) (an 121 (kX aa) aF)),ar,aq⟩) (u:=10) (d:=10) ((((aH _).add J8).add VD).add VC) aK mixed (by kernel_rfl) (fun args r h=> ?_)
 unfold FC l8 at h
 split at h
 ·rename_i b n d
  simp only [Option.some.injEq,Prod.mk.injEq] at h
  obtain ⟨G,rfl⟩:=h
  obtain ⟨z1,z2⟩:=u0 G
  have S:=nT b n d
  have j:=ZE aa aZ ad b n d
  have J:∀ q,ad.fl q=q.floor:=fun q=>rfl
  have I:ad.cl (ad.qv b n d)=(ad.qv b n d).ceil:=rfl
  simp only [gT,dp,J] at j
  rw [I,Rat.ceil_eq_neg_floor_neg]
  generalize ad.qv b n d=q at*
  have M:=RX (-q)
  have N:=OY q
  have O:bs (-q).num.natAbs≤bg (-q):=Nat.le_max_left _ _
  rw [G,df (q:= -q) (by omega),bA (z:=(-q).floor) (by omega)] at j
  exact j
 ·cases h
end
end Go.Proofs.YtamcpiicmfielaaGreat.L
