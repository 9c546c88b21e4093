import Derived.Test.YtamcpiicmfielaaGreatZMD
set_option linter.unusedVariables false
set_option linter.unusedSimpArgs false
namespace Go.Proofs.YtamcpiicmfielaaGreat.L
open Go Go.V Go.RowKit Go.Proofs.YtamcpiicmfielaaGreat.Sp
open Go.Proofs (Tryz.prog)
noncomputable section
structure Qg where
 qv:Bool→ByteArray→ByteArray→Rat
 qn:Rat→Bool
 qs:Rat→ByteArray
 qd:Rat→ByteArray
 ok:ByteArray→ByteArray→Bool
 fd:ByteArray→ByteArray
 fr:Int→Int→Rat
 cq:Rat→Rat→Int
 sq:Rat→Int
 ms:ByteArray→ByteArray→Bool
 mn:Bool→ByteArray→ByteArray→Int
 md:ByteArray→ByteArray→Int
 ck:Bool→ByteArray→ByteArray→Int
 nu:Rat→Int
 de:Rat→Int
 qe:Rat→Int
 fl:Rat→Int
 cl:Rat→Int
 br:ByteArray→ByteArray→Bool
 sp:Rat→Rat→Rat
 se:Rat→Rat→Int
def Qg.rat (G:Qg) (q:Rat):AV:= .agg [.val (.bool (G.qn q)), .val (.string (G.qs q)), .val (.string (G.qd q))]
abbrev TF:Type:=List AV→Option (Bool×AV)
def vP (G:Qg):TF:=fun args=>match args with | [.agg [.val (.bool b), .val (.string n), .val (.string d)]]=>some (G.ok n d, .agg [.val (.bool b), .val (.string n), .val (.bool false), .val (.string (G.fd d))]) | _=>none
def Fx (S:Sg) (G:Qg):TF:=fun args=>match args with | [.agg [.val (.bool b), .val (.string s), .val (.bool c), .val (.string t)]]=>some (S.ok s&&S.ok t&&decide (0 < S.val c t),G.rat (G.fr (S.val b s) (S.val c t))) | _=>none
def pU (G:Qg):TF:=fun args=>match args with | [.agg [.val (.bool b), .val (.string n), .val (.string d)]]=>some (true, .tup [.val (.int .i64 (G.mn b n d)), .val (.int .i64 (G.md n d)), .val (.bool (G.ms n d))]) | _=>none
def jL (z:Int):Bool:=decide (-72057594037927936 < z)&&decide (z < 72057594037927936)
def pX (G:Qg):TF:=fun args=>match args with | [.val (.int .i64 n), .val (.int .i64 d)]=>some (jL n&&jL d&&decide (0 < d),G.rat (G.fr n d)) | _=>none
def zL (S:Sg):TF:=fun args=>match args with | [.val (.int .i64 n)]=>some (decide (0≤n)&&decide (n≤9223372036854775807), .val (.string (S.mg n.toNat))) | _=>none
def pT (S:Sg):TF:=fun args=>match args with | [.val (.string s)]=>some (decide (s.size≤3), .val (.int .i64 (S.vs s))) | _=>none
def zA (G:Qg):TF:=fun args=>match args with | [.val (.int .i64 z)]=>some (cW z,G.rat (G.fr z 1)) | _=>none
def FA (X:Xg) (G:Qg):TF:=fun args=>match args with | [.val (.int .i64 n), .val (.int .i64 d)]=>some (cW n&&cW d, .tup [G.rat (G.fr n d), .val (.int .i64 (X.de d))]) | _=>none
def pW (S:Sg) (X:Xg) (G:Qg):TF:=fun args=>match args with | [.agg [.val (.bool b), .val (.string s)], .agg [.val (.bool c), .val (.string t)]]=>some (S.ok s&&S.ok t, .tup [G.rat (G.fr (S.val b s) (S.val c t)), .val (.int .i64 (X.de (S.val c t)))]) | _=>none
def lT (G:Qg) (f:Bool→ByteArray→ByteArray→AV):TF:=fun args=>match args with | [.agg [.val (.bool b), .val (.string n), .val (.string d)]]=>some (G.ok n d,f b n d) | _=>none
def lU (G:Qg) (f:Rat→Rat→AV):TF:=fun args=>match args with | [.agg [.val (.bool b), .val (.string n), .val (.string d)], .agg [.val (.bool c), .val (.string m), .val (.string e)]]=>some (G.ok n d&&G.ok m e,f (G.qv b n d) (G.qv c m e)) | _=>none
def oe (G:Qg):TF:=lT G fun b n d=> .val (.int .i64 (G.ck b n d))
def zy (G:Qg):TF:=lT G fun b n d=>G.rat (-(G.qv b n d))
def zC (G:Qg):TF:=lT G fun b n d=> .val (.int .i64 (G.sq (G.qv b n d)))
def zx (S:Sg) (G:Qg):TF:=lT G fun b n d=>S.int (G.fl (G.qv b n d))
def Fz (S:Sg) (G:Qg):TF:=lT G fun b n d=>S.int (G.cl (G.qv b n d))
def pV (G:Qg):TF:=lU G fun x y=>G.rat (x+y)
def r8 (G:Qg):TF:=lU G fun x y=>G.rat (x - y)
def vQ (G:Qg):TF:=lU G fun x y=>G.rat (x*y)
def zB (G:Qg):TF:=lU G fun x y=> .tup [G.rat (x / y), .val (.int .i64 (G.qe y))]
def nj (G:Qg):TF:=lU G fun x y=> .val (.int .i64 (G.cq x y))
end
end Go.Proofs.YtamcpiicmfielaaGreat.L
namespace Go.Proofs.YtamcpiicmfielaaGreat.L
open Go Go.V Go.RowKit Go.Proofs.YtamcpiicmfielaaGreat.Sp
open Go.Proofs (Tryz.prog)
noncomputable section
def ov (S:Sg):FuncId→TF:=au 64 (oc S) (au 69 (kC S) aM)
theorem Zs (S:Sg) (b:Bool) (n d:ByteArray):aG Tryz.prog ⟨ov S,az,aq⟩ 10 10 68 [.agg [.val (.bool b), .val (.string n), .val (.string d)]]=
  (bif S.ok d&&S.ok (S.ms (0:Int)) then (bif decide (S.fK (S.val false d) (S.val (S.ng (0:Int)) (S.ms (0:Int)))=0) then some (.agg [(.val (.bool b)),(.val (.string n)),(.val (.bool (S.ng (1:Int)))),(.val (.string (S.ms (1:Int))))]) else some (.agg [(.val (.bool b)),(.val (.string n)),(.val (.bool false)),(.val (.string d))])) else none):=by kernel_rfl
def z8 (S:Sg) (X:Xg):FuncId→TF:=au 114 (zo S X) (au 115 (r6 S X) (ov S))
theorem Zo (S:Sg) (X:Xg) (b c:Bool) (s t:ByteArray):letI I:=(X.gcd (S.val b s) (S.val c t));letI G:=(S.val (S.ng I) (S.ms I));
  (aG Tryz.prog ⟨z8 S X,az,aq⟩ 10 10 70 [.agg [.val (.bool b), .val (.string s), .val (.bool c), .val (.string t)]]=(bif S.ok s&&S.ok (S.ms (0:Int)) then (bif decide (S.fK (S.val b s) (S.val (S.ng (0:Int)) (S.ms (0:Int)))=0) then some (.agg [(.val (.bool false)),(.val (.string (ByteArray.mk #[]))),(.val (.string (ByteArray.mk #[])))]) else (bif S.ok s&&S.ok t then (bif S.ok s&&S.ok (S.ms I) then (bif S.ok t&&S.ok (S.ms I) then (bif S.ok (S.ms (X.dq (S.val c t) G))&&S.ok (S.ms (1:Int)) then (bif !decide (S.fK (S.val (S.ng (X.dq (S.val c t) G)) (S.ms (X.dq (S.val c t) G))) (S.val (S.ng (1:Int)) (S.ms (1:Int)))=0) then some (.agg [(.val (.bool (S.ng (X.dq (S.val b s) G)))),(.val (.string (S.ms (X.dq (S.val b s) G)))),(.val (.string (S.ms (X.dq (S.val c t) G))))]) else some (.agg [(.val (.bool (S.ng (X.dq (S.val b s) G)))),(.val (.string (S.ms (X.dq (S.val b s) G)))),(.val (.string (ByteArray.mk #[])))])) else none) else none) else none) else none)) else none)):=by kernel_rfl
def GW (S:Sg):FuncId→TF:=au 138 (pT S) aM
theorem YU (S:Sg) (b:Bool) (n d:ByteArray):aG Tryz.prog ⟨GW S,az,aq⟩ 10 10 105 [.agg [.val (.bool b), .val (.string n), .val (.string d)]]=
  (bif decide (3 < (↑n.size:Int)) then some (.tup [(.val (.int .i64 0)),(.val (.int .i64 0)),(.val (.bool false))]) else (bif decide (3 < (↑d.size:Int)) then some (.tup [(.val (.int .i64 0)),(.val (.int .i64 0)),(.val (.bool false))]) else (bif decide (n.size≤3) then (bif decide (d.size≤3) then (bif b then some (.tup [(.val (.int .i64 (IntKind.i64.wrap (0 - (↑(S.vs n):Int))))),(.val (.int .i64 (kM (↑(S.vs d):Int) (1:Int)))),(.val (.bool true))]) else some (.tup [(.val (.int .i64 ((↑(S.vs n):Int)))),(.val (.int .i64 (kM (↑(S.vs d):Int) (1:Int)))),(.val (.bool true))])) else none) else none))):=by kernel_rfl
def ji (S:Sg) (X:Xg) (G:Qg):FuncId→TF:=au 70 (Fx S G) (au 68 (vP G) (au 121 (kX S) (ov S)))
theorem aap (S:Sg) (X:Xg) (G:Qg) (z:Int):aG Tryz.prog ⟨ji S X G,az,aq⟩ 10 10 28 [.val (.int .i64 z)]=
  (bif cW z then (bif S.ok (S.ms z)&&S.ok (S.ms (1:Int))&&decide (0 < S.val (S.ng (1:Int)) (S.ms (1:Int))) then some (.agg [(.val (.bool (G.qn (G.fr (S.val (S.ng z) (S.ms z)) (S.val (S.ng (1:Int)) (S.ms (1:Int))))))),(.val (.string (G.qs (G.fr (S.val (S.ng z) (S.ms z)) (S.val (S.ng (1:Int)) (S.ms (1:Int))))))),(.val (.string (G.qd (G.fr (S.val (S.ng z) (S.ms z)) (S.val (S.ng (1:Int)) (S.ms (1:Int)))))))]) else none) else none):=by kernel_rfl
theorem aao (S:Sg) (X:Xg) (G:Qg) (b c:Bool) (s t:ByteArray):letI I:=(G.fr (S.val (S.ng (-S.val b s)) (S.ms (-S.val b s))) (S.val (S.ng (-S.val c t)) (S.ms (-S.val c t))));
  (aG Tryz.prog ⟨ji S X G,az,aq⟩ 10 10 84 [.agg [.val (.bool b), .val (.string s)], .agg [.val (.bool c), .val (.string t)]]=(bif S.ok t&&S.ok (ByteArray.mk #[]) then (bif decide (S.fK (S.val c t) (S.val false (ByteArray.mk #[]))=0) then some (.tup [(.agg [(.val (.bool false)),(.val (.string (ByteArray.mk #[]))),(.val (.string (ByteArray.mk #[])))]),(.val (.int .i64 10))]) else (bif decide (S.fK (S.val c t) (S.val false (ByteArray.mk #[]))=(-1:Int)) then (bif S.ok s then (bif S.ok t then (bif S.ok (S.ms (-S.val b s))&&S.ok (S.ms (-S.val c t))&&decide (0 < S.val (S.ng (-S.val c t)) (S.ms (-S.val c t))) then some (.tup [(.agg [(.val (.bool (G.qn I))),(.val (.string (G.qs I))),(.val (.string (G.qd I)))]),(.val (.int .i64 0))]) else none) else none) else none) else (bif S.ok s&&S.ok t&&decide (0 < S.val c t) then some (.tup [(.agg [(.val (.bool (G.qn (G.fr (S.val b s) (S.val c t))))),(.val (.string (G.qs (G.fr (S.val b s) (S.val c t))))),(.val (.string (G.qd (G.fr (S.val b s) (S.val c t)))))]),(.val (.int .i64 0))]) else none))) else none)):=by kernel_rfl
theorem aar (S:Sg) (X:Xg) (G:Qg) (n d:Int):aG Tryz.prog ⟨au 84 (pW S X G) (ov S),az,aq⟩ 10 10 87 [.val (.int .i64 n), .val (.int .i64 d)]=
  (bif cW n then (bif cW d then (bif S.ok (S.ms n)&&S.ok (S.ms d) then some (.tup [(.agg [(.val (.bool (G.qn (G.fr (S.val (S.ng n) (S.ms n)) (S.val (S.ng d) (S.ms d)))))),(.val (.string (G.qs (G.fr (S.val (S.ng n) (S.ms n)) (S.val (S.ng d) (S.ms d)))))),(.val (.string (G.qd (G.fr (S.val (S.ng n) (S.ms n)) (S.val (S.ng d) (S.ms d))))))]),(.val (.int .i64 (X.de (S.val (S.ng d) (S.ms d)))))]) else none) else none) else none):=by kernel_rfl
theorem aai (S:Sg) (X:Xg) (G:Qg) (b:Bool) (n d:ByteArray):aG Tryz.prog ⟨ji S X G,az,aq⟩ 10 10 49 [.agg [.val (.bool b), .val (.string n), .val (.string d)]]=
  (bif G.ok n d then (bif S.ok n&&S.ok (G.fd d)&&decide (0 < S.val false (G.fd d)) then (bif bif true then !(b==G.qn (G.fr (S.val b n) (S.val false (G.fd d)))&&(aF n (G.qs (G.fr (S.val b n) (S.val false (G.fd d))))&&(aF d (G.qd (G.fr (S.val b n) (S.val false (G.fd d))))&&true))) else b==G.qn (G.fr (S.val b n) (S.val false (G.fd d)))&&(aF n (G.qs (G.fr (S.val b n) (S.val false (G.fd d))))&&(aF d (G.qd (G.fr (S.val b n) (S.val false (G.fd d))))&&true)) then some (.val (.int .i64 1)) else some (.val (.int .i64 0))) else none) else none):=by kernel_rfl
theorem aan (S:Sg) (X:Xg) (G:Qg) (b:Bool) (n d:ByteArray):aG Tryz.prog ⟨ji S X G,az,aq⟩ 10 10 156 [.agg [.val (.bool b), .val (.string n), .val (.string d)]]=
  (bif G.ok n d then (bif S.ok n&&S.ok (G.fd d)&&decide (0 < S.val false (G.fd d)) then some (.agg [(.val (.bool (G.qn (G.fr (S.val (!b) n) (S.val false (G.fd d)))))),(.val (.string (G.qs (G.fr (S.val (!b) n) (S.val false (G.fd d)))))),(.val (.string (G.qd (G.fr (S.val (!b) n) (S.val false (G.fd d))))))]) else none) else none):=by kernel_rfl
theorem aas (S:Sg) (X:Xg) (G:Qg) (b:Bool) (n d:ByteArray):aG Tryz.prog ⟨ji S X G,az,aq⟩ 10 10 27 [.agg [.val (.bool b), .val (.string n), .val (.string d)]]=
  (bif G.ok n d then (bif S.ok n&&S.ok (ByteArray.mk #[]) then some (.val (.int .i64 (S.fK (S.val b n) (S.val false (ByteArray.mk #[]))))) else none) else none):=by kernel_rfl
def jh (S:Sg) (X:Xg) (G:Qg):FuncId→TF:=au 105 (pU G) (au 73 (pX G) (au 65 (r7 S) (au 75 (kB S) (ji S X G))))
theorem aaf (S:Sg) (X:Xg) (G:Qg) (b c:Bool) (n d m e:ByteArray):letI O:=(S.val (S.ng (S.val b n*S.val false (G.fd e))) (S.ms (S.val b n*S.val false (G.fd e)))+S.val (S.ng (S.val c m*S.val false (G.fd d))) (S.ms (S.val c m*S.val false (G.fd d))));letI J:=(S.val false (G.fd d)*S.val false (G.fd e));letI M:=(G.fr (S.val (S.ng O) (S.ms O)) (S.val (S.ng J) (S.ms J)));letI U:Option AV:=(bif G.ok n d then (bif G.ok m e then (bif S.ok n&&S.ok (G.fd e) then (bif S.ok m&&S.ok (G.fd d) then (bif S.ok (S.ms (S.val b n*S.val false (G.fd e)))&&S.ok (S.ms (S.val c m*S.val false (G.fd d))) then (bif S.ok (G.fd d)&&S.ok (G.fd e) then (bif S.ok (S.ms O)&&S.ok (S.ms J)&&decide (0 < S.val (S.ng J) (S.ms J)) then some (.agg [(.val (.bool (G.qn M))),(.val (.string (G.qs M))),(.val (.string (G.qd M)))]) else none) else none) else none) else none) else none) else none) else none);letI I:=(G.mn b n d*G.md m e+G.mn c m e*G.md n d);
  (aG Tryz.prog ⟨jh S X G,az,aq⟩ 10 10 29 [.agg [.val (.bool b), .val (.string n), .val (.string d)], .agg [.val (.bool c), .val (.string m), .val (.string e)]]=(bif G.ms n d then (bif G.ms m e then (bif ah IntKind.i64 (G.mn b n d*G.md m e) then (bif ah IntKind.i64 (G.mn c m e*G.md n d) then (bif ah IntKind.i64 I then (bif ah IntKind.i64 (G.md n d*G.md m e) then (bif jL I&&jL (G.md n d*G.md m e)&&decide (0 < G.md n d*G.md m e) then some (.agg [(.val (.bool (G.qn (G.fr I (G.md n d*G.md m e))))),(.val (.string (G.qs (G.fr I (G.md n d*G.md m e))))),(.val (.string (G.qd (G.fr I (G.md n d*G.md m e)))))]) else none) else none) else none) else none) else none) else U) else U)):=by kernel_rfl
theorem aam (S:Sg) (X:Xg) (G:Qg) (b c:Bool) (n d m e:ByteArray):letI I:=(S.val false (G.fd d)*S.val false (G.fd e));letI J:=(G.fr (S.val (S.ng (S.val b n*S.val c m)) (S.ms (S.val b n*S.val c m))) (S.val (S.ng I) (S.ms I)));letI O:Option AV:=(bif G.ok n d then (bif G.ok m e then (bif S.ok n&&S.ok m then (bif S.ok (G.fd d)&&S.ok (G.fd e) then (bif S.ok (S.ms (S.val b n*S.val c m))&&S.ok (S.ms I)&&decide (0 < S.val (S.ng I) (S.ms I)) then some (.agg [(.val (.bool (G.qn J))),(.val (.string (G.qs J))),(.val (.string (G.qd J)))]) else none) else none) else none) else none) else none);letI M:=(G.fr (G.mn b n d*G.mn c m e) (G.md n d*G.md m e));
  (aG Tryz.prog ⟨jh S X G,az,aq⟩ 10 10 30 [.agg [.val (.bool b), .val (.string n), .val (.string d)], .agg [.val (.bool c), .val (.string m), .val (.string e)]]=(bif G.ms n d then (bif G.ms m e then (bif ah IntKind.i64 (G.mn b n d*G.mn c m e) then (bif ah IntKind.i64 (G.md n d*G.md m e) then (bif jL (G.mn b n d*G.mn c m e)&&jL (G.md n d*G.md m e)&&decide (0 < G.md n d*G.md m e) then some (.agg [(.val (.bool (G.qn M))),(.val (.string (G.qs M))),(.val (.string (G.qd M)))]) else none) else none) else none) else O) else O)):=by kernel_rfl
theorem aaj (S:Sg) (X:Xg) (G:Qg) (b c:Bool) (n d m e:ByteArray):letI I:Option AV:=(bif G.ok n d then (bif G.ok m e then (bif S.ok n&&S.ok (G.fd e) then (bif S.ok m&&S.ok (G.fd d) then (bif S.ok (S.ms (S.val b n*S.val false (G.fd e)))&&S.ok (S.ms (S.val c m*S.val false (G.fd d))) then some (.val (.int .i64 (S.fK (S.val (S.ng (S.val b n*S.val false (G.fd e))) (S.ms (S.val b n*S.val false (G.fd e)))) (S.val (S.ng (S.val c m*S.val false (G.fd d))) (S.ms (S.val c m*S.val false (G.fd d))))))) else none) else none) else none) else none) else none);
  (aG Tryz.prog ⟨jh S X G,az,aq⟩ 10 10 23 [.agg [.val (.bool b), .val (.string n), .val (.string d)], .agg [.val (.bool c), .val (.string m), .val (.string e)]]=(bif G.ms n d then (bif G.ms m e then (bif ah IntKind.i64 (G.mn b n d*G.md m e) then (bif ah IntKind.i64 (G.mn c m e*G.md n d) then (bif decide (G.mn b n d*G.md m e < G.mn c m e*G.md n d) then some (.val (.int .i64 (-1))) else (bif decide (G.mn c m e*G.md n d < G.mn b n d*G.md m e) then some (.val (.int .i64 1)) else some (.val (.int .i64 0)))) else none) else none) else I) else I)):=by kernel_rfl
theorem aaq (S:Sg) (X:Xg) (G:Qg) (b c:Bool) (n d m e:ByteArray):aG Tryz.prog ⟨au 84 (pW S X G) (jh S X G),az,aq⟩ 10 10 42 [.agg [.val (.bool b), .val (.string n), .val (.string d)], .agg [.val (.bool c), .val (.string m), .val (.string e)]]=
  (bif G.ok n d then (bif G.ok m e then (bif S.ok n&&S.ok (G.fd e) then (bif S.ok (G.fd d)&&S.ok m then (bif S.ok (S.ms (S.val b n*S.val false (G.fd e)))&&S.ok (S.ms (S.val false (G.fd d)*S.val c m)) then some (.tup [(.agg [(.val (.bool (G.qn (G.fr (S.val (S.ng (S.val b n*S.val false (G.fd e))) (S.ms (S.val b n*S.val false (G.fd e)))) (S.val (S.ng (S.val false (G.fd d)*S.val c m)) (S.ms (S.val false (G.fd d)*S.val c m))))))),(.val (.string (G.qs (G.fr (S.val (S.ng (S.val b n*S.val false (G.fd e))) (S.ms (S.val b n*S.val false (G.fd e)))) (S.val (S.ng (S.val false (G.fd d)*S.val c m)) (S.ms (S.val false (G.fd d)*S.val c m))))))),(.val (.string (G.qd (G.fr (S.val (S.ng (S.val b n*S.val false (G.fd e))) (S.ms (S.val b n*S.val false (G.fd e)))) (S.val (S.ng (S.val false (G.fd d)*S.val c m)) (S.ms (S.val false (G.fd d)*S.val c m)))))))]),(.val (.int .i64 (X.de (S.val (S.ng (S.val false (G.fd d)*S.val c m)) (S.ms (S.val false (G.fd d)*S.val c m))))))]) else none) else none) else none) else none) else none):=by kernel_rfl
theorem aat (G:Qg) (b c:Bool) (n d m e:ByteArray):aG Tryz.prog ⟨au 29 (pV G) aM,az,aq⟩ 10 10 31 [.agg [.val (.bool b), .val (.string n), .val (.string d)], .agg [.val (.bool c), .val (.string m), .val (.string e)]]=
  (bif G.ok n d&&G.ok m e then some (.agg [(.val (.bool (G.qn (G.qv b n d+G.qv (!c) m e)))),(.val (.string (G.qs (G.qv b n d+G.qv (!c) m e)))),(.val (.string (G.qd (G.qv b n d+G.qv (!c) m e))))]) else none):=by kernel_rfl
theorem aal (S:Sg) (X:Xg) (G:Qg) (b:Bool) (n d:ByteArray):aG Tryz.prog ⟨au 68 (vP G) (au 115 (r6 S X) aM),az,aq⟩ 10 10 155 [.agg [.val (.bool b), .val (.string n), .val (.string d)]]=
  (bif G.ok n d then (bif S.ok n&&S.ok (G.fd d) then some (.agg [(.val (.bool (S.ng (X.dq (S.val b n) (S.val false (G.fd d)))))),(.val (.string (S.ms (X.dq (S.val b n) (S.val false (G.fd d))))))]) else none) else none):=by kernel_rfl
theorem aah (S:Sg) (X:Xg) (G:Qg) (b:Bool) (n d:ByteArray):aG Tryz.prog ⟨au 155 (zx S G) (au 156 (zy G) (au 121 (kX S) aM)),az,aq⟩ 10 10 122 [.agg [.val (.bool b), .val (.string n), .val (.string d)]]=
  (bif G.ok n d then (bif G.ok (G.qs (-G.qv b n d)) (G.qd (-G.qv b n d)) then (bif S.ok (S.ms (G.fl (G.qv (G.qn (-G.qv b n d)) (G.qs (-G.qv b n d)) (G.qd (-G.qv b n d))))) then some (.agg [(.val (.bool (S.ng (-S.val (S.ng (G.fl (G.qv (G.qn (-G.qv b n d)) (G.qs (-G.qv b n d)) (G.qd (-G.qv b n d))))) (S.ms (G.fl (G.qv (G.qn (-G.qv b n d)) (G.qs (-G.qv b n d)) (G.qd (-G.qv b n d))))))))),(.val (.string (S.ms (-S.val (S.ng (G.fl (G.qv (G.qn (-G.qv b n d)) (G.qs (-G.qv b n d)) (G.qd (-G.qv b n d))))) (S.ms (G.fl (G.qv (G.qn (-G.qv b n d)) (G.qs (-G.qv b n d)) (G.qd (-G.qv b n d)))))))))]) else none) else none) else none):=by kernel_rfl
end
end Go.Proofs.YtamcpiicmfielaaGreat.L
namespace Go.Proofs.YtamcpiicmfielaaGreat.L
open Go Go.V Go.RowKit Go.Proofs.YtamcpiicmfielaaGreat.Sp Go.Proofs.YtamcpiicmfielaaGreat.F
open Go.Proofs (Tryz.prog)
noncomputable section
def dn (d:ByteArray):Int:=if vS d=0 then 1 else (vS d:Int)
def tI (d:ByteArray):ByteArray:=if vS d=0 then av 1 else d
def N7:Nat→Rat→Rat→Rat
 | 0,_,_=>0
 | n+1,a,b=>if (a.ceil:Rat)≤b then (a.ceil:Rat) else ((a.ceil - 1:Int):Rat)+1 / N7 n (1 / (b - ((a.ceil - 1:Int):Rat))) (1 / (a - ((a.ceil - 1:Int):Rat)))
def N6 (a b:Rat):Rat:=N7 (a.den+b.den) a b
def abM (x y:Rat):Rat:=if y < x then 0 else if x≤0∧0≤y then 0 else if y < 0 then -(N6 (-y) (-x)) else N6 x y
def iN (b:Bool) (n d:ByteArray):Rat:=Rat.divInt (Sp.val b n) (dn d)
def vk (q:Rat):Bool:=(enc q.num).1
def yP (q:Rat):ByteArray:=(enc q.num).2
def kT (q:Rat):ByteArray:=if q.den=1 then ByteArray.mk #[] else av q.den
def fL (a b:Rat):Int:=if a < b then -1 else if b < a then 1 else 0
def gE (n d:ByteArray):Bool:=decide (n.size≤3)&&decide (d.size≤3)
def ad:Qg where
 qv:=iN
 qn:=vk
 qs:=yP
 qd:=kT
 ok n d:=decide (n.size≤1099511627776)&&decide (d.size≤1099511627776)
 fd:=tI
 fr:=Rat.divInt
 cq:=fL
 sq a:=fL a 0
 ms:=gE
 mn b n d:=bif gE n d then Sp.val b n else 0
 md n d:=bif gE n d then dn d else 0
 ck b n d:=bif (b==vk (iN b n d))&&aF n (yP (iN b n d))&&aF d (kT (iN b n d)) then 0 else 1
 nu q:=q.num
 de q:=q.den
 qe q:=if q=0 then 10 else 0
 fl q:=q.floor
 cl q:=q.ceil
 br n d:=decide (n.size≤1073741824)&&decide (d.size≤1073741824)
 sp:=abM
 se x y:=if y < x then 8 else 0
theorem fM (d:ByteArray):0 < dn d:=by unfold dn;split <;> omega
theorem tu (d:ByteArray):dn d≠0:=by have:=fM d;omega
theorem aeh:aa.vs (av 1)=1:=jg 1
theorem lY (d:ByteArray):aa.val false (ad.fd d)=dn d:=by
 show ((aa.vs (tI d):Nat):Int)=dn d
 unfold tI dn
 split
 ·rw [aeh];rfl
 ·rfl
theorem sJ:bs 1≤1:=gH (by decide)
theorem Ja:bs 0=0:=Nat.le_zero.1 (gH (n:=0) (m:=0) (by decide))
theorem abO (d:ByteArray):(ad.fd d).size≤max d.size 1:=by
 show (tI d).size≤_
 unfold tI
 split
 ·have:(av 1).size=bs 1:=kW 1
  have:=sJ
  omega
 ·omega
theorem qx (d:ByteArray):bs (dn d).natAbs≤max d.size 1:=by
 unfold dn
 split
 ·have:=sJ
  show bs 1≤_
  omega
 ·rw [Int.natAbs_natCast]
  have:=oG d
  have h:bs (vS d)≤d.size:=this
  omega
theorem Vl (q:Rat):dn (kT q)=q.den:=by
 have G:=q.den_pos
 unfold dn kT
 by_cases h:q.den=1
 ·rw [if_pos h,if_pos (show vS (ByteArray.mk #[])=0 from rfl),h];rfl
 ·rw [if_neg h,jg,if_neg (by omega)]
theorem dN (q:Rat):ad.qv (ad.qn q) (ad.qs q) (ad.qd q)=q:=by
 show Rat.divInt (Sp.val (enc q.num).1 (enc q.num).2) (dn (kT q))=q
 rw [Pr,Vl,Rat.num_divInt_den]
theorem M9:ad.qn 0=false:=rfl
theorem Nb:ad.qs 0=ByteArray.mk #[]:=lA
theorem M8:ad.qd 0=ByteArray.mk #[]:=by show kT 0=_;unfold kT;exact if_pos rfl
theorem vo:ad.rat 0= .agg [.val (.bool false), .val (.string (ByteArray.mk #[])), .val (.string (ByteArray.mk #[]))]:=by
 unfold Qg.rat;rw [M9,Nb,M8]
theorem Zk (b:Bool) (n:ByteArray):aa.val (!b) n= -aa.val b n:=Ps b n
theorem Nc (b:Bool) (n d:ByteArray):ad.qv (!b) n d= -ad.qv b n d:=by
 show Rat.divInt (aa.val (!b) n) (dn d)= -Rat.divInt (aa.val b n) (dn d)
 rw [Zk,Rat.neg_divInt]
def bk (q:Rat):Nat:=max (bs q.num.natAbs) (bs q.den)
theorem Eu (q:Rat):(ad.qs q).size=bs q.num.natAbs:=kW _
theorem Et (q:Rat):(ad.qd q).size≤bs q.den:=by
 show (kT q).size≤_
 unfold kT
 split
 ·exact Nat.zero_le _
 ·exact Nat.le_of_eq (kW _)
theorem cM {q:Rat} (h:bk q≤1099511627776):ad.ok (ad.qs q) (ad.qd q)=true:=by
 unfold bk at h
 have G:=Eu q
 have I:=Et q
 show (decide _&&decide _)=true
 rw [decide_eq_true (show (ad.qs q).size≤1099511627776 by omega),decide_eq_true (show (ad.qd q).size≤1099511627776 by omega)];rfl
theorem vn {n d:ByteArray} (h:ad.ok n d=true):n.size≤1099511627776∧d.size≤1099511627776:=by
 have h:(decide _&&decide _)=true:=h
 rwa [Bool.and_eq_true,decide_eq_true_eq,decide_eq_true_eq] at h
theorem yO {n d:ByteArray} (h:ad.br n d=true):n.size≤1073741824∧d.size≤1073741824:=by
 have h:(decide _&&decide _)=true:=h
 rwa [Bool.and_eq_true,decide_eq_true_eq,decide_eq_true_eq] at h
theorem DS {n d:ByteArray} (G:n.size≤1099511627776) (I:d.size≤1099511627776):ad.ok n d=true:=by
 show (decide _&&decide _)=true
 rw [decide_eq_true G,decide_eq_true I];rfl
theorem LP (x y:Int):(Rat.divInt x y).num.natAbs≤x.natAbs:=by
 rw [Rat.num_divInt]
 refine Nat.le_trans (Int.natAbs_ediv_le_natAbs _ _) ?_
 rw [Int.natAbs_mul]
 have h:y.sign.natAbs≤1:=by rcases Int.lt_trichotomy y 0 with h | h | h <;> simp [Int.sign_eq_neg_one_of_neg,Int.sign_eq_one_of_pos,h]
 exact Nat.le_trans (Nat.mul_le_mul_right _ h) (by omega)
theorem JN (x:Int) {y:Int} (G:y≠0):(Rat.divInt x y).den≤y.natAbs:=by
 rw [Rat.den_divInt,if_neg G]
 exact Nat.div_le_self _ _
theorem zj (x:Int) {y:Int} (G:y≠0):bk (Rat.divInt x y)≤max (bs x.natAbs) (bs y.natAbs):=by
 have I:=dH (LP x y)
 have J:=dH (JN x G)
 unfold bk
 omega
theorem vK (b:Bool) (n d:ByteArray):bk (ad.qv b n d)≤max n.size (max d.size 1):=by
 have G:=zj (aa.val b n) (tu d)
 have I:=dI b n
 have J:=qx d
 have M:bk (ad.qv b n d)≤_:=G
 omega
theorem nF (q:Rat):((q.den:Nat):Int)≠0:=by have:=q.den_pos;omega
theorem yn {a b:Int} (ha:a≠0) (hb:b≠0):a*b≠0:=Int.mul_ne_zero ha hb
theorem O1:bk 0≤1:=by
 unfold bk
 have h:bs 1≤1:=sJ
 have G:bs 0=0:=Ja
 show max (bs 0) (bs 1)≤1
 omega
theorem O0 (a:Rat):bk (-a)=bk a:=by
 unfold bk
 rw [Rat.neg_num,Rat.neg_den,Int.natAbs_neg]
theorem Fg (a b:Rat):bk (a+b)≤bk a+bk b+1:=by
 have h:=zj (a.num*b.den+b.num*a.den) (yn (nF a) (nF b))
 have e:a+b=Rat.divInt (a.num*b.den+b.num*a.den) ((a.den:Int)*(b.den:Int)):=by
  rw [← Rat.divInt_add_divInt _ _ (nF a) (nF b),Rat.num_divInt_den,Rat.num_divInt_den]
 rw [e]
 have M:=I9 (a.num*b.den) (b.num*a.den)
 have I:=dV a.num b.den
 have J:=dV b.num a.den
 have G:=dV a.den b.den
 rw [Int.natAbs_natCast] at I J G
 rw [Int.natAbs_natCast] at G
 unfold bk at*
 omega
theorem lS (a b:Rat):bk (a - b)≤bk a+bk b+1:=by
 rw [Rat.sub_eq_add_neg]
 have:=Fg a (-b)
 rwa [O0] at this
theorem r5 (a b:Rat):bk (a*b)≤bk a+bk b:=by
 have h:=zj (a.num*b.num) (yn (nF a) (nF b))
 have e:a*b=Rat.divInt (a.num*b.num) ((a.den:Int)*(b.den:Int)):=by
  rw [← Rat.divInt_mul_divInt,Rat.num_divInt_den,Rat.num_divInt_den]
 rw [e]
 have I:=dV a.num b.num
 have G:=dV a.den b.den
 rw [Int.natAbs_natCast] at G
 rw [Int.natAbs_natCast] at G
 unfold bk at*
 omega
theorem UX (a b:Rat):a / b=Rat.divInt (a.num*b.den) ((a.den:Int)*b.num):=by
 rw [Rat.div_def,Rat.inv_def,← Rat.divInt_mul_divInt,Rat.num_divInt_den]
theorem OZ (a b:Rat):bk (a / b)≤bk a+bk b+1:=by
 by_cases hb:b=0
 ·subst hb
  have e:a / 0=0:=by rw [Rat.div_def,Rat.inv_zero,Rat.mul_zero]
  rw [e]
  have:=O1
  omega
 ·rw [UX]
  have J:b.num≠0:=fun h=>hb (Rat.num_eq_zero.1 h)
  have h:=zj (a.num*b.den) (yn (nF a) J)
  have G:=dV a.num b.den
  have I:=dV a.den b.num
  rw [Int.natAbs_natCast] at G I
  unfold bk at*
  omega
theorem Wq (x y:Int) {d e:Int} (G:d≠0) (I:e≠0):Rat.divInt x d+Rat.divInt y e=Rat.divInt (x*e+y*d) (d*e):=Rat.divInt_add_divInt _ _ G I
theorem Ky (x y d e:Int):Rat.divInt x d*Rat.divInt y e=Rat.divInt (x*y) (d*e):=Rat.divInt_mul_divInt _ _
theorem Ws (x y d e:Int):Rat.divInt x d / Rat.divInt y e=Rat.divInt (x*e) (d*y):=by
 rw [Rat.div_def,Rat.inv_divInt,Ky]
theorem Kz {x d:Int} (G:d≠0):Rat.divInt x d=0↔x=0:=by
 rw [show (0:Rat)=Rat.divInt 0 1 from rfl,Rat.divInt_eq_divInt_iff G (by decide)]
 omega
theorem qQ {x y d e:Int} (G:0 < d) (J:0 < e):Rat.divInt x d < Rat.divInt y e↔x*e < y*d:=by
 have I:(0:Rat) < (d:Rat):=Rat.intCast_pos.2 G
 have M:(0:Rat) < (e:Rat):=Rat.intCast_pos.2 J
 rw [Rat.divInt_eq_div,Rat.divInt_eq_div,Rat.div_lt_iff I,← Rat.intCast_lt_intCast,Rat.intCast_mul,Rat.intCast_mul]
 have h:(y:Rat) / (e:Rat)*(d:Rat)=(y:Rat)*(d:Rat) / (e:Rat):=by grind
 rw [h,Rat.lt_div_iff M]
theorem B2 (x y:Int) {d e:Int} (J:0 < d) (M:0 < e):fL (Rat.divInt x d) (Rat.divInt y e)=cQ (x*e) (y*d):=by
 unfold fL cQ
 by_cases G:x*e < y*d
 ·rw [if_pos G,if_pos ((qQ J M).2 G)]
 ·rw [if_neg G,if_neg (fun h=>G ((qQ J M).1 h))]
  by_cases I:y*d < x*e
  ·rw [if_pos I,if_pos ((qQ M J).2 I)]
  ·rw [if_neg I,if_neg (fun h=>I ((qQ M J).1 h))]
theorem abT (x:Int) {d:Int} (G:0 < d):fL (Rat.divInt x d) 0=cQ x 0:=by
 rw [show (0:Rat)=Rat.divInt 0 1 from rfl,B2 x 0 G (by decide),Int.mul_one,Int.zero_mul]
theorem Kt (x:Int) {d:Int} (G:0 < d):(Rat.divInt x d).floor=x.fdiv d:=by
 rw [Int.fdiv_eq_ediv_of_nonneg _ (by omega)]
 have I:((x / d:Int):Rat)≤Rat.divInt x d:=by
  rw [← Rat.not_lt,show ((x / d:Int):Rat)=Rat.divInt (x / d) 1 from by rw [Rat.divInt_eq_div];grind,qQ G (by decide)]
  have:=Int.ediv_mul_le x (show d≠0 by omega)
  omega
 have J:Rat.divInt x d < ((x / d+1:Int):Rat):=by
  rw [show ((x / d+1:Int):Rat)=Rat.divInt (x / d+1) 1 from by rw [Rat.divInt_eq_div];grind,qQ G (by decide)]
  have:=Int.lt_ediv_add_one_mul_self x G
  omega
 have M:=Rat.le_floor_iff.2 I
 have O:=Rat.floor_lt_iff.2 J
 omega
end
end Go.Proofs.YtamcpiicmfielaaGreat.L
namespace Go.Proofs.YtamcpiicmfielaaGreat.L
open Go Go.V Go.RowKit Go.Proofs.YtamcpiicmfielaaGreat.Sp Go.Proofs.YtamcpiicmfielaaGreat.F Go.Proofs.YtamcpiicmfielaaGreatW.PrintWords
open Go.Proofs (Tryz.prog)
noncomputable section
abbrev gk:List Bool:= [false,true,false,true,true]
def kp (s:ByteArray) (v i:Int):List AV:=ao 19 [(0, .val (.string s)),(3, .val (.int .i64 v)),(4, .val (.int .i64 i))]
def jE (s:ByteArray) (v i:Int):Hp:= []
theorem RO:aI Tryz.prog 162 gk=some (.loop (lb 162 gk)):=by kernel_rfl
theorem Tz:aI Tryz.prog 162 (false :: gk)=some (lb 162 gk):=by kernel_rfl
theorem NA (s:ByteArray) (v i:Int):aP Tryz.prog bg 162 [0,3,4] (lb 162 gk) (false :: gk) (kp s v i) (jE s v i)=
  (bif decide (i < (↑s.size:Int)) then (bif ah IntKind.i64 (v*256) then (bif decide (0≤i)&&decide (i < (↑s.size:Int)) then (bif ah IntKind.i64 (aT s i.toNat) then (bif ah IntKind.i64 (i+1) then some (.normal,ao 19 [(0,(.val (.string s))),(3,(.val (.int .i64 (b9 BinOp.or IntKind.i64 (v*256) (aT s i.toNat))))),(4,(.val (.int .i64 (i+1))))], []) else none) else none) else none) else none) else some ((.exit 0),ao 19 [(0,(.val (.string s))),(3,(.val (.int .i64 v))),(4,(.val (.int .i64 i)))], [])):=by kernel_rfl
theorem Ox {s:ByteArray} {v i:Int} {e:Ex} {T:List AV} {H:Hp} (h:aP Tryz.prog bg 162 [0,3,4] (lb 162 gk) (false :: gk) (kp s v i) (jE s v i)=some (e,T,H)):V.Ends Tryz.prog false 0 0 (lb 162 gk) (kp s v i) (jE s v i) e T H:=
 bK (aK _) aO mixed Tz h
def uX (s:ByteArray) (v i:Int):Prop:=s.size≤8∧vS s < 9223372036854775808∧v=0∧i=0
def DJ (s:ByteArray) (v i:Int) (r:Int×Int):Prop:=r.1=(vS s:Nat)
theorem Md (v b:Nat) (M:v*256+b < 9223372036854775808) (hb:b < 256):b9 .or .i64 ((v:Int)*256) (b:Int)=((v*256+b:Nat):Int):=by
 have G:Go.bits .or .i64 ((v*256:Nat):Int) ((b:Nat):Int)=((v*256+b:Nat):Int):=by
  have:=bits_join .i64 63 (by decide) (fun n I J=>by rw [IntKind.wrap_i64];omega) 8 ((v*256:Nat):Int) ((b:Nat):Int) (by omega) (by omega) (by omega) (by omega) (by omega) (by omega)
  rw [this];omega
 rw [Int.natCast_mul] at G
 exact G
theorem GI (l:List UInt8) (i:Nat):vB (l.take i)≤vB l:=by
 have:=GH (l.take i) (l.drop i)
 rw [List.take_append_drop] at this
 rw [this]
 have h:=Nat.le_mul_of_pos_right (vB (l.take i)) (Nat.pow_pos (n:=(l.drop i).length) (by decide:0 < 256))
 omega
theorem abm (s:ByteArray) (ab:s.size≤8) (aE:vS s < 9223372036854775808) (d:Nat):∀ i:Nat,i+d=s.size→∃ r:Int×Int,aA Tryz.prog (lb 162 gk) (kp s (vB (s.data.toList.take i):Nat) i) (jE s (vB (s.data.toList.take i):Nat) i) (.exit 0) (kp s r.1 r.2) (jE s r.1 r.2)∧r.1=(vS s:Nat):=by
 induction d with
 | zero=>
  intro i hi
  have O:i=s.size:=by omega
  subst O
  have e:s.data.toList.take s.size=s.data.toList:=List.take_of_length_le (by rw [Array.length_toList];exact Nat.le_refl _)
  refine ⟨((vB (s.data.toList.take s.size):Nat),(s.size:Int)), .last (Ox ?_) (by intro h;cases h),by rw [e];rfl⟩
  rw [NA,dF (show ¬ ((s.size:Int) < s.size) by omega)]
  rfl
 | succ d Z=>
  intro i hi
  obtain ⟨r,J,M⟩:=Z (i+1) (by omega)
  refine ⟨r, .more (Ox ?_) J,M⟩
  rw [NA]
  have hb:=lj s i
  have U:=qa s i (by omega)
  have I:=GI s.data.toList (i+1)
  have I:vB (s.data.toList.take (i+1))≤vS s:=I
  obtain ⟨c,G⟩:∃ c:Nat,aT s i=c:= ⟨(aT s i).toNat,by omega⟩
  rw [G] at hb U
  have e:vB (s.data.toList.take (i+1))=vB (s.data.toList.take i)*256+c:=by omega
  rw [Int.toNat_natCast,G,Md _ _ (by omega) (by omega),aJ (show -9223372036854775808≤((vB (s.data.toList.take i):Nat):Int)*256∧((vB (s.data.toList.take i):Nat):Int)*256≤9223372036854775807 by omega),aJ (show -9223372036854775808≤(c:Int)∧(c:Int)≤9223372036854775807 by omega),aJ (show -9223372036854775808≤(i:Int)+1∧(i:Int)+1≤9223372036854775807 by omega),dT (show (i:Int) < s.size by omega),dT (show (0:Int)≤(i:Int) by omega)]
  rw [e]
  rfl
theorem YE (s:ByteArray) (v i:Int) (h:uX s v i):∃ r:Int×Int,aA Tryz.prog (lb 162 gk) (kp s v i) (jE s v i) (.exit 0) (kp s r.1 r.2) (jE s r.1 r.2)∧DJ s v i r:=by
 obtain ⟨G,I,rfl,rfl⟩:=h
 exact abm s G I s.size 0 (by omega)
def Gl (I:ByteArray→Int→Int→Bool) (G:ByteArray→Int→Int→Int×Int) (T:List AV) (H:Hp):Option (Bool×Ex×List AV×Hp):=
 match al T 0,al T 3,al T 4,H with
 | .val (.string s), .val (.int .i64 v), .val (.int .i64 i), []=>bif T.length==19 then some (I s v i, .exit 0,kp s ((G s v i).1) ((G s v i).2),jE s ((G s v i).1) ((G s v i).2)) else none
 | _,_,_,_=>none
abbrev AW:Type:=ByteArray→Int→Int→Bool
abbrev AB:Type:=ByteArray→Int→Int→Int×Int
def IE (G:AW) (I:AB) (L:aD):aD:=bu 0 162 gk [0,3,4] (Gl G I) L
def mQ (s:ByteArray) (v i:Int):Int×Int:=Classical.epsilon fun ρ=>aA Tryz.prog (lb 162 gk) (kp s v i) (jE s v i) (.exit 0) (kp s (ρ.1) (ρ.2)) (jE s (ρ.1) (ρ.2))∧DJ s v i ρ
theorem MP (s:ByteArray) (v i:Int) (h:uX s v i):aA Tryz.prog (lb 162 gk) (kp s v i) (jE s v i) (.exit 0) (kp s ((mQ s v i).1) ((mQ s v i).2)) (jE s ((mQ s v i).1) ((mQ s v i).2))∧DJ s v i (mQ s v i):=Classical.epsilon_spec (YE s v i h)
def xu (s:ByteArray) (v i:Int):Bool:= @decide (uX s v i) (Classical.propDecidable _)
theorem Ut (s:ByteArray) (v i:Int) (h:uX s v i):xu s v i=true:= @decide_eq_true _ (Classical.propDecidable _) h
theorem adE (T:List AV) (H:Hp) (e:Ex) (J:List AV) (I:Hp) (h:Gl xu mQ T H=some (true,e,J,I)):V.Ends Tryz.prog false 0 0 (.loop (lb 162 gk)) T H e J I:=by
 unfold Gl at h
 split at h
 ·rename_i s v i U Z ab
  rw [Bool.cond_eq_ite] at h
  split at h
  ·rename_i M
   rw [beq_iff_eq] at M
   simp only [Option.some.injEq,Prod.mk.injEq,Bool.and_eq_true,decide_eq_true_eq] at h
   obtain ⟨k1,rfl,rfl,rfl⟩:=h
   have a1:= @of_decide_eq_true _ (Classical.propDecidable _) k1
   refine Ends.pre (MP s v i a1).1.ends (fun α B w D a6 aE=>bw M (fun p O y G=> ?_) aE)
   simp only [List.mem_cons,List.not_mem_nil,or_false] at O
   rcases O with rfl | rfl | rfl
   ·rw [U] at G;exact G
   ·rw [Z] at G;exact G
   ·rw [ab] at G;exact G
  ·cases h
 ·cases h
theorem QA {L:aD} (h:aC Tryz.prog L):aC Tryz.prog (IE xu mQ L):=h.bC RO adE
def Hd (G:AW) (I:AB):Env:= ⟨aM,az,IE G I aq⟩
theorem abl (G:AW) (I:AB) (s:ByteArray):aG Tryz.prog (Hd G I) 10 10 162 [.val (.string s)]=
  (bif G s (0:Int) (0:Int) then some (.val (.int .i64 ((I s (0:Int) (0:Int)).fst))) else none):=by kernel_rfl
def vU (S:Sg) (args:List AV):Option (Bool×AV):=match args with | [.val (.string s)]=>some (decide (s.size≤8)&&decide (S.vs s < 9223372036854775808), .val (.int .i64 (S.vs s))) | _=>none
theorem J7:Entry Tryz.prog 162 (vU aa):=by
 refine aZ (E:=Hd xu mQ) (u:=10) (d:=10) (aK _) (QA aC.none).ok mixed (by kernel_rfl) (fun args r h=> ?_)
 unfold vU at h
 split at h
 ·rename_i s
  simp only [Option.some.injEq,Prod.mk.injEq,Bool.and_eq_true,decide_eq_true_eq] at h
  obtain ⟨⟨J,M⟩,rfl⟩:=h
  have I:uX s 0 0:= ⟨J,M,rfl,rfl⟩
  have G:=(MP _ _ _ I).2
  have G:(mQ s 0 0).1=(vS s:Nat):=G
  rw [abl,Ut _ _ _ I,G]
  rfl
 ·cases h
theorem abv (S:Sg) (b:Bool) (s:ByteArray):aG Tryz.prog ⟨au 162 (vU S) aM,az,aq⟩ 10 10 131 [.agg [.val (.bool b), .val (.string s)]]=
  (bif b then (bif decide (s.size≤8)&&decide (S.vs s < 9223372036854775808) then some (.val (.int .i64 (IntKind.i64.wrap (0 - (↑(S.vs s):Int))))) else none) else (bif decide (s.size≤8)&&decide (S.vs s < 9223372036854775808) then some (.val (.int .i64 ((↑(S.vs s):Int)))) else none)):=by kernel_rfl
def zJ (S:Sg) (args:List AV):Option (Bool×AV):=match args with | [.agg [.val (.bool b), .val (.string s)]]=>some (decide (s.size≤8)&&decide (S.vs s < 9223372036854775808), .val (.int .i64 (S.val b s))) | _=>none
theorem Ka:Entry Tryz.prog 131 (zJ aa):=by
 refine aZ (E:= ⟨au 162 (vU aa) aM,az,aq⟩) (u:=10) (d:=10) ((aK _).add J7) aO mixed (by kernel_rfl) (fun args r h=> ?_)
 unfold zJ at h
 split at h
 ·rename_i b s
  simp only [Option.some.injEq,Prod.mk.injEq,Bool.and_eq_true,decide_eq_true_eq] at h
  obtain ⟨⟨G,I⟩,rfl⟩:=h
  rw [abv,dT G,dT I]
  have J:aa.val b s=if b=true then -(aa.vs s:Int) else (aa.vs s:Int):=rfl
  rw [J]
  cases b with
  | true=>
   have e:IntKind.i64.wrap (0 - ((aa.vs s:Nat):Int))= -((aa.vs s:Nat):Int):=by rw [IntKind.wrap_i64];omega
   rw [e]
   rfl
  | false=>rfl
 ·cases h
abbrev gg:List Bool:= [false,false,true,true,true,true]
def kj (n i:Int) (zs:List Int):List AV:=ao 26 [(0, .val (.int .i64 n)),(3, .ptr 0 0),(4, .val (.int .i64 i))]
def jD (n i:Int) (zs:List Int):Hp:= [.row (.ints .u8 zs) 158 .live]
theorem RK:aI Tryz.prog 159 gg=some (.loop (lb 159 gg)):=by kernel_rfl
theorem Tv:aI Tryz.prog 159 (false :: gg)=some (lb 159 gg):=by kernel_rfl
theorem Ei (n i:Int) (zs:List Int):aP Tryz.prog bg 159 [0,3,4] (lb 159 gg) (false :: gg) (kj n i zs) (jD n i zs)=
  (bif decide (0 < n) then (bif ah IntKind.i64 (i - 1) then (bif decide (0≤i - 1)&&decide (i - (1:Int) < (8:Int)) then (bif decide (0+(i - 1).toNat*1 < zs.length) then some (.normal,ao 26 [(0,(.val (.int .i64 (n.fdiv (256:Int))))),(3,(.ptr 0 0)),(4,(.val (.int .i64 (i - 1))))], [(.row (.ints .u8 (zs.set (0+(i - 1).toNat*1) (IntKind.u8.wrap n))) 158 .live)]) else none) else none) else none) else some ((.exit 0),ao 26 [(0,(.val (.int .i64 n))),(3,(.ptr 0 0)),(4,(.val (.int .i64 i)))], [(.row (.ints .u8 zs) 158 .live)])):=by kernel_rfl
theorem E3 {n i:Int} {zs:List Int} {e:Ex} {T:List AV} {H:Hp} (h:aP Tryz.prog bg 159 [0,3,4] (lb 159 gg) (false :: gg) (kj n i zs) (jD n i zs)=some (e,T,H)):V.Ends Tryz.prog false 0 0 (lb 159 gg) (kj n i zs) (jD n i zs) e T H:=
 bK (aK _) aO mixed Tv h
def uT (n i:Int) (zs:List Int):Prop:=0≤n∧n≤9223372036854775807∧i=8∧zs= [0,0,0,0,0,0,0,0]
def DG (n i:Int) (zs:List Int) (r:Int×Int×List Int):Prop:=∃ k:Nat,r.2.1=k∧k≤8∧r.2.2.length=8∧(r.2.2.drop k).map (fun z=>UInt8.ofNat z.toNat)=toB n.toNat
theorem aaS:∀ (k n:Nat) (zs:List Int) (l:List UInt8),zs.length=8→k≤8→n < 256 ^ k→(zs.drop k).map (fun z=>UInt8.ofNat z.toNat)=l→
  ∃ r:Int×Int×List Int,aA Tryz.prog (lb 159 gg) (kj n k zs) (jD n k zs) (.exit 0) (kj r.1 r.2.1 r.2.2) (jD r.1 r.2.1 r.2.2)∧∃ j:Nat,r.2.1=j∧j≤8∧r.2.2.length=8∧(r.2.2.drop j).map (fun z=>UInt8.ofNat z.toNat)=toB n ++ l:=by
 intro k
 induction k with
 | zero=>
  intro n zs l I a6 J G
  have a7:n=0:=by simpa using J
  subst a7
  refine ⟨((0:Nat),(0:Nat),zs), .last (E3 ?_) (by intro h;cases h),0,rfl,by omega,I,by rw [toB_zero];exact G⟩
  rw [Ei,dF (show ¬ ((0:Int) < ((0:Nat):Int)) by omega)]
  rfl
 | succ k bx=>
  intro n zs l I a6 J G
  by_cases M:n=0
  ·subst M
   refine ⟨((0:Nat),((k+1:Nat):Int),zs), .last (E3 ?_) (by intro h;cases h),k+1,rfl,by omega,I,by rw [toB_zero];exact G⟩
   rw [Ei,dF (show ¬ ((0:Int) < ((0:Nat):Int)) by omega)]
   rfl
  ·have e1:((k+1:Nat):Int) - 1=(k:Int):=by omega
   have O:=Ei n ((k+1:Nat):Int) zs
   obtain ⟨r,U,j,Z,ab,aE,a1⟩:=bx (n / 256) (zs.set k ((n % 256:Nat):Int)) (UInt8.ofNat n :: l) (by rw [List.length_set];exact I) (by omega) (by rw [Nat.div_lt_iff_lt_mul (by decide),← Nat.pow_succ];exact J) (by
    rw [List.drop_eq_getElem_cons (by rw [List.length_set];omega),List.getElem_set_self,List.drop_set_of_lt (by omega),List.map_cons,G,Int.toNat_natCast]
    refine congrArg (· :: l) ?_
    apply UInt8.toNat_inj.1
    rw [UInt8.toNat_ofNat',UInt8.toNat_ofNat']
    omega)
   refine ⟨r, .more (E3 ?_) U,j,Z,ab,aE,by rw [a1,toB_pos M,List.append_assoc];rfl⟩
   rw [e1,Int.toNat_natCast,Nat.zero_add,Nat.mul_one,bB k (by omega),dT (show (0:Int) < n by omega),dT (show (0:Int)≤(k:Int) by omega),dT (show (k:Int) < 8 by omega),dT (show k < zs.length by omega),show IntKind.u8.wrap (n:Int)=((n % 256:Nat):Int) from by rw [sd];rfl,show (n:Int).fdiv (256:Int)=((n / 256:Nat):Int) from gM n 256] at O
   rw [O]
   rfl
theorem YA (n i:Int) (zs:List Int) (h:uT n i zs):∃ r:Int×Int×List Int,aA Tryz.prog (lb 159 gg) (kj n i zs) (jD n i zs) (.exit 0) (kj r.1 r.2.1 r.2.2) (jD r.1 r.2.1 r.2.2)∧DG n i zs r:=by
 obtain ⟨G,U,rfl,rfl⟩:=h
 obtain ⟨n,rfl⟩:=Int.eq_ofNat_of_zero_le G
 obtain ⟨r,k1,j,I,J,M,O⟩:=aaS 8 n [0,0,0,0,0,0,0,0] [] rfl (by omega) (by have:(256:Nat) ^ 8=18446744073709551616:=rfl;omega) rfl
 exact ⟨r,k1,j,I,J,M,by rw [O,List.append_nil];rfl⟩
def Gh (I:Int→Int→List Int→Bool) (G:Int→Int→List Int→Int×Int×List Int) (T:List AV) (H:Hp):Option (Bool×Ex×List AV×Hp):=
 match al T 0,al T 3,al T 4,H with
 | .val (.int .i64 n), .ptr 0 0, .val (.int .i64 i), [.row (.ints .u8 zs) 158 .live]=>bif T.length==26 then some (I n i zs, .exit 0,kj ((G n i zs).1) ((G n i zs).2.1) ((G n i zs).2.2),jD ((G n i zs).1) ((G n i zs).2.1) ((G n i zs).2.2)) else none
 | _,_,_,_=>none
abbrev AR:Type:=Int→Int→List Int→Bool
abbrev Ax:Type:=Int→Int→List Int→Int×Int×List Int
def IA (G:AR) (I:Ax) (L:aD):aD:=bu 0 159 gg [0,3,4] (Gh G I) L
def jU (n i:Int) (zs:List Int):Int×Int×List Int:=Classical.epsilon fun ρ=>aA Tryz.prog (lb 159 gg) (kj n i zs) (jD n i zs) (.exit 0) (kj (ρ.1) (ρ.2.1) (ρ.2.2)) (jD (ρ.1) (ρ.2.1) (ρ.2.2))∧DG n i zs ρ
theorem ML (n i:Int) (zs:List Int) (h:uT n i zs):aA Tryz.prog (lb 159 gg) (kj n i zs) (jD n i zs) (.exit 0) (kj ((jU n i zs).1) ((jU n i zs).2.1) ((jU n i zs).2.2)) (jD ((jU n i zs).1) ((jU n i zs).2.1) ((jU n i zs).2.2))∧DG n i zs (jU n i zs):=Classical.epsilon_spec (YA n i zs h)
def tb (n i:Int) (zs:List Int):Bool:= @decide (uT n i zs) (Classical.propDecidable _)
theorem Up (n i:Int) (zs:List Int) (h:uT n i zs):tb n i zs=true:= @decide_eq_true _ (Classical.propDecidable _) h
theorem adA (T:List AV) (H:Hp) (e:Ex) (J:List AV) (I:Hp) (h:Gh tb jU T H=some (true,e,J,I)):V.Ends Tryz.prog false 0 0 (.loop (lb 159 gg)) T H e J I:=by
 unfold Gh at h
 split at h
 ·rename_i n i zs U Z ab
  rw [Bool.cond_eq_ite] at h
  split at h
  ·rename_i M
   rw [beq_iff_eq] at M
   simp only [Option.some.injEq,Prod.mk.injEq,Bool.and_eq_true,decide_eq_true_eq] at h
   obtain ⟨k1,rfl,rfl,rfl⟩:=h
   have a1:= @of_decide_eq_true _ (Classical.propDecidable _) k1
   refine Ends.pre (ML n i zs a1).1.ends (fun α B w D a6 aE=>bw M (fun p O y G=> ?_) aE)
   simp only [List.mem_cons,List.not_mem_nil,or_false] at O
   rcases O with rfl | rfl | rfl
   ·rw [U] at G;exact G
   ·rw [Z] at G;exact G
   ·rw [ab] at G;exact G
  ·cases h
 ·cases h
theorem Qw {L:aD} (h:aC Tryz.prog L):aC Tryz.prog (IA tb jU L):=h.bC RK adA
def Hb (G:AR) (I:Ax):Env:= ⟨aM,az,IA G I aq⟩
theorem aaR (I:AR) (J:Ax) (z:Int):letI G:=(J z (8:Int) [(0:Int),(0:Int),(0:Int),(0:Int),(0:Int),(0:Int),(0:Int),(0:Int)]);
  (aG Tryz.prog (Hb I J) 10 10 159 [.val (.int .i64 z)]=(bif decide (z < 256) then (bif decide (z=0) then some (.val (.string (ByteArray.mk #[]))) else some (.val (.string (ofBytes [IntKind.u8.wrap z])))) else (bif I z (8:Int) [(0:Int),(0:Int),(0:Int),(0:Int),(0:Int),(0:Int),(0:Int),(0:Int)] then (bif decide (8≤G.snd.snd.length) then (bif decide (0≤G.snd.fst)&&decide (G.snd.fst≤8) then (bif decide (0+G.snd.fst.toNat*1+(8 - G.snd.fst.toNat)*1≤G.snd.snd.length) then some (.val (.string (ofBytes (List.take ((8 - G.snd.fst.toNat)*1) (List.drop (0+G.snd.fst.toNat*1) G.snd.snd))))) else none) else none) else none) else none))):=by kernel_rfl
theorem aa0 (S:Sg) (b:Bool) (s:ByteArray):aG Tryz.prog ⟨au 130 (oa S) aM,az,aq⟩ 10 10 127 [.agg [.val (.bool b), .val (.string s)]]=
  (bif !S.ng (S.val b s) then some (.agg [(.val (.bool (!aF (S.ms (S.val b s)) (ByteArray.mk #[])))),(.val (.string (S.ms (S.val b s))))]) else some (.agg [(.val (.bool false)),(.val (.string (S.ms (S.val b s))))])):=by kernel_rfl
theorem aaD (s t:ByteArray):aG Tryz.prog np 10 10 133 [.val (.string s), .val (.string t)]=
  (bif !decide ((↑s.size:Int)=(↑t.size:Int)) then (bif decide ((↑s.size:Int) < (↑t.size:Int)) then some (.val (.int .i64 (-1))) else some (.val (.int .i64 1))) else (bif V.strLt s t then some (.val (.int .i64 (-1))) else (bif !(V.strLt s t ||aF s t) then some (.val (.int .i64 1)) else some (.val (.int .i64 0))))):=by kernel_rfl
end
end Go.Proofs.YtamcpiicmfielaaGreat.L
namespace Go.Proofs.YtamcpiicmfielaaGreat.L
open Go Go.V Go.RowKit Go.Proofs.YtamcpiicmfielaaGreat.Sp Go.Proofs.YtamcpiicmfielaaGreat.F
open Go.Proofs (Tryz.prog)
noncomputable section
abbrev fS:List Bool:= [false,true,false,true,true]
def j5 (s:ByteArray) (v n i:Int):List AV:=ao 19 [(0, .val (.string s)),(3, .val (.int .i64 v)),(6, .val (.int .i64 n)),(7, .val (.int .i64 i))]
def jt (s:ByteArray) (v n i:Int):Hp:= []
theorem Ri:aI Tryz.prog 138 fS=some (.loop (lb 138 fS)):=by kernel_rfl
theorem S4:aI Tryz.prog 138 (false :: fS)=some (lb 138 fS):=by kernel_rfl
theorem Nl (s:ByteArray) (v n i:Int):aP Tryz.prog bg 138 [0,3,6,7] (lb 138 fS) (false :: fS) (j5 s v n i) (jt s v n i)=
  (bif decide (i < n) then (bif ah IntKind.i64 (v*256) then (bif decide (0≤i)&&decide (i < (↑s.size:Int)) then (bif ah IntKind.i64 (aT s i.toNat) then (bif ah IntKind.i64 (i+1) then some (.normal,ao 19 [(0,(.val (.string s))),(3,(.val (.int .i64 (b9 BinOp.or IntKind.i64 (v*256) (aT s i.toNat))))),(6,(.val (.int .i64 n))),(7,(.val (.int .i64 (i+1))))], []) else none) else none) else none) else none) else some ((.exit 0),ao 19 [(0,(.val (.string s))),(3,(.val (.int .i64 v))),(6,(.val (.int .i64 n))),(7,(.val (.int .i64 i)))], [])):=by kernel_rfl
theorem Of {s:ByteArray} {v n i:Int} {e:Ex} {T:List AV} {H:Hp} (h:aP Tryz.prog bg 138 [0,3,6,7] (lb 138 fS) (false :: fS) (j5 s v n i) (jt s v n i)=some (e,T,H)):V.Ends Tryz.prog false 0 0 (lb 138 fS) (j5 s v n i) (jt s v n i) e T H:=
 bK (aK _) aO mixed S4 h
def uu (s:ByteArray) (v n i:Int):Prop:=s.size≤3∧n=s.size∧v=0∧i=0
def Dl (s:ByteArray) (v n i:Int) (r:Int×Int):Prop:=r.1=(vS s:Nat)
theorem UP (s:ByteArray) (ab:s.size≤3) (d:Nat):∀ i:Nat,i+d=s.size→∃ r:Int×Int,aA Tryz.prog (lb 138 fS) (j5 s (vB (s.data.toList.take i):Nat) s.size i) (jt s (vB (s.data.toList.take i):Nat) s.size i) (.exit 0) (j5 s r.1 s.size r.2) (jt s r.1 s.size r.2)∧r.1=(vS s:Nat):=by
 induction d with
 | zero=>
  intro i hi
  have O:i=s.size:=by omega
  subst O
  have e:s.data.toList.take s.size=s.data.toList:=List.take_of_length_le (by rw [Array.length_toList];exact Nat.le_refl _)
  refine ⟨((vB (s.data.toList.take s.size):Nat),(s.size:Int)), .last (Of ?_) (by intro h;cases h),by rw [e];rfl⟩
  rw [Nl,dF (show ¬ ((s.size:Int) < s.size) by omega)]
  rfl
 | succ d Z=>
  intro i hi
  obtain ⟨r,J,M⟩:=Z (i+1) (by omega)
  refine ⟨r, .more (Of ?_) J,M⟩
  rw [Nl]
  have hb:=lj s i
  have U:=qa s i (by omega)
  have I:=GI s.data.toList (i+1)
  have I:vB (s.data.toList.take (i+1))≤vS s:=I
  have aE:=qc (s:=s) (by omega)
  obtain ⟨c,G⟩:∃ c:Nat,aT s i=c:= ⟨(aT s i).toNat,by omega⟩
  rw [G] at hb U
  have e:vB (s.data.toList.take (i+1))=vB (s.data.toList.take i)*256+c:=by omega
  rw [Int.toNat_natCast,G,Md _ _ (by omega) (by omega),aJ (show -9223372036854775808≤((vB (s.data.toList.take i):Nat):Int)*256∧((vB (s.data.toList.take i):Nat):Int)*256≤9223372036854775807 by omega),aJ (show -9223372036854775808≤(c:Int)∧(c:Int)≤9223372036854775807 by omega),aJ (show -9223372036854775808≤(i:Int)+1∧(i:Int)+1≤9223372036854775807 by omega),dT (show (i:Int) < s.size by omega),dT (show (0:Int)≤(i:Int) by omega)]
  rw [e]
  rfl
theorem X9 (s:ByteArray) (v n i:Int) (h:uu s v n i):∃ r:Int×Int,aA Tryz.prog (lb 138 fS) (j5 s v n i) (jt s v n i) (.exit 0) (j5 s r.1 n r.2) (jt s r.1 n r.2)∧Dl s v n i r:=by
 obtain ⟨G,rfl,rfl,rfl⟩:=h
 exact UP s G s.size 0 (by omega)
def FO (I:ByteArray→Int→Int→Int→Bool) (G:ByteArray→Int→Int→Int→Int×Int) (T:List AV) (H:Hp):Option (Bool×Ex×List AV×Hp):=
 match al T 0,al T 3,al T 6,al T 7,H with
 | .val (.string s), .val (.int .i64 v), .val (.int .i64 n), .val (.int .i64 i), []=>bif T.length==19 then some (I s v n i, .exit 0,j5 s ((G s v n i).1) n ((G s v n i).2),jt s ((G s v n i).1) n ((G s v n i).2)) else none
 | _,_,_,_,_=>none
abbrev HY:Type:=ByteArray→Int→Int→Int→Bool
abbrev Ht:Type:=ByteArray→Int→Int→Int→Int×Int
def A8 (G:HY) (I:Ht) (L:aD):aD:=bu 0 138 fS [0,3,6,7] (FO G I) L
def mH (s:ByteArray) (v n i:Int):Int×Int:=Classical.epsilon fun ρ=>aA Tryz.prog (lb 138 fS) (j5 s v n i) (jt s v n i) (.exit 0) (j5 s (ρ.1) n (ρ.2)) (jt s (ρ.1) n (ρ.2))∧Dl s v n i ρ
theorem Mr (s:ByteArray) (v n i:Int) (h:uu s v n i):aA Tryz.prog (lb 138 fS) (j5 s v n i) (jt s v n i) (.exit 0) (j5 s ((mH s v n i).1) n ((mH s v n i).2)) (jt s ((mH s v n i).1) n ((mH s v n i).2))∧Dl s v n i (mH s v n i):=Classical.epsilon_spec (X9 s v n i h)
def xf (s:ByteArray) (v n i:Int):Bool:= @decide (uu s v n i) (Classical.propDecidable _)
theorem TW (s:ByteArray) (v n i:Int) (h:uu s v n i):xf s v n i=true:= @decide_eq_true _ (Classical.propDecidable _) h
theorem ac7 (T:List AV) (H:Hp) (e:Ex) (J:List AV) (I:Hp) (h:FO xf mH T H=some (true,e,J,I)):V.Ends Tryz.prog false 0 0 (.loop (lb 138 fS)) T H e J I:=by
 unfold FO at h
 split at h
 ·rename_i s v n i U Z ab aE
  rw [Bool.cond_eq_ite] at h
  split at h
  ·rename_i M
   rw [beq_iff_eq] at M
   simp only [Option.some.injEq,Prod.mk.injEq,Bool.and_eq_true,decide_eq_true_eq] at h
   obtain ⟨k1,rfl,rfl,rfl⟩:=h
   have a6:= @of_decide_eq_true _ (Classical.propDecidable _) k1
   refine Ends.pre (Mr s v n i a6).1.ends (fun α B w D a7 a1=>bw M (fun p O y G=> ?_) a1)
   simp only [List.mem_cons,List.not_mem_nil,or_false] at O
   rcases O with rfl | rfl | rfl | rfl
   ·rw [U] at G;exact G
   ·rw [Z] at G;exact G
   ·rw [ab] at G;exact G
   ·rw [aE] at G;exact G
  ·cases h
 ·cases h
theorem P7 {L:aD} (h:aC Tryz.prog L):aC Tryz.prog (A8 xf mH L):=h.bC Ri ac7
theorem UO (G:HY) (I:Ht) (s:ByteArray):aG Tryz.prog ⟨aM,az,A8 G I aq⟩ 10 10 138 [.val (.string s)]=
  (bif G s (0:Int) (↑s.size:Int) (0:Int) then some (.val (.int .i64 ((I s (0:Int) (↑s.size:Int) (0:Int)).fst))) else none):=by kernel_rfl
theorem Vs:Entry Tryz.prog 138 (pT aa):=by
 refine aZ (E:= ⟨aM,az,A8 xf mH aq⟩) (u:=10) (d:=10) (aK _) (P7 aC.none).ok mixed (by kernel_rfl) (fun args r h=> ?_)
 unfold pT at h
 split at h
 ·rename_i s
  simp only [Option.some.injEq,Prod.mk.injEq,decide_eq_true_eq] at h
  obtain ⟨J,rfl⟩:=h
  have I:uu s 0 s.size 0:= ⟨J,rfl,rfl,rfl⟩
  have G:=(Mr _ _ _ _ I).2
  have G:(mH s 0 s.size 0).1=(vS s:Nat):=G
  rw [UO,TW _ _ _ _ I,G]
  rfl
 ·cases h
abbrev gz:List Bool:= [false,false,true,true,true]
def kt (n i:Int) (zs:List Int):List AV:=ao 18 [(0, .val (.int .i64 n)),(3, .ptr 0 0),(4, .val (.int .i64 i))]
def jH (n i:Int) (zs:List Int):Hp:= [.row (.ints .u8 zs) 158 .live]
theorem RZ:aI Tryz.prog 116 gz=some (.loop (lb 116 gz)):=by kernel_rfl
theorem TN:aI Tryz.prog 116 (false :: gz)=some (lb 116 gz):=by kernel_rfl
theorem Ej (n i:Int) (zs:List Int):aP Tryz.prog bg 116 [0,3,4] (lb 116 gz) (false :: gz) (kt n i zs) (jH n i zs)=
  (bif decide (0 < n) then (bif ah IntKind.i64 (i - 1) then (bif decide (0≤i - 1)&&decide (i - (1:Int) < (8:Int)) then (bif decide (0+(i - 1).toNat*1 < zs.length) then some (.normal,ao 18 [(0,(.val (.int .i64 (n.fdiv (256:Int))))),(3,(.ptr 0 0)),(4,(.val (.int .i64 (i - 1))))], [(.row (.ints .u8 (zs.set (0+(i - 1).toNat*1) (IntKind.u8.wrap n))) 158 .live)]) else none) else none) else none) else some ((.exit 0),ao 18 [(0,(.val (.int .i64 n))),(3,(.ptr 0 0)),(4,(.val (.int .i64 i)))], [(.row (.ints .u8 zs) 158 .live)])):=by kernel_rfl
theorem E6 {n i:Int} {zs:List Int} {e:Ex} {T:List AV} {H:Hp} (h:aP Tryz.prog bg 116 [0,3,4] (lb 116 gz) (false :: gz) (kt n i zs) (jH n i zs)=some (e,T,H)):V.Ends Tryz.prog false 0 0 (lb 116 gz) (kt n i zs) (jH n i zs) e T H:=
 bK (aK _) aO mixed TN h
def vg (n i:Int) (zs:List Int):Prop:=0≤n∧n≤9223372036854775807∧i=8∧zs= [0,0,0,0,0,0,0,0]
def DQ (n i:Int) (zs:List Int) (r:Int×Int×List Int):Prop:=∃ k:Nat,r.2.1=k∧k≤8∧r.2.2.length=8∧(r.2.2.drop k).map (fun z=>UInt8.ofNat z.toNat)=toB n.toNat
theorem ad0:∀ (k n:Nat) (zs:List Int) (l:List UInt8),zs.length=8→k≤8→n < 256 ^ k→(zs.drop k).map (fun z=>UInt8.ofNat z.toNat)=l→
  ∃ r:Int×Int×List Int,aA Tryz.prog (lb 116 gz) (kt n k zs) (jH n k zs) (.exit 0) (kt r.1 r.2.1 r.2.2) (jH r.1 r.2.1 r.2.2)∧∃ j:Nat,r.2.1=j∧j≤8∧r.2.2.length=8∧(r.2.2.drop j).map (fun z=>UInt8.ofNat z.toNat)=toB n ++ l:=by
 intro k
 induction k with
 | zero=>
  intro n zs l I a6 J G
  have a7:n=0:=by simpa using J
  subst a7
  refine ⟨((0:Nat),(0:Nat),zs), .last (E6 ?_) (by intro h;cases h),0,rfl,by omega,I,by rw [toB_zero];exact G⟩
  rw [Ej,dF (show ¬ ((0:Int) < ((0:Nat):Int)) by omega)]
  rfl
 | succ k bx=>
  intro n zs l I a6 J G
  by_cases M:n=0
  ·subst M
   refine ⟨((0:Nat),((k+1:Nat):Int),zs), .last (E6 ?_) (by intro h;cases h),k+1,rfl,by omega,I,by rw [toB_zero];exact G⟩
   rw [Ej,dF (show ¬ ((0:Int) < ((0:Nat):Int)) by omega)]
   rfl
  ·have e1:((k+1:Nat):Int) - 1=(k:Int):=by omega
   have O:=Ej n ((k+1:Nat):Int) zs
   obtain ⟨r,U,j,Z,ab,aE,a1⟩:=bx (n / 256) (zs.set k ((n % 256:Nat):Int)) (UInt8.ofNat n :: l) (by rw [List.length_set];exact I) (by omega) (by rw [Nat.div_lt_iff_lt_mul (by decide),← Nat.pow_succ];exact J) (by
    rw [List.drop_eq_getElem_cons (by rw [List.length_set];omega),List.getElem_set_self,List.drop_set_of_lt (by omega),List.map_cons,G,Int.toNat_natCast]
    refine congrArg (· :: l) ?_
    apply UInt8.toNat_inj.1
    rw [UInt8.toNat_ofNat',UInt8.toNat_ofNat']
    omega)
   refine ⟨r, .more (E6 ?_) U,j,Z,ab,aE,by rw [a1,toB_pos M,List.append_assoc];rfl⟩
   rw [e1,Int.toNat_natCast,Nat.zero_add,Nat.mul_one,bB k (by omega),dT (show (0:Int) < n by omega),dT (show (0:Int)≤(k:Int) by omega),dT (show (k:Int) < 8 by omega),dT (show k < zs.length by omega),show IntKind.u8.wrap (n:Int)=((n % 256:Nat):Int) from by rw [sd];rfl,show (n:Int).fdiv (256:Int)=((n / 256:Nat):Int) from gM n 256] at O
   rw [O]
   rfl
theorem YP (n i:Int) (zs:List Int) (h:vg n i zs):∃ r:Int×Int×List Int,aA Tryz.prog (lb 116 gz) (kt n i zs) (jH n i zs) (.exit 0) (kt r.1 r.2.1 r.2.2) (jH r.1 r.2.1 r.2.2)∧DQ n i zs r:=by
 obtain ⟨G,U,rfl,rfl⟩:=h
 obtain ⟨n,rfl⟩:=Int.eq_ofNat_of_zero_le G
 obtain ⟨r,k1,j,I,J,M,O⟩:=ad0 8 n [0,0,0,0,0,0,0,0] [] rfl (by omega) (by have:(256:Nat) ^ 8=18446744073709551616:=rfl;omega) rfl
 exact ⟨r,k1,j,I,J,M,by rw [O,List.append_nil];rfl⟩
def Gx (I:Int→Int→List Int→Bool) (G:Int→Int→List Int→Int×Int×List Int) (T:List AV) (H:Hp):Option (Bool×Ex×List AV×Hp):=
 match al T 0,al T 3,al T 4,H with
 | .val (.int .i64 n), .ptr 0 0, .val (.int .i64 i), [.row (.ints .u8 zs) 158 .live]=>bif T.length==18 then some (I n i zs, .exit 0,kt ((G n i zs).1) ((G n i zs).2.1) ((G n i zs).2.2),jH ((G n i zs).1) ((G n i zs).2.1) ((G n i zs).2.2)) else none
 | _,_,_,_=>none
abbrev Iq:Type:=Int→Int→List Int→Bool
abbrev HQ:Type:=Int→Int→List Int→Int×Int×List Int
def Bs (G:Iq) (I:HQ) (L:aD):aD:=bu 0 116 gz [0,3,4] (Gx G I) L
def jZ (n i:Int) (zs:List Int):Int×Int×List Int:=Classical.epsilon fun ρ=>aA Tryz.prog (lb 116 gz) (kt n i zs) (jH n i zs) (.exit 0) (kt (ρ.1) (ρ.2.1) (ρ.2.2)) (jH (ρ.1) (ρ.2.1) (ρ.2.2))∧DQ n i zs ρ
theorem M0 (n i:Int) (zs:List Int) (h:vg n i zs):aA Tryz.prog (lb 116 gz) (kt n i zs) (jH n i zs) (.exit 0) (kt ((jZ n i zs).1) ((jZ n i zs).2.1) ((jZ n i zs).2.2)) (jH ((jZ n i zs).1) ((jZ n i zs).2.1) ((jZ n i zs).2.2))∧DQ n i zs (jZ n i zs):=Classical.epsilon_spec (YP n i zs h)
def tr (n i:Int) (zs:List Int):Bool:= @decide (vg n i zs) (Classical.propDecidable _)
theorem UF (n i:Int) (zs:List Int) (h:vg n i zs):tr n i zs=true:= @decide_eq_true _ (Classical.propDecidable _) h
theorem adP (T:List AV) (H:Hp) (e:Ex) (J:List AV) (I:Hp) (h:Gx tr jZ T H=some (true,e,J,I)):V.Ends Tryz.prog false 0 0 (.loop (lb 116 gz)) T H e J I:=by
 unfold Gx at h
 split at h
 ·rename_i n i zs U Z ab
  rw [Bool.cond_eq_ite] at h
  split at h
  ·rename_i M
   rw [beq_iff_eq] at M
   simp only [Option.some.injEq,Prod.mk.injEq,Bool.and_eq_true,decide_eq_true_eq] at h
   obtain ⟨k1,rfl,rfl,rfl⟩:=h
   have a1:= @of_decide_eq_true _ (Classical.propDecidable _) k1
   refine Ends.pre (M0 n i zs a1).1.ends (fun α B w D a6 aE=>bw M (fun p O y G=> ?_) aE)
   simp only [List.mem_cons,List.not_mem_nil,or_false] at O
   rcases O with rfl | rfl | rfl
   ·rw [U] at G;exact G
   ·rw [Z] at G;exact G
   ·rw [ab] at G;exact G
  ·cases h
 ·cases h
theorem QL {L:aD} (h:aC Tryz.prog L):aC Tryz.prog (Bs tr jZ L):=h.bC RZ adP
theorem adZ (I:Iq) (J:HQ) (z:Int):letI G:=(J z (8:Int) [(0:Int),(0:Int),(0:Int),(0:Int),(0:Int),(0:Int),(0:Int),(0:Int)]);
  (aG Tryz.prog ⟨aM,az,Bs I J aq⟩ 10 10 116 [.val (.int .i64 z)]=(bif I z (8:Int) [(0:Int),(0:Int),(0:Int),(0:Int),(0:Int),(0:Int),(0:Int),(0:Int)] then (bif decide (8≤G.snd.snd.length) then (bif decide (0≤G.snd.fst)&&decide (G.snd.fst≤8) then (bif decide (0+G.snd.fst.toNat*1+(8 - G.snd.fst.toNat)*1≤G.snd.snd.length) then some (.val (.string (ofBytes (List.take ((8 - G.snd.fst.toNat)*1) (List.drop (0+G.snd.fst.toNat*1) G.snd.snd))))) else none) else none) else none) else none)):=by kernel_rfl
theorem LS {zs:List Int} {n:Nat} (h:zs.map (fun z=>UInt8.ofNat z.toNat)=toB n):ofBytes zs=av n:=by
 apply nA
 rw [o8]
 exact h
theorem V5:Entry Tryz.prog 116 (zL aa):=by
 refine aZ (E:= ⟨aM,az,Bs tr jZ aq⟩) (u:=10) (d:=10) (aK _) (QL aC.none).ok mixed (by kernel_rfl) (fun args r h=> ?_)
 unfold zL at h
 split at h
 ·rename_i z
  simp only [Option.some.injEq,Prod.mk.injEq,Bool.and_eq_true,decide_eq_true_eq] at h
  obtain ⟨⟨I,U⟩,rfl⟩:=h
  obtain ⟨n,rfl⟩:=Int.eq_ofNat_of_zero_le I
  rw [Int.toNat_natCast]
  have G:=adZ tr jZ (n:Int)
  have J:vg (n:Int) 8 [0,0,0,0,0,0,0,0]:= ⟨I,U,rfl,rfl⟩
  obtain ⟨_,k,e1,Z,M,O⟩:=M0 _ _ _ J
  rw [UF _ _ _ J] at G
  generalize jZ (n:Int) 8 [0,0,0,0,0,0,0,0]=r at*
  rw [e1,M,dT (show 8≤8 by omega),dT (show (0:Int)≤(k:Int) by omega),dT (show (k:Int)≤8 by omega),Int.toNat_natCast,dT (show 0+k*1+(8 - k)*1≤8 by omega)] at G
  rw [G]
  show some (AV.val (.string (ofBytes _)))=some (AV.val (.string (av n)))
  rw [LS (n:=n)]
  rw [Nat.zero_add,Nat.mul_one,Nat.mul_one,List.take_of_length_le (by rw [List.length_drop];omega)]
  exact O
 ·cases h
theorem VE:Entry Tryz.prog 105 (pU ad):=by
 refine aZ (E:= ⟨GW aa,az,aq⟩) (u:=10) (d:=10) ((aK _).add Vs) aO mixed (by kernel_rfl) (fun args r h=> ?_)
 unfold pU at h
 split at h
 ·rename_i b n d
  simp only [Option.some.injEq,Prod.mk.injEq,true_and] at h
  subst h
  rw [YU]
  have Z:∀ x y:ByteArray,ad.ms x y=gE x y:=fun x y=>rfl
  have U:ad.mn b n d=bif gE n d then aa.val b n else 0:=rfl
  have O:ad.md n d=bif gE n d then dn d else 0:=rfl
  rw [Z,U,O]
  unfold gE
  by_cases I:n.size≤3
  ·by_cases J:d.size≤3
   ·rw [dF (show ¬ (3:Int) < n.size by omega),dF (show ¬ (3:Int) < d.size by omega),dT I,dT J]
    have G:=qc (s:=n) (by omega)
    have G:aa.vs n < _:=G
    have e1:kM ((aa.vs d:Nat):Int) 1=dn d:=by
     rw [show (1:Int)=((1:Nat):Int) from rfl,LI]
     unfold dn
     have:aa.vs d=vS d:=rfl
     split <;> omega
    rw [e1]
    have M:∀ b,aa.val b n=if b=true then -(aa.vs n:Int) else (aa.vs n:Int):=fun b=>rfl
    cases b
    ·rw [M];rfl
    ·rw [M,show IntKind.i64.wrap (0 - ((aa.vs n:Nat):Int))= -((aa.vs n:Nat):Int) by rw [IntKind.wrap_i64];omega];rfl
   ·rw [dF (show ¬ (3:Int) < n.size by omega),dT (show (3:Int) < d.size by omega),dF J,Bool.and_false];rfl
  ·rw [dT (show (3:Int) < n.size by omega),dF I];rfl
 ·cases h
abbrev ga:List Bool:= [false,false,true,true]
def kf (n d a c:Int) (G:Bool) (I rd:ByteArray):List AV:=ao 43 [(0, .val (.int .i64 n)),(1, .val (.int .i64 d)),(4, .ptr 0 0),(5, .val (.int .i64 a)),(6, .val (.int .i64 c))]
def jA (n d a c:Int) (G:Bool) (I rd:ByteArray):Hp:= [.row (.cells [.val (.bool G), .val (.string I), .val (.string rd)]) 27 .live]
theorem RH:aI Tryz.prog 73 ga=some (.loop (lb 73 ga)):=by kernel_rfl
theorem Tr:aI Tryz.prog 73 (false :: ga)=some (lb 73 ga):=by kernel_rfl
theorem abb (n d a c:Int) (G:Bool) (I rd:ByteArray):aP Tryz.prog bg 73 [0,1,4,5,6] (lb 73 ga) (false :: ga) (kf n d a c G I rd) (jA n d a c G I rd)=
  (bif !decide (c=0) then (bif decide (c=0) then none else some (.normal,ao 43 [(0,(.val (.int .i64 n))),(1,(.val (.int .i64 d))),(4,(.ptr 0 0)),(5,(.val (.int .i64 c))),(6,(.val (.int .i64 (a.tmod c))))], [(.row (.cells [(.val (.bool G)),(.val (.string I)),(.val (.string rd))]) 27 .live)])) else some ((.exit 0),ao 43 [(0,(.val (.int .i64 n))),(1,(.val (.int .i64 d))),(4,(.ptr 0 0)),(5,(.val (.int .i64 a))),(6,(.val (.int .i64 c)))], [(.row (.cells [(.val (.bool G)),(.val (.string I)),(.val (.string rd))]) 27 .live)])):=by kernel_rfl
theorem Oq {n d a c:Int} {G:Bool} {I rd:ByteArray} {e:Ex} {T:List AV} {H:Hp} (h:aP Tryz.prog bg 73 [0,1,4,5,6] (lb 73 ga) (false :: ga) (kf n d a c G I rd) (jA n d a c G I rd)=some (e,T,H)):V.Ends Tryz.prog false 0 0 (lb 73 ga) (kf n d a c G I rd) (jA n d a c G I rd) e T H:=
 bK (aK _) aO mixed Tr h
def uQ (n d a c:Int) (G:Bool) (I rd:ByteArray):Prop:=True
def DD (n d a c:Int) (G:Bool) (I rd:ByteArray) (r:Int×Int):Prop:=r.1.natAbs=Nat.gcd a.natAbs c.natAbs∧(r.1.natAbs≤a.natAbs∨r.1.natAbs≤c.natAbs)
theorem aaz (n d:Int) (G:Bool) (I rd:ByteArray) (k:Nat):∀ a c:Int,c.natAbs=k→∃ r:Int×Int,aA Tryz.prog (lb 73 ga) (kf n d a c G I rd) (jA n d a c G I rd) (.exit 0) (kf n d r.1 r.2 G I rd) (jA n d r.1 r.2 G I rd)∧r.1.natAbs=Nat.gcd a.natAbs c.natAbs:=by
 induction k using Nat.strongRecOn with
 | _ k Z=>
  intro a c ab
  have M:=abb n d a c G I rd
  by_cases J:c=0
  ·refine ⟨(a,c), .last (Oq ?_) (by intro h;cases h),by rw [J];exact (Nat.gcd_zero_right _).symm⟩
   rw [M,dT J]
   rfl
  ·have aE:(a.tmod c).natAbs < c.natAbs:=by rw [Int.natAbs_tmod];exact Nat.mod_lt _ (by omega)
   obtain ⟨r,O,U⟩:=Z _ (by omega) c (a.tmod c) rfl
   refine ⟨r, .more (Oq ?_) O, ?_⟩
   ·rw [M,dF J]
    rfl
   ·rw [U,Int.natAbs_tmod,Nat.gcd_comm c.natAbs,← Nat.gcd_rec,Nat.gcd_comm]
theorem Yx (n d a c:Int) (G:Bool) (I rd:ByteArray) (h:uQ n d a c G I rd):∃ r:Int×Int,aA Tryz.prog (lb 73 ga) (kf n d a c G I rd) (jA n d a c G I rd) (.exit 0) (kf n d r.1 r.2 G I rd) (jA n d r.1 r.2 G I rd)∧DD n d a c G I rd r:=by
 obtain ⟨r,M,J⟩:=aaz n d G I rd c.natAbs a c rfl
 refine ⟨r,M,J, ?_⟩
 rw [J]
 rcases Nat.eq_zero_or_pos a.natAbs with e | e
 ·right;rw [e,Nat.gcd_zero_left];exact Nat.le_refl _
 ·left;exact Nat.gcd_le_left _ e
def Gd (M:Int→Int→Int→Int→Bool→ByteArray→ByteArray→Bool) (J:Int→Int→Int→Int→Bool→ByteArray→ByteArray→Int×Int) (T:List AV) (H:Hp):Option (Bool×Ex×List AV×Hp):=
 match al T 0,al T 1,al T 4,al T 5,al T 6,H with
 | .val (.int .i64 n), .val (.int .i64 d), .ptr 0 0, .val (.int .i64 a), .val (.int .i64 c), [.row (.cells [.val (.bool G), .val (.string I), .val (.string rd)]) 27 .live]=>bif T.length==43 then some (M n d a c G I rd, .exit 0,kf n d ((J n d a c G I rd).1) ((J n d a c G I rd).2) G I rd,jA n d ((J n d a c G I rd).1) ((J n d a c G I rd).2) G I rd) else none
 | _,_,_,_,_,_=>none
abbrev Ij:Type:=Int→Int→Int→Int→Bool→ByteArray→ByteArray→Bool
abbrev HK:Type:=Int→Int→Int→Int→Bool→ByteArray→ByteArray→Int×Int
def Bp (G:Ij) (I:HK) (L:aD):aD:=bu 0 73 ga [0,1,4,5,6] (Gd G I) L
def lG (n d a c:Int) (G:Bool) (I rd:ByteArray):Int×Int:=Classical.epsilon fun ρ=>aA Tryz.prog (lb 73 ga) (kf n d a c G I rd) (jA n d a c G I rd) (.exit 0) (kf n d (ρ.1) (ρ.2) G I rd) (jA n d (ρ.1) (ρ.2) G I rd)∧DD n d a c G I rd ρ
theorem MI (n d a c:Int) (G:Bool) (I rd:ByteArray) (h:uQ n d a c G I rd):aA Tryz.prog (lb 73 ga) (kf n d a c G I rd) (jA n d a c G I rd) (.exit 0) (kf n d ((lG n d a c G I rd).1) ((lG n d a c G I rd).2) G I rd) (jA n d ((lG n d a c G I rd).1) ((lG n d a c G I rd).2) G I rd)∧DD n d a c G I rd (lG n d a c G I rd):=Classical.epsilon_spec (Yx n d a c G I rd h)
def sY (n d a c:Int) (G:Bool) (I rd:ByteArray):Bool:= @decide (uQ n d a c G I rd) (Classical.propDecidable _)
theorem Um (n d a c:Int) (G:Bool) (I rd:ByteArray) (h:uQ n d a c G I rd):sY n d a c G I rd=true:= @decide_eq_true _ (Classical.propDecidable _) h
theorem adx (T:List AV) (H:Hp) (e:Ex) (J:List AV) (I:Hp) (h:Gd sY lG T H=some (true,e,J,I)):V.Ends Tryz.prog false 0 0 (.loop (lb 73 ga)) T H e J I:=by
 unfold Gd at h
 split at h
 ·rename_i n d a c bx bD rd U Z ab aE a1
  rw [Bool.cond_eq_ite] at h
  split at h
  ·rename_i M
   rw [beq_iff_eq] at M
   simp only [Option.some.injEq,Prod.mk.injEq,Bool.and_eq_true,decide_eq_true_eq] at h
   obtain ⟨k1,rfl,rfl,rfl⟩:=h
   have a7:= @of_decide_eq_true _ (Classical.propDecidable _) k1
   refine Ends.pre (MI n d a c bx bD rd a7).1.ends (fun α B w D b0 a6=>bw M (fun p O y G=> ?_) a6)
   simp only [List.mem_cons,List.not_mem_nil,or_false] at O
   rcases O with rfl | rfl | rfl | rfl | rfl
   ·rw [U] at G;exact G
   ·rw [Z] at G;exact G
   ·rw [ab] at G;exact G
   ·rw [aE] at G;exact G
   ·rw [a1] at G;exact G
  ·cases h
 ·cases h
theorem Qt {L:aD} (h:aC Tryz.prog L):aC Tryz.prog (Bp sY lG L):=h.bC RH adx
theorem aaA (S:Sg) (M:Ij) (O:HK) (n d:Int):letI J:=(O n d n d false (ByteArray.mk #[]) (ByteArray.mk #[]));letI G:=(kM (J.fst) (IntKind.i64.wrap (0 - J.fst)));letI I:=(kM n (IntKind.i64.wrap (0 - n)));
  (aG Tryz.prog ⟨au 116 (zL S) aM,az,Bp M O aq⟩ 10 10 73 [.val (.int .i64 n), .val (.int .i64 d)]=(bif M n d n d false (ByteArray.mk #[]) (ByteArray.mk #[]) then (bif decide (n=0) then some (.agg [(.val (.bool false)),(.val (.string (ByteArray.mk #[]))),(.val (.string (ByteArray.mk #[])))]) else (bif decide (G=0) then none else (bif ah IntKind.i64 (I.tdiv G) then (bif decide (0≤I.tdiv G)&&decide (I.tdiv G≤9223372036854775807) then (bif !decide (d=kM (J.fst) (IntKind.i64.wrap (0 - J.fst))) then (bif decide (G=0) then none else (bif ah IntKind.i64 (d.tdiv G) then (bif decide (0≤d.tdiv G)&&decide (d.tdiv G≤9223372036854775807) then some (.agg [(.val (.bool (decide (n < 0)))),(.val (.string (S.mg (I.tdiv G).toNat))),(.val (.string (S.mg (d.tdiv G).toNat)))]) else none) else none)) else some (.agg [(.val (.bool (decide (n < 0)))),(.val (.string (S.mg (I.tdiv G).toNat))),(.val (.string (ByteArray.mk #[])))])) else none) else none))) else none)):=by kernel_rfl
end
end Go.Proofs.YtamcpiicmfielaaGreat.L
namespace Go.Proofs.YtamcpiicmfielaaGreat.L
open Go Go.V Go.RowKit Go.Proofs.YtamcpiicmfielaaGreat.Sp Go.Proofs.YtamcpiicmfielaaGreat.F
open Go.Proofs (Tryz.prog)
noncomputable section
theorem ph {s:ByteArray} (h:s.size≤8796093022208):aa.ok s=true:=decide_eq_true h
theorem L0:aa.ok (aa.ms 0)=true:=bS (by rw [show (0:Int).natAbs=0 from rfl,Ja];exact Nat.zero_le _)
theorem L3:aa.ok (aa.ms 1)=true:=bS (by rw [show (1:Int).natAbs=1 from rfl];exact Nat.le_trans sJ (by decide))
theorem Zh:aa.ng 1=false:=Zg (by decide)
theorem Y9:aa.ms 1=av 1:=rfl
theorem nE (x y:Int):aa.fK x y=0↔x=y:=by
 show cQ x y=0↔_
 unfold cQ
 split <;> (try split) <;> omega
theorem JM (x y:Int):aa.fK x y= -1↔x < y:=by
 show cQ x y= -1↔_
 unfold cQ
 split <;> (try split) <;> omega
theorem wc:bf Tryz.prog (ov aa):=((aK _).add xD).add JR
theorem JW:Entry Tryz.prog 68 (vP ad):=by
 refine aZ (E:= ⟨ov aa,az,aq⟩) (u:=10) (d:=10) wc aO mixed (by kernel_rfl) (fun args r h=> ?_)
 unfold vP at h
 split at h
 ·rename_i b n d
  simp only [Option.some.injEq,Prod.mk.injEq] at h
  obtain ⟨I,rfl⟩:=h
  obtain ⟨k1,O⟩:=vn I
  rw [Zs,ph (s:=d) (by omega),L0,eW]
  have M:aa.val false d=(vS d:Nat):=rfl
  have J:ad.fd d=if vS d=0 then av 1 else d:=rfl
  rw [J]
  by_cases G:vS d=0
  ·rw [if_pos G,dT ((nE _ _).2 (by rw [M,G];rfl)),Zh,Y9];rfl
  ·rw [if_neg G,dF (fun h=>G (by have:=(nE _ _).1 h;omega))];rfl
 ·cases h
theorem xS (x:Int) {y:Int} (ab:0 < y):(Rat.divInt x y).num=x / (zg x y)∧(((Rat.divInt x y).den:Nat):Int)=y / (zg x y)∧(Rat.divInt x y).num.natAbs=x.natAbs / Nat.gcd x.natAbs y.natAbs∧(Rat.divInt x y).den=y.natAbs / Nat.gcd x.natAbs y.natAbs:=by
 have M:Int.gcd y x=Nat.gcd x.natAbs y.natAbs:=by rw [Int.gcd_eq_natAbs_gcd_natAbs,Nat.gcd_comm]
 have e1:(Rat.divInt x y).num=x / (zg x y):=by
  rw [Rat.num_divInt,Int.sign_eq_one_of_pos ab,Int.one_mul,M];rfl
 have J:(Rat.divInt x y).den=y.natAbs / Nat.gcd x.natAbs y.natAbs:=by
  rw [Rat.den_divInt,if_neg (by omega),M]
 refine ⟨e1, ?_, ?_,J⟩
 ·rw [J,Int.natCast_ediv]
  unfold zg
  rw [show ((y.natAbs:Nat):Int)=y by omega]
 ·rw [e1]
  obtain ⟨k,O⟩:=Int.ofNat_dvd_left.2 (Nat.gcd_dvd_left x.natAbs y.natAbs)
  have I:0 < Nat.gcd x.natAbs y.natAbs:=Nat.gcd_pos_of_pos_right _ (by omega)
  have G:x.natAbs=Nat.gcd x.natAbs y.natAbs*k.natAbs:=by
   have:=congrArg Int.natAbs O
   rwa [Int.natAbs_mul,Int.natAbs_natCast] at this
  have U:x / zg x y=k:=by
   have Z:zg x y*k / zg x y=k:=Int.mul_ediv_cancel_left k (by unfold zg;omega)
   rw [← Z]
   exact congrArg (· / zg x y) O
  rw [U]
  rw [G] at I ⊢
  rw [← G]
  exact (Nat.eq_of_mul_eq_mul_left (by rw [← G] at I;exact I) (by rw [← G,Nat.mul_div_cancel' (Nat.gcd_dvd_left _ _)])).symm
theorem GN (x:Int) {y:Int} (G:0 < y):0 < zg x y:=by
 have:0 < Nat.gcd x.natAbs y.natAbs:=Nat.gcd_pos_of_pos_right _ (by omega)
 unfold zg;omega
theorem GO (x:Int) {y:Int} (G:0 < y):zq x (zg x y)=(Rat.divInt x y).num∧zq y (zg x y)=((Rat.divInt x y).den:Nat):=by
 obtain ⟨e1,I,_,_⟩:=xS x G
 have J:=GN x G
 unfold zq
 rw [if_neg (by omega),if_neg (by omega),Int.fdiv_eq_ediv_of_nonneg _ (by omega),Int.fdiv_eq_ediv_of_nonneg _ (by omega),e1,I]
 exact ⟨rfl,rfl⟩
theorem yN (q:Rat):ad.qd q=if q.den=1 then ByteArray.mk #[] else av q.den:=rfl
theorem PJ:bf Tryz.prog (z8 aa aY):=(wc.add JS).add Vx
theorem VH:Entry Tryz.prog 70 (Fx aa ad):=by
 refine aZ (E:= ⟨z8 aa aY,az,aq⟩) (u:=10) (d:=10) PJ aO mixed (by kernel_rfl) (fun args r h=> ?_)
 unfold Fx at h
 split at h
 ·rename_i b s c t
  simp only [Option.some.injEq,Prod.mk.injEq,Bool.and_eq_true,decide_eq_true_eq] at h
  obtain ⟨⟨⟨O,U⟩,ab⟩,rfl⟩:=h
  have M:=Zo aa aY b c s t
  have k1:=dI b s
  have a1:=dI c t
  have z1:s.size≤8796093022208:=of_decide_eq_true O
  have z2:t.size≤8796093022208:=of_decide_eq_true U
  simp only [eW,Pz,GL] at M
  rw [M]
  clear M
  generalize aa.val b s=x at*
  generalize aa.val c t=y at*
  have a6:=BE x y
  have a7:=dH (LP x y)
  have bx:=dH (JN x (show y≠0 by omega))
  obtain ⟨e1,Z⟩:=GO x ab
  rw [e1,Z,O,U,L0,L3,bS (z:=zg x y) (by omega),bS (z:=(((Rat.divInt x y).den:Nat):Int)) (by rw [Int.natAbs_natCast];omega)]
  have aE:ad.fr x y=Rat.divInt x y:=rfl
  rw [aE]
  by_cases J:x=0
  ·rw [dT ((nE _ _).2 J),J,Rat.zero_divInt,vo];rfl
  ·rw [dF (fun h=>J ((nE _ _).1 h))]
   have I:=yN (Rat.divInt x y)
   by_cases G:(Rat.divInt x y).den=1
   ·rw [if_pos G] at I
    rw [dT ((nE _ _).2 (by rw [G];rfl))]
    unfold Qg.rat
    rw [I];rfl
   ·rw [if_neg G] at I
    rw [dF (fun h=>G (by have:=(nE _ _).1 h;omega))]
    unfold Qg.rat
    rw [I];rfl
 ·cases h
theorem LJ {a:Int} (h: -4611686018427387904 < a∧a < 4611686018427387904):kM a (IntKind.i64.wrap (0 - a))=((a.natAbs:Nat):Int):=by
 rw [show IntKind.i64.wrap (0 - a)= -a by rw [IntKind.wrap_i64];omega]
 unfold kM
 by_cases G:a < -a
 ·rw [if_pos G];omega
 ·rw [if_neg G];omega
theorem ym {z:Int} (h:jL z=true): -72057594037927936 < z∧z < 72057594037927936:=by
 unfold jL at h
 rwa [Bool.and_eq_true,decide_eq_true_eq,decide_eq_true_eq] at h
theorem V0:Entry Tryz.prog 73 (pX ad):=by
 refine aZ (E:= ⟨au 116 (zL aa) aM,az,Bp sY lG aq⟩) (u:=10) (d:=10) ((aK _).add V5) (Qt aC.none).ok mixed (by kernel_rfl) (fun args r h=> ?_)
 unfold pX at h
 split at h
 ·rename_i n d
  simp only [Option.some.injEq,Prod.mk.injEq,Bool.and_eq_true,decide_eq_true_eq] at h
  obtain ⟨⟨⟨a7,bx⟩,O⟩,rfl⟩:=h
  have b5:=ym a7
  have b6:=ym bx
  have G:=aaA aa sY lG n d
  have ab:uQ n d n d false (ByteArray.mk #[]) (ByteArray.mk #[]):=True.intro
  obtain ⟨_,b1,b7⟩:=MI _ _ _ _ _ _ _ ab
  rw [Um _ _ _ _ _ _ _ ab] at G
  generalize lG n d n d false (ByteArray.mk #[]) (ByteArray.mk #[])=ρ at*
  have b2:0 < Nat.gcd n.natAbs d.natAbs:=Nat.gcd_pos_of_pos_right _ (by omega)
  rw [LJ (a:=ρ.1) (by omega),LJ (a:=n) (by omega),b1] at G
  have b3:Int.tdiv ((n.natAbs:Nat):Int) ((Nat.gcd n.natAbs d.natAbs:Nat):Int)=((n.natAbs / Nat.gcd n.natAbs d.natAbs:Nat):Int):=rfl
  have b4:Int.tdiv d ((Nat.gcd n.natAbs d.natAbs:Nat):Int)=((d.natAbs / Nat.gcd n.natAbs d.natAbs:Nat):Int):=by
   obtain ⟨m,rfl⟩:=Int.eq_ofNat_of_zero_le (show 0≤d by omega)
   rfl
  have l1:=Nat.div_le_self n.natAbs (Nat.gcd n.natAbs d.natAbs)
  have l2:=Nat.div_le_self d.natAbs (Nat.gcd n.natAbs d.natAbs)
  obtain ⟨_,_,a6,U⟩:=xS n O
  rw [b3,b4] at G
  have b0:ad.fr n d=Rat.divInt n d:=rfl
  rw [b0]
  by_cases M:n=0
  ·rw [dT M] at G
   rw [G,M,Rat.zero_divInt,vo];rfl
  ·have Z:d=((Nat.gcd n.natAbs d.natAbs:Nat):Int)↔(Rat.divInt n d).den=1:=by
    rw [U]
    have bD:=Nat.div_mul_cancel (Nat.gcd_dvd_right n.natAbs d.natAbs)
    constructor
    ·intro h
     have h':d.natAbs=Nat.gcd n.natAbs d.natAbs:=by omega
     exact Nat.div_eq_of_eq_mul_left b2 (by omega)
    ·intro h
     rw [h] at bD
     omega
   rw [dF M,dF (show ¬ ((Nat.gcd n.natAbs d.natAbs:Nat):Int)=0 by omega)] at G
   rw [← a6] at G l1
   rw [← U] at G l2
   rw [aJ (z:=(((Rat.divInt n d).num.natAbs:Nat):Int)) (by omega),dT (show (0:Int)≤(((Rat.divInt n d).num.natAbs:Nat):Int) by omega),dT (show (((Rat.divInt n d).num.natAbs:Nat):Int)≤9223372036854775807 by omega),aJ (z:=(((Rat.divInt n d).den:Nat):Int)) (by omega),dT (show (0:Int)≤(((Rat.divInt n d).den:Nat):Int) by omega),dT (show (((Rat.divInt n d).den:Nat):Int)≤9223372036854775807 by omega),Int.toNat_natCast,Int.toNat_natCast] at G
   rw [G]
   have J:=yN (Rat.divInt n d)
   have aE:ad.qn (Rat.divInt n d)=decide (n < 0):=by
    have:ad.qn (Rat.divInt n d)=aa.ng (Rat.divInt n d).num:=rfl
    rw [this,dj]
    refine decide_eq_decide.2 ?_
    obtain ⟨a1,_,_,_⟩:=xS n O
    rw [a1]
    rw [Int.ediv_lt_iff_lt_mul (GN n O),Int.zero_mul]
   by_cases I:(Rat.divInt n d).den=1
   ·rw [if_pos I] at J
    rw [dT (Z.2 I)]
    unfold Qg.rat
    rw [J,aE];rfl
   ·rw [if_neg I] at J
    rw [dF (fun h=>I (Z.1 h))]
    unfold Qg.rat
    rw [J,aE];rfl
 ·cases h
theorem qj:bf Tryz.prog (ji aa aY ad):=((wc.add JV).add JW).add VH
theorem JY:Entry Tryz.prog 28 (zA ad):=by
 refine aZ (E:= ⟨ji aa aY ad,az,aq⟩) (u:=10) (d:=10) qj aO mixed (by kernel_rfl) (fun args r h=> ?_)
 unfold zA at h
 split at h
 ·rename_i z
  simp only [Option.some.injEq,Prod.mk.injEq] at h
  obtain ⟨G,rfl⟩:=h
  have I:=G
  unfold cW at I
  rw [Bool.and_eq_true,decide_eq_true_eq,decide_eq_true_eq] at I
  have hb:bs z.natAbs≤8:=gH (by have:(256:Nat) ^ 8=18446744073709551616:=rfl;omega)
  rw [aap]
  simp only [eW]
  rw [G,bS (z:=z) (by omega),L3,dT (show (0:Int) < 1 by decide)]
  rfl
 ·cases h
theorem Ca:Entry Tryz.prog 84 (pW aa aY ad):=by
 refine aZ (E:= ⟨ji aa aY ad,az,aq⟩) (u:=10) (d:=10) qj aO mixed (by kernel_rfl) (fun args r h=> ?_)
 unfold pW at h
 split at h
 ·rename_i b s c t
  simp only [Option.some.injEq,Prod.mk.injEq,Bool.and_eq_true] at h
  obtain ⟨⟨J,M⟩,rfl⟩:=h
  have I:=aao aa aY ad b c s t
  have k1:=dI b s
  have Z:=dI c t
  have z1:s.size≤8796093022208:=of_decide_eq_true J
  have z2:t.size≤8796093022208:=of_decide_eq_true M
  simp only [eW,zU] at I
  rw [I]
  clear I
  generalize aa.val b s=x at*
  generalize aa.val c t=y at*
  have ab:=wT x
  have n2:=wT y
  have U:∀ x y,ad.fr x y=Rat.divInt x y:=fun x y=>rfl
  rw [J,M,yt,bS (z:= -x) (by omega),bS (z:= -y) (by omega),Py,U,U]
  by_cases G:y=0
  ·rw [dT ((nE _ _).2 G),G,Kk,Rat.divInt_zero,vo];rfl
  ·rw [dF (fun h=>G ((nE _ _).1 h)),Kl G]
   by_cases O:y < 0
   ·rw [dT ((JM _ _).2 O),dT (show 0 < -y by omega),Rat.neg_divInt_neg];rfl
   ·rw [dF (fun h=>O ((JM _ _).1 h)),dT (show 0 < y by omega)];rfl
 ·cases h
theorem VM:Entry Tryz.prog 87 (FA aY ad):=by
 refine aZ (E:= ⟨au 84 (pW aa aY ad) (ov aa),az,aq⟩) (u:=10) (d:=10) (wc.add Ca) aO mixed (by kernel_rfl) (fun args r h=> ?_)
 unfold FA at h
 split at h
 ·rename_i n d
  simp only [Option.some.injEq,Prod.mk.injEq,Bool.and_eq_true] at h
  obtain ⟨⟨G,I⟩,rfl⟩:=h
  have J:=G
  have M:=I
  unfold cW at J M
  rw [Bool.and_eq_true,decide_eq_true_eq,decide_eq_true_eq] at J M
  have O:bs n.natAbs≤8:=gH (by have:(256:Nat) ^ 8=18446744073709551616:=rfl;omega)
  have U:bs d.natAbs≤8:=gH (by have:(256:Nat) ^ 8=18446744073709551616:=rfl;omega)
  rw [aar]
  simp only [eW]
  rw [G,I,bS (z:=n) (by omega),bS (z:=d) (by omega)]
  rfl
 ·cases h
theorem Kx (b:Bool) (n d:ByteArray):ad.fr (aa.val b n) (aa.val false (ad.fd d))=ad.qv b n d:=by rw [lY];rfl
theorem rk {n d:ByteArray} (h:ad.ok n d=true):aa.ok n=true∧aa.ok (ad.fd d)=true∧decide (0 < aa.val false (ad.fd d))=true:=by
 obtain ⟨k1,G⟩:=vn h
 have I:=abO d
 exact ⟨ph (by omega),ph (by omega),by rw [lY];exact dT (fM d)⟩
theorem qI:Entry Tryz.prog 49 (oe ad):=by
 refine aZ (E:= ⟨ji aa aY ad,az,aq⟩) (u:=10) (d:=10) qj aO mixed (by kernel_rfl) (fun args r h=> ?_)
 unfold oe lT at h
 split at h
 ·rename_i b n d
  simp only [Option.some.injEq,Prod.mk.injEq] at h
  obtain ⟨G,rfl⟩:=h
  obtain ⟨k1,J,M⟩:=rk G
  rw [aai,G,k1,J,M]
  simp only [Kx]
  have I:ad.ck b n d=bif (b==ad.qn (ad.qv b n d))&&aF n (ad.qs (ad.qv b n d))&&aF d (ad.qd (ad.qv b n d)) then 0 else 1:=rfl
  rw [I]
  generalize (b==ad.qn (ad.qv b n d))=O
  generalize aF n (ad.qs (ad.qv b n d))=U
  generalize aF d (ad.qd (ad.qv b n d))=Z
  cases O <;> cases U <;> cases Z <;> rfl
 ·cases h
theorem VL:Entry Tryz.prog 156 (zy ad):=by
 refine aZ (E:= ⟨ji aa aY ad,az,aq⟩) (u:=10) (d:=10) qj aO mixed (by kernel_rfl) (fun args r h=> ?_)
 unfold zy lT at h
 split at h
 ·rename_i b n d
  simp only [Option.some.injEq,Prod.mk.injEq] at h
  obtain ⟨G,rfl⟩:=h
  obtain ⟨k1,I,J⟩:=rk G
  rw [aan]
  simp only [Kx,Nc]
  rw [G,k1,I,J]
  rfl
 ·cases h
theorem J0:Entry Tryz.prog 27 (zC ad):=by
 refine aZ (E:= ⟨ji aa aY ad,az,aq⟩) (u:=10) (d:=10) qj aO mixed (by kernel_rfl) (fun args r h=> ?_)
 unfold zC lT at h
 split at h
 ·rename_i b n d
  simp only [Option.some.injEq,Prod.mk.injEq] at h
  obtain ⟨G,rfl⟩:=h
  obtain ⟨k1,J,M⟩:=rk G
  rw [aas]
  simp only [zU]
  rw [G,k1,yt]
  have I:ad.sq (ad.qv b n d)=aa.fK (aa.val b n) 0:=abT (aa.val b n) (fM d)
  rw [I]
  rfl
 ·cases h
end
end Go.Proofs.YtamcpiicmfielaaGreat.L
namespace Go.Proofs.YtamcpiicmfielaaGreat.L
open Go Go.V Go.RowKit Go.Proofs.YtamcpiicmfielaaGreat.Sp Go.Proofs.YtamcpiicmfielaaGreat.F
open Go.Proofs (Tryz.prog)
noncomputable section
theorem wg:bf Tryz.prog (jh aa aY ad):=(((qj.add xB).add VG).add V0).add VE
theorem mr {n d:ByteArray} (h:ad.ms n d=true) (b:Bool):n.size≤3∧d.size≤3∧ad.mn b n d=aa.val b n∧ad.md n d=dn d∧(aa.val b n).natAbs < 16777216∧dn d < 16777216:=by
 have h':gE n d=true:=h
 have G:=h'
 unfold gE at G
 rw [Bool.and_eq_true,decide_eq_true_eq,decide_eq_true_eq] at G
 have e1:ad.mn b n d=bif gE n d then aa.val b n else 0:=rfl
 have I:ad.md n d=bif gE n d then dn d else 0:=rfl
 rw [h'] at e1 I
 have J:vS n < 16777216:=Nat.lt_of_lt_of_le (k9 n) (Nat.pow_le_pow_right (by decide:0 < 256) G.1)
 have v2:vS d < 16777216:=Nat.lt_of_lt_of_le (k9 d) (Nat.pow_le_pow_right (by decide:0 < 256) G.2)
 refine ⟨G.1,G.2,e1,I,by rw [← la];exact J, ?_⟩
 unfold dn
 split <;> omega
theorem rf {z:Int} (h: -72057594037927936 < z∧z < 72057594037927936):jL z=true:=by
 unfold jL
 rw [Bool.and_eq_true,decide_eq_true_eq,decide_eq_true_eq]
 exact h
theorem mu {x y:Int} (G:x.natAbs < 16777216) (I:y.natAbs < 16777216):(x*y).natAbs≤281474976710656:=by
 rw [Int.natAbs_mul]
 exact Nat.le_trans (Nat.mul_le_mul (Nat.le_of_lt G) (Nat.le_of_lt I)) (by decide)
theorem zR {n d m e:ByteArray} (G:ad.ok n d=true) (I:ad.ok m e=true):∀ (b c:Bool),aa.ok n=true∧aa.ok m=true∧aa.ok (ad.fd d)=true∧aa.ok (ad.fd e)=true∧
  bs (aa.val b n).natAbs≤1099511627776∧bs (aa.val c m).natAbs≤1099511627776∧bs (dn d).natAbs≤1099511627776∧bs (dn e).natAbs≤1099511627776:=by
 intro b c
 obtain ⟨k1,J,_⟩:=rk G
 obtain ⟨M,O,_⟩:=rk I
 obtain ⟨z1,z2⟩:=vn G
 obtain ⟨z3,z4⟩:=vn I
 have U:=dI b n
 have Z:=dI c m
 have ab:=qx d
 have aE:=qx e
 exact ⟨k1,M,J,O,by omega,by omega,by omega,by omega⟩
theorem xE:Entry Tryz.prog 29 (pV ad):=by
 refine aZ (E:= ⟨jh aa aY ad,az,aq⟩) (u:=10) (d:=10) wg aO mixed (by kernel_rfl) (fun args r h=> ?_)
 unfold pV lU at h
 split at h
 ·rename_i b n d c m e
  simp only [Option.some.injEq,Prod.mk.injEq,Bool.and_eq_true] at h
  obtain ⟨⟨I,J⟩,rfl⟩:=h
  have G:=aaf aa aY ad b c n d m e
  obtain ⟨k1,b1,b2,b3,b6,b7,ch,ct⟩:=zR I J b c
  have p1:=fM d
  have p2:=fM e
  have M:ad.qv b n d+ad.qv c m e=Rat.divInt (aa.val b n*dn e+aa.val c m*dn d) (dn d*dn e):=Wq _ _ (tu d) (tu e)
  have q1:=dV (aa.val b n) (dn e)
  have q2:=dV (aa.val c m) (dn d)
  have c4:=dV (dn d) (dn e)
  have c5:=I9 (aa.val b n*dn e) (aa.val c m*dn d)
  have p3:=Int.mul_pos p1 p2
  have bx:∀ x y,ad.fr x y=Rat.divInt x y:=fun x y=>rfl
  simp only [eW,lY,bx] at G
  rw [I,J,k1,b1,b2,b3,bS (z:=aa.val b n*dn e) (by omega),bS (z:=aa.val c m*dn d) (by omega),bS (z:=dn d*dn e) (by omega),bS (z:=aa.val b n*dn e+aa.val c m*dn d) (by omega),dT p3,← M] at G
  have a7:∀ u v:Bool,(u=true→ad.ms n d=true)→(v=true→ad.ms m e=true)→ad.ms n d=u→ad.ms m e=v→aG Tryz.prog ⟨jh aa aY ad,az,aq⟩ 10 10 29 [.agg [.val (.bool b), .val (.string n), .val (.string d)], .agg [.val (.bool c), .val (.string m), .val (.string e)]]=some (ad.rat (ad.qv b n d+ad.qv c m e)):=by
   intro u v bD b0 a1 a6
   rw [G,a1,a6]
   cases u
   ·rfl
   ·cases v
    ·rfl
    ·obtain ⟨_,_,e1,Z,O,b4⟩:=mr (bD rfl) b
     obtain ⟨_,_,ab,aE,U,b5⟩:=mr (b0 rfl) c
     rw [e1,Z,ab,aE]
     have c0:=mu (x:=aa.val b n) (y:=dn e) O (by omega)
     have m2:=mu (x:=aa.val c m) (y:=dn d) U (by omega)
     have c3:=mu (x:=dn d) (y:=dn e) (by omega) (by omega)
     rw [aJ (z:=aa.val b n*dn e) (by omega),aJ (z:=aa.val c m*dn d) (by omega),aJ (z:=aa.val b n*dn e+aa.val c m*dn d) (by omega),aJ (z:=dn d*dn e) (by omega),rf (z:=aa.val b n*dn e+aa.val c m*dn d) (by omega),rf (z:=dn d*dn e) (by omega),dT p3,← M]
     rfl
  exact a7 _ _ id id rfl rfl
 ·cases h
theorem B9:Entry Tryz.prog 30 (vQ ad):=by
 refine aZ (E:= ⟨jh aa aY ad,az,aq⟩) (u:=10) (d:=10) wg aO mixed (by kernel_rfl) (fun args r h=> ?_)
 unfold vQ lU at h
 split at h
 ·rename_i b n d c m e
  simp only [Option.some.injEq,Prod.mk.injEq,Bool.and_eq_true] at h
  obtain ⟨⟨I,J⟩,rfl⟩:=h
  have G:=aam aa aY ad b c n d m e
  obtain ⟨k1,b1,b2,b3,b6,b7,ch,ct⟩:=zR I J b c
  have p1:=fM d
  have p2:=fM e
  have M:ad.qv b n d*ad.qv c m e=Rat.divInt (aa.val b n*aa.val c m) (dn d*dn e):=Ky _ _ _ _
  have q1:=dV (aa.val b n) (aa.val c m)
  have c4:=dV (dn d) (dn e)
  have p3:=Int.mul_pos p1 p2
  have bx:∀ x y,ad.fr x y=Rat.divInt x y:=fun x y=>rfl
  simp only [eW,lY,bx] at G
  rw [I,J,k1,b1,b2,b3,bS (z:=aa.val b n*aa.val c m) (by omega),bS (z:=dn d*dn e) (by omega),dT p3,← M] at G
  have a7:∀ u v:Bool,(u=true→ad.ms n d=true)→(v=true→ad.ms m e=true)→ad.ms n d=u→ad.ms m e=v→aG Tryz.prog ⟨jh aa aY ad,az,aq⟩ 10 10 30 [.agg [.val (.bool b), .val (.string n), .val (.string d)], .agg [.val (.bool c), .val (.string m), .val (.string e)]]=some (ad.rat (ad.qv b n d*ad.qv c m e)):=by
   intro u v bD b0 a1 a6
   rw [G,a1,a6]
   cases u
   ·rfl
   ·cases v
    ·rfl
    ·obtain ⟨_,_,e1,Z,O,b4⟩:=mr (bD rfl) b
     obtain ⟨_,_,ab,aE,U,b5⟩:=mr (b0 rfl) c
     rw [e1,Z,ab,aE]
     have c0:=mu (x:=aa.val b n) (y:=aa.val c m) O U
     have c3:=mu (x:=dn d) (y:=dn e) (by omega) (by omega)
     rw [aJ (z:=aa.val b n*aa.val c m) (by omega),aJ (z:=dn d*dn e) (by omega),rf (z:=aa.val b n*aa.val c m) (by omega),rf (z:=dn d*dn e) (by omega),dT p3,← M]
     rfl
  exact a7 _ _ id id rfl rfl
 ·cases h
theorem lp:Entry Tryz.prog 23 (nj ad):=by
 refine aZ (E:= ⟨jh aa aY ad,az,aq⟩) (u:=10) (d:=10) wg aO mixed (by kernel_rfl) (fun args r h=> ?_)
 unfold nj lU at h
 split at h
 ·rename_i b n d c m e
  simp only [Option.some.injEq,Prod.mk.injEq,Bool.and_eq_true] at h
  obtain ⟨⟨I,J⟩,rfl⟩:=h
  have G:=aaj aa aY ad b c n d m e
  obtain ⟨k1,b1,b2,b3,b6,b7,ch,ct⟩:=zR I J b c
  have p1:=fM d
  have p2:=fM e
  have M:ad.cq (ad.qv b n d) (ad.qv c m e)=cQ (aa.val b n*dn e) (aa.val c m*dn d):=B2 _ _ p1 p2
  have q1:=dV (aa.val b n) (dn e)
  have q2:=dV (aa.val c m) (dn d)
  simp only [eW,lY] at G
  rw [I,J,k1,b1,b2,b3,bS (z:=aa.val b n*dn e) (by omega),bS (z:=aa.val c m*dn d) (by omega)] at G
  have b0:aa.fK (aa.val b n*dn e) (aa.val c m*dn d)=ad.cq (ad.qv b n d) (ad.qv c m e):=M.symm
  rw [b0] at G
  have a7:∀ u v:Bool,(u=true→ad.ms n d=true)→(v=true→ad.ms m e=true)→ad.ms n d=u→ad.ms m e=v→aG Tryz.prog ⟨jh aa aY ad,az,aq⟩ 10 10 23 [.agg [.val (.bool b), .val (.string n), .val (.string d)], .agg [.val (.bool c), .val (.string m), .val (.string e)]]=some (.val (.int .i64 (ad.cq (ad.qv b n d) (ad.qv c m e)))):=by
   intro u v bx bD a1 a6
   rw [G,a1,a6]
   cases u
   ·rfl
   ·cases v
    ·rfl
    ·obtain ⟨_,_,e1,Z,O,b4⟩:=mr (bx rfl) b
     obtain ⟨_,_,ab,aE,U,b5⟩:=mr (bD rfl) c
     rw [e1,Z,ab,aE]
     have c0:=mu (x:=aa.val b n) (y:=dn e) O (by omega)
     have m2:=mu (x:=aa.val c m) (y:=dn d) U (by omega)
     rw [aJ (z:=aa.val b n*dn e) (by omega),aJ (z:=aa.val c m*dn d) (by omega),M]
     unfold cQ
     by_cases g1:aa.val b n*dn e < aa.val c m*dn d
     ·rw [dT g1,if_pos g1];rfl
     ·rw [dF g1,if_neg g1]
      by_cases g2:aa.val c m*dn d < aa.val b n*dn e
      ·rw [dT g2,if_pos g2];rfl
      ·rw [dF g2,if_neg g2];rfl
  exact a7 _ _ id id rfl rfl
 ·cases h
theorem aak (x:Int) {y:Int} (I:0 < y):ad.qe (Rat.divInt x y)=ze x:=by
 have h:ad.qe (Rat.divInt x y)=if Rat.divInt x y=0 then 10 else 0:=rfl
 rw [h]
 unfold ze
 by_cases G:x=0
 ·rw [if_pos G,if_pos ((Kz (by omega)).2 G)]
 ·rw [if_neg G,if_neg (fun h=>G ((Kz (by omega)).1 h))]
theorem JZ:Entry Tryz.prog 42 (zB ad):=by
 refine aZ (E:= ⟨au 84 (pW aa aY ad) (jh aa aY ad),az,aq⟩) (u:=10) (d:=10) (wg.add Ca) aO mixed (by kernel_rfl) (fun args r h=> ?_)
 unfold zB lU at h
 split at h
 ·rename_i b n d c m e
  simp only [Option.some.injEq,Prod.mk.injEq,Bool.and_eq_true] at h
  obtain ⟨⟨J,M⟩,rfl⟩:=h
  have I:=aaq aa aY ad b c n d m e
  obtain ⟨k1,aE,a1,a6,a7,bx,bD,b0⟩:=zR J M b c
  have p1:=fM d
  have p2:=fM e
  have q1:=dV (aa.val b n) (dn e)
  have q2:=dV (dn d) (aa.val c m)
  have Z:ad.qv b n d / ad.qv c m e=Rat.divInt (aa.val b n*dn e) (dn d*aa.val c m):=Ws _ _ _ _
  have O:ad.qe (ad.qv c m e)=ze (aa.val c m):=aak _ p2
  have U:∀ x y,ad.fr x y=Rat.divInt x y:=fun x y=>rfl
  have ab:ze (dn d*aa.val c m)=ze (aa.val c m):=by
   unfold ze
   by_cases G:aa.val c m=0
   ·rw [G,Int.mul_zero]
   ·rw [if_neg G,if_neg (yn (tu d) G)]
  simp only [eW,lY,U,Py,ab] at I
  rw [J,M,k1,aE,a1,a6,bS (z:=aa.val b n*dn e) (by omega),bS (z:=dn d*aa.val c m) (by omega),← Z,← O] at I
  exact I
 ·cases h
theorem xF:Entry Tryz.prog 31 (r8 ad):=by
 refine aZ (E:= ⟨au 29 (pV ad) aM,az,aq⟩) (u:=10) (d:=10) ((aK _).add xE) aO mixed (by kernel_rfl) (fun args r h=> ?_)
 unfold r8 lU at h
 split at h
 ·rename_i b n d c m e
  simp only [Option.some.injEq,Prod.mk.injEq,Bool.and_eq_true] at h
  obtain ⟨⟨I,J⟩,rfl⟩:=h
  have G:=aat ad b c n d m e
  simp only [Nc] at G
  rw [I,J,← Rat.sub_eq_add_neg] at G
  exact G
 ·cases h
theorem Wo (b:Bool) (n d:ByteArray):zq (aa.val b n) (dn d)=ad.fl (ad.qv b n d):=by
 have h:ad.fl (ad.qv b n d)=(Rat.divInt (aa.val b n) (dn d)).floor:=rfl
 rw [h,Kt _ (fM d)]
 unfold zq
 rw [if_neg (tu d)]
theorem VK:Entry Tryz.prog 155 (zx aa ad):=by
 refine aZ (E:= ⟨au 68 (vP ad) (au 115 (r6 aa aY) aM),az,aq⟩) (u:=10) (d:=10) (((aK _).add JS).add JW) aO mixed (by kernel_rfl) (fun args r h=> ?_)
 unfold zx lT at h
 split at h
 ·rename_i b n d
  simp only [Option.some.injEq,Prod.mk.injEq] at h
  obtain ⟨I,rfl⟩:=h
  obtain ⟨k1,J,M⟩:=rk I
  have G:=aal aa aY ad b n d
  simp only [lY,GL,Wo] at G
  rw [I,k1,J] at G
  exact G
 ·cases h
theorem Sa (q:Rat):bs q.floor.natAbs≤bs q.num.natAbs+1:=by
 have h:=Kt q.num (d:=q.den) (by have:=q.den_pos;omega)
 rw [Rat.num_divInt_den] at h
 have G:=Sd q.num q.den
 unfold zq at G
 rw [if_neg (nF q)] at G
 rw [h]
 exact G
theorem VJ:Entry Tryz.prog 122 (Fz aa ad):=by
 refine aZ (E:= ⟨au 155 (zx aa ad) (au 156 (zy ad) (au 121 (kX aa) aM)),az,aq⟩) (u:=10) (d:=10) ((((aK _).add JV).add VL).add VK) aO mixed (by kernel_rfl) (fun args r h=> ?_)
 unfold Fz lT at h
 split at h
 ·rename_i b n d
  simp only [Option.some.injEq,Prod.mk.injEq] at h
  obtain ⟨I,rfl⟩:=h
  obtain ⟨z1,z2⟩:=vn I
  have Z:=vK b n d
  have G:=aah aa aY ad b n d
  have M:∀ q,ad.fl q=q.floor:=fun q=>rfl
  have J:ad.cl (ad.qv b n d)=(ad.qv b n d).ceil:=rfl
  simp only [dN,eW,M] at G
  rw [J,Rat.ceil_eq_neg_floor_neg]
  generalize ad.qv b n d=q at*
  have e1:=Sa (-q)
  have O:=O0 q
  have U:bs (-q).num.natAbs≤bk (-q):=Nat.le_max_left _ _
  rw [I,cM (q:= -q) (by omega),bS (z:=(-q).floor) (by omega)] at G
  exact G
 ·cases h
theorem Wt (c:Int):Rat.divInt c 1=(c:Rat):=by rw [Rat.divInt_eq_div];grind
theorem acX (c:Int):bk (c:Rat)≤max (bs c.natAbs) 1:=by
 unfold bk
 rw [Rat.num_intCast,Rat.den_intCast]
 have:=sJ
 omega
end
end Go.Proofs.YtamcpiicmfielaaGreat.L
