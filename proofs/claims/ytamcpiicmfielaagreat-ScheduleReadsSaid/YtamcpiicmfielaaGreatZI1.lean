import Derived.Test.YtamcpiicmfielaaGreatZHW
import Derived.Test.YtamcpiicmfielaaGreatZHZ
set_option linter.unusedVariables false
set_option linter.unusedSimpArgs false
namespace Go.Proofs.YtamcpiicmfielaaGreat.L
open Go Go.V Go.RowKit Go.Proofs.YtamcpiicmfielaaGreat.Sp
open Go.Proofs (Tryz.prog)
noncomputable section
def bY:Rec:= ⟨av 50 [(3, .ptr 1 0),(6, .ptr 5 0)],#[31,32],16, [false,true,false,true,true,true,true], .ready,none⟩
def DY:AV→Nat→Bool
 | .any,i=> !(i==3 ||i==6)
 | .ptr a b,i=>(i==3&&a==1 ||i==6&&a==5)&&b==0
 | _,_=>false
def DW (r:Rec):Bool:=(r.T.length==50&&(List.range 50).all fun i=>DY (al r.T i) i)&&(r.params== #[31,32]&&(r.g==16&&(r.path== [false,true,false,true,true,true,true]&&((match r.st with | .ready=>true | _=>false)&&r.bN.isNone))))
theorem aaj {i:Nat} {v:AV} (h:DY v i=true):v=if i=3 then .ptr 1 0 else if i=6 then .ptr 5 0 else .any:=by
 unfold DY at h
 split at h
 ·rw [Bool.not_eq_true',Bool.or_eq_false_iff,beq_eq_false_iff_ne,beq_eq_false_iff_ne] at h
  rw [if_neg h.1,if_neg h.2]
 ·rw [Bool.and_eq_true,Bool.or_eq_true,Bool.and_eq_true,Bool.and_eq_true,beq_iff_eq,beq_iff_eq,beq_iff_eq,beq_iff_eq,beq_iff_eq] at h
  obtain ⟨⟨rfl,rfl⟩ | ⟨rfl,rfl⟩,rfl⟩:=h
  ·rw [if_pos rfl]
  ·rw [if_neg (by decide),if_pos rfl]
 ·cases h
theorem aai {r:Rec} (h:DW r=true):r=bY:=by
 obtain ⟨T,ps,g,p,st,M⟩:=r
 unfold DW at h
 simp only [Bool.and_eq_true,beq_iff_eq] at h
 obtain ⟨⟨ab,S⟩,rfl,rfl,rfl,U,Z⟩:=h
 have N:st= .ready:=by cases st <;> first | rfl | cases U
 have O:M=none:=by cases M <;> first | rfl | cases Z
 subst N O
 unfold bY
 congr 1
 apply List.ext_getElem?
 intro i
 by_cases J:i < 50
 ·have I:=aaj (List.all_eq_true.1 S i (List.mem_range.2 J))
  rw [qE,List.getElem?_eq_getElem (show i < T.length by omega),Option.getD_some] at I
  rw [List.getElem?_eq_getElem (show i < T.length by omega),I]
  unfold av
  rw [List.getElem?_map,List.getElem?_range J,Option.map_some]
  show _=some (lY [(3,AV.ptr 1 0),(6,AV.ptr 5 0)] i)
  unfold lY lY lY
  by_cases j:i=3
  ·subst j;rfl
  ·by_cases G:i=6
   ·subst G;rfl
   ·rw [if_neg j,if_neg G,show ((3:Nat)==i)=false from beq_eq_false_iff_ne.2 (Ne.symm j),show ((6:Nat)==i)=false from beq_eq_false_iff_ne.2 (Ne.symm G)];rfl
 ·rw [List.getElem?_eq_none (by omega),List.getElem?_eq_none (by unfold av;simp;omega)]
def wg (K:Hg) (j:Qg):Env:= ⟨an 31 (bM (pJ j)) (an 80 (gD (zy K j)) (an 30 (rF j) (an 29 (bM (nX j)) aF))),fun _=>false,aq⟩
abbrev lL:List Bool:= [false,true]
def kr (i:Int) (n0:Nat) (f0:Nat→Nat→AV) (m0:Nat) (g0:Nat→Nat→AV) (xb:Bool) (xn:ByteArray) (xd:ByteArray) (cs:List Value) (k:Nat) (pn:Nat) (n:Nat) (ts:List Value) (m:Nat) (ps:List Value) (j:List Value):List AV:=av 40 [(0, .yld 7),(1, .ptr 6 0),(3, .val (.int .i64 i))]
def jC (i:Int) (n0:Nat) (f0:Nat→Nat→AV) (m0:Nat) (g0:Nat→Nat→AV) (xb:Bool) (xn:ByteArray) (xd:ByteArray) (cs:List Value) (k:Nat) (pn:Nat) (n:Nat) (ts:List Value) (m:Nat) (ps:List Value) (j:List Value):Hp:= [.row (.cells [.lst false 27 n0 f0,.lst false 35 m0 g0]) 25 .live, .row (.cells [.val (.bool xb), .val (.string xn), .val (.string xd)]) 27 .live, .row (.cells [.val (.slice none 0 0),.val (.slice none 0 0)]) 25 .live, .row (.cells []) 35 .live, .row (.vals cs) 35 .live, .row (.cells [.sl false 27 8 0 k,.sl false 35 4 0 pn]) 25 .live, .row (.cells [.lst false 27 n (ag 3 ts), .lst false 35 m (ag 6 ps)]) 25 .live, .loop bY, .row (.vals j) 27 .live]
theorem Tv:aJ Tryz.prog 88 (false :: lL)=some (lb 88 lL):=by kernel_rfl
theorem Nu (K:Hg) (j:Qg) (i:Int) (n0:Nat) (f0:Nat→Nat→AV) (m0:Nat) (g0:Nat→Nat→AV) (xb:Bool) (xn:ByteArray) (xd:ByteArray) (cs:List Value) (k:Nat) (pn:Nat) (n:Nat) (ts:List Value) (m:Nat) (ps:List Value) (G:List Value):letI S:=(ts.getD (i.toNat*(3:Nat)+(1:Nat)) undef);letI U:=(ts.getD (i.toNat*(3:Nat)+(2:Nat)) undef);letI a2:=(ts.getD ((i - (1:Int)).toNat*(3:Nat)+(1:Nat)) undef);letI O:=(ts.getD ((i - (1:Int)).toNat*(3:Nat)+(2:Nat)) undef);letI J:=(j.qv (aM (ts.getD (i.toNat*(3:Nat)+(0:Nat)) undef)) (ah S) (ah U) - j.qv (aM (ts.getD ((i - (1:Int)).toNat*(3:Nat)+(0:Nat)) undef)) (ah a2) (ah O));letI a1:=(Rec.mk bY.T bY.params (16:Nat) bY.path LoopState.busy bY.bN);letI I:=(Rec.mk a1.T a1.params (16:Nat) a1.path LoopState.ready none);letI a0:=(G.getD ((0:Nat)+(i - (1:Int)).toNat*(3:Nat)+(1:Nat)) undef);letI ab:=(G.getD ((0:Nat)+(i - (1:Int)).toNat*(3:Nat)+(1:Nat)+(1:Nat)) undef);letI M:=(j.qv (j.qn J) (j.qs J) (j.qd J)*j.qv xb xn xd);letI Z:=(j.qv (aM (G.getD ((0:Nat)+(i - (1:Int)).toNat*(3:Nat)) undef)) (ah a0) (ah ab)+j.qv (j.qn M) (j.qs M) (j.qd M));letI N:=(u9 [(0:Nat),(1:Nat),(3:Nat),(1003:Nat),(1006:Nat)]);
  (nP Tryz.prog (wg K j) 8 88 [0,1,3,1003,1006] (lb 88 lL) (false :: lL) (kr i n0 f0 m0 g0 xb xn xd cs k pn n ts m ps G) (jC i n0 f0 m0 g0 xb xn xd cs k pn n ts m ps G)=(bif decide (i < (↑n:Int)) then (bif decide ((0:Int)≤i)&&decide (i < (↑n:Int)) then (bif aj IntKind.i64 (i - (1:Int)) then (bif decide ((0:Int)≤i - (1:Int))&&decide (i - (1:Int) < (↑n:Int)) then (bif aS (ts.getD (i.toNat*(3:Nat)+(0:Nat)) undef) S U&&aS (ts.getD ((i - (1:Int)).toNat*(3:Nat)+(0:Nat)) undef) a2 O&&(j.ok (ah S) (ah U)&&j.ok (ah a2) (ah O)) then (bif decide ((0:Int)≤i)&&decide (i < (↑m:Int)) then (bif aj IntKind.i64 (i - (1:Int)) then (bif decide ((0:Int)≤i - (1:Int))&&decide (i - (1:Int) < (↑m:Int)) then (bif aS (ps.getD (i.toNat*(6:Nat)+(0:Nat)) undef) (ps.getD (i.toNat*(6:Nat)+(1:Nat)) undef) (ps.getD (i.toNat*(6:Nat)+(2:Nat)) undef)&&aS (ps.getD (i.toNat*(6:Nat)+(3:Nat)) undef) (ps.getD (i.toNat*(6:Nat)+(4:Nat)) undef) (ps.getD (i.toNat*(6:Nat)+(5:Nat)) undef)&&(aS (ps.getD ((i - (1:Int)).toNat*(6:Nat)+(0:Nat)) undef) (ps.getD ((i - (1:Int)).toNat*(6:Nat)+(1:Nat)) undef) (ps.getD ((i - (1:Int)).toNat*(6:Nat)+(2:Nat)) undef)&&aS (ps.getD ((i - (1:Int)).toNat*(6:Nat)+(3:Nat)) undef) (ps.getD ((i - (1:Int)).toNat*(6:Nat)+(4:Nat)) undef) (ps.getD ((i - (1:Int)).toNat*(6:Nat)+(5:Nat)) undef))&&(K.ok (ah (ps.getD (i.toNat*(6:Nat)+(1:Nat)) undef)) (ah (ps.getD (i.toNat*(6:Nat)+(2:Nat)) undef))&&K.ok (ah (ps.getD (i.toNat*(6:Nat)+(4:Nat)) undef)) (ah (ps.getD (i.toNat*(6:Nat)+(5:Nat)) undef))&&K.ok (ah (ps.getD ((i - (1:Int)).toNat*(6:Nat)+(1:Nat)) undef)) (ah (ps.getD ((i - (1:Int)).toNat*(6:Nat)+(2:Nat)) undef))&&K.ok (ah (ps.getD ((i - (1:Int)).toNat*(6:Nat)+(4:Nat)) undef)) (ah (ps.getD ((i - (1:Int)).toNat*(6:Nat)+(5:Nat)) undef))) then (bif aj IntKind.i64 (i - (1:Int)) then (bif decide ((0:Int)≤i - (1:Int))&&decide (i - (1:Int) < (↑k:Int)) then (bif decide ((0:Nat)+(i - (1:Int)).toNat*(3:Nat) < G.length) then (bif decide ((0:Nat)+(i - (1:Int)).toNat*(3:Nat)+(1:Nat) < G.length) then (bif decide ((0:Nat)+(i - (1:Int)).toNat*(3:Nat)+(1:Nat)+(1:Nat) < G.length) then (bif j.ok (j.qs J) (j.qd J)&&j.ok xn xd then (bif aS (G.getD ((0:Nat)+(i - (1:Int)).toNat*(3:Nat)) undef) a0 ab&&true&&(j.ok (ah a0) (ah ab)&&j.ok (j.qs M) (j.qd M)) then (bif decide (k*(3:Nat)≤(aC.vals G).len)&&cA Tryz.prog (k+(1:Nat)) (27:Nat)&&true then (bif aj IntKind.i64 (i+(1:Int)) then some (.normal,av 40 [(0,(.yld 7)),(1,(.ptr 6 0)),(3,(.val (.int .i64 (i+(1:Int)))))], [(.row (.cells [(.lst false 27 n0 (f0)),(.lst false 35 m0 (g0))]) 25 .live),(.row (.cells [(.val (.bool xb)),(.val (.string xn)),(.val (.string xd))]) 27 .live),(.row (.cells [(.val (.slice .none 0 0)),(.val (.slice .none 0 0))]) 25 .live),(.row (.cells []) 35 .live),(.row (.vals cs) 35 .live),(.row (.cells [(.sl false 27 8 0 (k+(1:Nat))),(.sl false 35 4 0 pn)]) 25 .live),(.row (.cells [(.lst false 27 n (ag (3:Nat) ts)),(.lst false 35 m (ag (6:Nat) ps))]) 25 .live),(.loop (.mk [.any, .any, .any,(.ptr 1 0), .any, .any,(.ptr 5 0), .any, .any, .any, .any, .any, .any, .any, .any, .any, .any, .any, .any, .any, .any, .any, .any, .any, .any, .any, .any, .any, .any, .any, .any, .any, .any, .any, .any, .any, .any, .any, .any, .any, .any, .any, .any, .any, .any, .any, .any, .any, .any, .any] ((Rec.mk (cX N I.T) I.params (16:Nat) I.path I.st I.bN).params) 16 ((Rec.mk (cX N I.T) I.params (16:Nat) I.path I.st I.bN).path) .ready .none)),(.row (.vals ((List.take (k*(3:Nat)) G) ++ ([(.bool (j.qn Z)),(.string (j.qs Z)),(.string (j.qd Z))]:List Value))) 27 .live)]) else none) else none) else none) else none) else none) else none) else none) else none) else none) else none) else none) else none) else none) else none) else none) else none) else none) else some ((.exit 0),av 40 [(0,(.yld 7)),(1,(.ptr 6 0)),(3,(.val (.int .i64 i)))], [(.row (.cells [(.lst false 27 n0 (f0)),(.lst false 35 m0 (g0))]) 25 .live),(.row (.cells [(.val (.bool xb)),(.val (.string xn)),(.val (.string xd))]) 27 .live),(.row (.cells [(.val (.slice .none 0 0)),(.val (.slice .none 0 0))]) 25 .live),(.row (.cells []) 35 .live),(.row (.vals cs) 35 .live),(.row (.cells [(.sl false 27 8 0 k),(.sl false 35 4 0 pn)]) 25 .live),(.row (.cells [(.lst false 27 n (ag (3:Nat) ts)),(.lst false 35 m (ag (6:Nat) ps))]) 25 .live),(.loop (.mk [.any, .any, .any,(.ptr 1 0), .any, .any,(.ptr 5 0), .any, .any, .any, .any, .any, .any, .any, .any, .any, .any, .any, .any, .any, .any, .any, .any, .any, .any, .any, .any, .any, .any, .any, .any, .any, .any, .any, .any, .any, .any, .any, .any, .any, .any, .any, .any, .any, .any, .any, .any, .any, .any, .any] ((Rec.mk (cX N bY.T) bY.params (16:Nat) bY.path bY.st bY.bN).params) 16 ((Rec.mk (cX N bY.T) bY.params (16:Nat) bY.path bY.st bY.bN).path) .ready .none)),(.row (.vals G) 27 .live)]))):=by kernel_rfl
theorem OA {i:Int} {n0:Nat} {f0:Nat→Nat→AV} {m0:Nat} {g0:Nat→Nat→AV} {xb:Bool} {xn:ByteArray} {xd:ByteArray} {cs:List Value} {k:Nat} {pn:Nat} {n:Nat} {ts:List Value} {m:Nat} {ps:List Value} {j:List Value} {e:Ex} {T:List AV} {H:Hp} (h:nP Tryz.prog (wg a8 ad) 8 88 [0,1,3,1003,1006] (lb 88 lL) (false :: lL) (kr i n0 f0 m0 g0 xb xn xd cs k pn n ts m ps j) (jC i n0 f0 m0 g0 xb xn xd cs k pn n ts m ps j)=some (e,T,H)):V.Ends Tryz.prog false 8 0 (lb 88 lL) (kr i n0 f0 m0 g0 xb xn xd cs k pn n ts m ps j) (jC i n0 f0 m0 g0 xb xn xd cs k pn n ts m ps j) e T H:=
 Eh (((((aH _).add oy.bM).add tb).add B7.gD).add ql.bM) aK mixed Tv h
abbrev gN:List Bool:= [false,true]
def pA (i:Int) (n0:Nat) (f0:Nat→Nat→AV) (m0:Nat) (g0:Nat→Nat→AV) (xb:Bool) (xn:ByteArray) (xd:ByteArray) (cs:List Value) (j:List Value) (pn:Nat) (n:Nat) (ts:List Value) (m:Nat) (ps:List Value):List AV:=av 40 [(0, .yld 7),(1, .ptr 6 0),(3, .val (.int .i64 i))]
def oL (i:Int) (n0:Nat) (f0:Nat→Nat→AV) (m0:Nat) (g0:Nat→Nat→AV) (xb:Bool) (xn:ByteArray) (xd:ByteArray) (cs:List Value) (j:List Value) (pn:Nat) (n:Nat) (ts:List Value) (m:Nat) (ps:List Value):Hp:= [.row (.cells [.lst false 27 n0 f0,.lst false 35 m0 g0]) 25 .live, .row (.cells [.val (.bool xb), .val (.string xn), .val (.string xd)]) 27 .live, .row (.cells [.val (.slice none 0 0),.val (.slice none 0 0)]) 25 .live, .row (.cells []) 35 .live, .row (.vals cs) 35 .live, .row (.cells [.lst true 27 1 (ag 3 j), .sl false 35 4 0 pn]) 25 .live, .row (.cells [.lst false 27 n (ag 3 ts), .lst false 35 m (ag 6 ps)]) 25 .live, .loop bY]
theorem RJ:aJ Tryz.prog 88 gN=some (.loop (lb 88 gN)):=by kernel_rfl
theorem Tj:aJ Tryz.prog 88 (false :: gN)=some (lb 88 gN):=by kernel_rfl
theorem aaU (K:Hg) (j:Qg) (i:Int) (n0:Nat) (f0:Nat→Nat→AV) (m0:Nat) (g0:Nat→Nat→AV) (xb:Bool) (xn:ByteArray) (xd:ByteArray) (cs:List Value) (G:List Value) (pn:Nat) (n:Nat) (ts:List Value) (m:Nat) (ps:List Value):letI Z:=(ts.getD (i.toNat*(3:Nat)+(1:Nat)) undef);letI ab:=(ts.getD (i.toNat*(3:Nat)+(2:Nat)) undef);letI U:=((i - (1:Int)).toNat*(3:Nat)+(0:Nat));letI J:=((i - (1:Int)).toNat*(3:Nat)+(1:Nat));letI M:=((i - (1:Int)).toNat*(3:Nat)+(2:Nat));letI N:=(j.qv (aM (ts.getD (i.toNat*(3:Nat)+(0:Nat)) undef)) (ah Z) (ah ab) - j.qv (aM (ts.getD U undef)) (ah (ts.getD J undef)) (ah (ts.getD M undef)));letI a1:=(Rec.mk bY.T bY.params (16:Nat) bY.path LoopState.busy bY.bN);letI I:=(Rec.mk a1.T a1.params (16:Nat) a1.path LoopState.ready none);letI O:=(j.qv (j.qn N) (j.qs N) (j.qd N)*j.qv xb xn xd);letI a0:=(j.qv (aM (G.getD U undef)) (ah (G.getD J undef)) (ah (G.getD M undef))+j.qv (j.qn O) (j.qs O) (j.qd O));letI S:=(u9 [(0:Nat),(1:Nat),(3:Nat),(1003:Nat),(1006:Nat)]);
  (nP Tryz.prog (wg K j) 8 88 [0,1,3,1003,1006] (lb 88 gN) (false :: gN) (pA i n0 f0 m0 g0 xb xn xd cs G pn n ts m ps) (oL i n0 f0 m0 g0 xb xn xd cs G pn n ts m ps)=(bif decide (i < (↑n:Int)) then (bif decide ((0:Int)≤i)&&decide (i < (↑n:Int)) then (bif aj IntKind.i64 (i - (1:Int)) then (bif decide ((0:Int)≤i - (1:Int))&&decide (i - (1:Int) < (↑n:Int)) then (bif aS (ts.getD (i.toNat*(3:Nat)+(0:Nat)) undef) Z ab&&aS (ts.getD U undef) (ts.getD J undef) (ts.getD M undef)&&(j.ok (ah Z) (ah ab)&&j.ok (ah (ts.getD J undef)) (ah (ts.getD M undef))) then (bif decide ((0:Int)≤i)&&decide (i < (↑m:Int)) then (bif aj IntKind.i64 (i - (1:Int)) then (bif decide ((0:Int)≤i - (1:Int))&&decide (i - (1:Int) < (↑m:Int)) then (bif aS (ps.getD (i.toNat*(6:Nat)+(0:Nat)) undef) (ps.getD (i.toNat*(6:Nat)+(1:Nat)) undef) (ps.getD (i.toNat*(6:Nat)+(2:Nat)) undef)&&aS (ps.getD (i.toNat*(6:Nat)+(3:Nat)) undef) (ps.getD (i.toNat*(6:Nat)+(4:Nat)) undef) (ps.getD (i.toNat*(6:Nat)+(5:Nat)) undef)&&(aS (ps.getD ((i - (1:Int)).toNat*(6:Nat)+(0:Nat)) undef) (ps.getD ((i - (1:Int)).toNat*(6:Nat)+(1:Nat)) undef) (ps.getD ((i - (1:Int)).toNat*(6:Nat)+(2:Nat)) undef)&&aS (ps.getD ((i - (1:Int)).toNat*(6:Nat)+(3:Nat)) undef) (ps.getD ((i - (1:Int)).toNat*(6:Nat)+(4:Nat)) undef) (ps.getD ((i - (1:Int)).toNat*(6:Nat)+(5:Nat)) undef))&&(K.ok (ah (ps.getD (i.toNat*(6:Nat)+(1:Nat)) undef)) (ah (ps.getD (i.toNat*(6:Nat)+(2:Nat)) undef))&&K.ok (ah (ps.getD (i.toNat*(6:Nat)+(4:Nat)) undef)) (ah (ps.getD (i.toNat*(6:Nat)+(5:Nat)) undef))&&K.ok (ah (ps.getD ((i - (1:Int)).toNat*(6:Nat)+(1:Nat)) undef)) (ah (ps.getD ((i - (1:Int)).toNat*(6:Nat)+(2:Nat)) undef))&&K.ok (ah (ps.getD ((i - (1:Int)).toNat*(6:Nat)+(4:Nat)) undef)) (ah (ps.getD ((i - (1:Int)).toNat*(6:Nat)+(5:Nat)) undef))) then (bif aj IntKind.i64 (i - (1:Int)) then (bif decide ((0:Int)≤i - (1:Int))&&decide (i - (1:Int) < (1:Int)) then (bif j.ok (j.qs N) (j.qd N)&&j.ok xn xd then (bif aS (G.getD U undef) (G.getD J undef) (G.getD M undef)&&true&&(j.ok (ah (G.getD J undef)) (ah (G.getD M undef))&&j.ok (j.qs O) (j.qd O)) then (bif aj IntKind.i64 (i+(1:Int)) then some (.normal,av 40 [(0,(.yld 7)),(1,(.ptr 6 0)),(3,(.val (.int .i64 (i+(1:Int)))))], [(.row (.cells [(.lst false 27 n0 (f0)),(.lst false 35 m0 (g0))]) 25 .live),(.row (.cells [(.val (.bool xb)),(.val (.string xn)),(.val (.string xd))]) 27 .live),(.row (.cells [(.val (.slice .none 0 0)),(.val (.slice .none 0 0))]) 25 .live),(.row (.cells []) 35 .live),(.row (.vals cs) 35 .live),(.row (.cells [(.sl false 27 8 0 2),(.sl false 35 4 0 pn)]) 25 .live),(.row (.cells [(.lst false 27 n (ag (3:Nat) ts)),(.lst false 35 m (ag (6:Nat) ps))]) 25 .live),(.loop (.mk [.any, .any, .any,(.ptr 1 0), .any, .any,(.ptr 5 0), .any, .any, .any, .any, .any, .any, .any, .any, .any, .any, .any, .any, .any, .any, .any, .any, .any, .any, .any, .any, .any, .any, .any, .any, .any, .any, .any, .any, .any, .any, .any, .any, .any, .any, .any, .any, .any, .any, .any, .any, .any, .any, .any] ((Rec.mk (cX S I.T) I.params (16:Nat) I.path I.st I.bN).params) 16 ((Rec.mk (cX S I.T) I.params (16:Nat) I.path I.st I.bN).path) .ready .none)),(.row (.vals ((List.take 3 ([(G.getD (0:Nat) undef),(G.getD (1:Nat) undef),(G.getD (2:Nat) undef)]:List Value)) ++ ([(.bool (j.qn a0)),(.string (j.qs a0)),(.string (j.qd a0))]:List Value))) 27 .live)]) else none) else none) else none) else none) else none) else none) else none) else none) else none) else none) else none) else none) else none) else some ((.exit 0),av 40 [(0,(.yld 7)),(1,(.ptr 6 0)),(3,(.val (.int .i64 i)))], [(.row (.cells [(.lst false 27 n0 (f0)),(.lst false 35 m0 (g0))]) 25 .live),(.row (.cells [(.val (.bool xb)),(.val (.string xn)),(.val (.string xd))]) 27 .live),(.row (.cells [(.val (.slice .none 0 0)),(.val (.slice .none 0 0))]) 25 .live),(.row (.cells []) 35 .live),(.row (.vals cs) 35 .live),(.row (.cells [(.lst true 27 1 (ag (3:Nat) G)),(.sl false 35 4 0 pn)]) 25 .live),(.row (.cells [(.lst false 27 n (ag (3:Nat) ts)),(.lst false 35 m (ag (6:Nat) ps))]) 25 .live),(.loop (.mk [.any, .any, .any,(.ptr 1 0), .any, .any,(.ptr 5 0), .any, .any, .any, .any, .any, .any, .any, .any, .any, .any, .any, .any, .any, .any, .any, .any, .any, .any, .any, .any, .any, .any, .any, .any, .any, .any, .any, .any, .any, .any, .any, .any, .any, .any, .any, .any, .any, .any, .any, .any, .any, .any, .any] ((Rec.mk (cX S bY.T) bY.params (16:Nat) bY.path bY.st bY.bN).params) 16 ((Rec.mk (cX S bY.T) bY.params (16:Nat) bY.path bY.st bY.bN).path) .ready .none))]))):=by kernel_rfl
theorem acw {i:Int} {n0:Nat} {f0:Nat→Nat→AV} {m0:Nat} {g0:Nat→Nat→AV} {xb:Bool} {xn:ByteArray} {xd:ByteArray} {cs:List Value} {j:List Value} {pn:Nat} {n:Nat} {ts:List Value} {m:Nat} {ps:List Value} {e:Ex} {T:List AV} {H:Hp} (h:nP Tryz.prog (wg a8 ad) 8 88 [0,1,3,1003,1006] (lb 88 gN) (false :: gN) (pA i n0 f0 m0 g0 xb xn xd cs j pn n ts m ps) (oL i n0 f0 m0 g0 xb xn xd cs j pn n ts m ps)=some (e,T,H)):V.Ends Tryz.prog false 8 0 (lb 88 gN) (pA i n0 f0 m0 g0 xb xn xd cs j pn n ts m ps) (oL i n0 f0 m0 g0 xb xn xd cs j pn n ts m ps) e T H:=
 Eh (((((aH _).add oy.bM).add tb).add B7.gD).add ql.bM) aK mixed Tj h
theorem So (n:Nat) (q:Nat→Rat) {j:Nat} (G:j < n):(aP n q).getD (j*3) undef= .bool (ad.qn (q j)):=Bu n q G
theorem Sq (n:Nat) (q:Nat→Rat) {j:Nat} (G:j < n):(aP n q).getD (j*3+1+1) undef= .string (ad.qd (q j)):=Bv n q G
def aY (ts:List Value) (x:Rat):Nat→Rat
 | 0=>qt ts 0
 | j+1=>aY ts x j+(qt ts (j+1) - qt ts j)*x
theorem N1 (ts:List Value) (x:Rat) (j:Nat):aY ts x j=qt ts 0+(qt ts j - qt ts 0)*x:=by
 induction j with
 | zero=>
  show qt ts 0=_
  grind
 | succ j G=>
  show aY ts x j+(qt ts (j+1) - qt ts j)*x=_
  rw [G];grind
theorem C6 {b:Bool} {n d:BA} (h:bo n d=true):bg (ad.qv b n d)≤1000:=by
 have:=mz h
 have:=nT b n d
 omega
theorem N2 {n:Nat} {ts ps:List Value} (h:c9 n ts n ps) {xb:Bool} {xn xd:BA} (I:bo xn xd=true) (j:Nat) (G:j < n):bg (aY ts (ad.qv xb xn xd) j)≤4002:=by
 have J:=lG (h.ts.ok j G)
 have M:=lG (h.ts.ok 0 h.pos)
 have N:=C6 (b:=xb) I
 have O:=gv (qt ts j) (qt ts 0)
 have S:=gu (qt ts j - qt ts 0) (ad.qv xb xn xd)
 have U:=yT (qt ts 0) ((qt ts j - qt ts 0)*ad.qv xb xn xd)
 rw [N1]
 omega
section
variable {n0 : Nat} {f0 : Nat → Nat → AV} {m0 : Nat} {g0 : Nat → Nat → AV} {xb : Bool} {xn xd : BA} {cs : List Value} {pn n : Nat} {ts ps : List Value}
theorem abZ (h:c9 n ts n ps) (J:bo xn xd=true) (j:Nat) (I:j+1 < n):V.Ends Tryz.prog false 8 0 (lb 88 lL) (kr ((j+1:Nat):Int) n0 f0 m0 g0 xb xn xd cs (j+1) pn n ts n ps (aP (j+1) (aY ts (ad.qv xb xn xd)))) (jC ((j+1:Nat):Int) n0 f0 m0 g0 xb xn xd cs (j+1) pn n ts n ps (aP (j+1) (aY ts (ad.qv xb xn xd)))) .normal (kr ((j+1+1:Nat):Int) n0 f0 m0 g0 xb xn xd cs (j+1+1) pn n ts n ps (aP (j+1+1) (aY ts (ad.qv xb xn xd)))) (jC ((j+1+1:Nat):Int) n0 f0 m0 g0 xb xn xd cs (j+1+1) pn n ts n ps (aP (j+1+1) (aY ts (ad.qv xb xn xd)))):=by
 have b1:=h.ts.ai
 obtain ⟨N,O⟩:=cm (h.ts.ok j (by omega))
 obtain ⟨S,U⟩:=cm (h.ts.ok (j+1) I)
 obtain ⟨⟨a1,a2⟩,a3,a4⟩:=cY (h.dh j (by omega))
 obtain ⟨⟨a5,a6⟩,a7,bx⟩:=cY (h.dh (j+1) I)
 obtain ⟨_,_,_,b2,_,_⟩:=vk h I
 have b5:=C6 (b:=xb) J
 have b3:=gu (qt ts (j+1) - qt ts j) (ad.qv xb xn xd)
 have b4:=N2 (xb:=xb) h J j (by omega)
 have b0:aY ts (ad.qv xb xn xd) (j+1)=aY ts (ad.qv xb xn xd) j+(qt ts (j+1) - qt ts j)*ad.qv xb xn xd:=rfl
 have bD:((j+1:Nat):Int) - 1=(j:Int):=by omega
 have M:=Nu a8 ad ((j+1:Nat):Int) n0 f0 m0 g0 xb xn xd cs (j+1) pn n ts n ps (aP (j+1) (aY ts (ad.qv xb xn xd)))
 have Z:=So (j+1) (aY ts (ad.qv xb xn xd)) (show j < j+1 by omega)
 have ab:=Bw (j+1) (aY ts (ad.qv xb xn xd)) (show j < j+1 by omega)
 have a0:=Sq (j+1) (aY ts (ad.qv xb xn xd)) (show j < j+1 by omega)
 have G:=eU (j+1) (aY ts (ad.qv xb xn xd))
 simp only [bD,Int.toNat_natCast,Nat.zero_add,kT,gT,Z,ab,a0,G,Jo,Jp,KX] at M
 rw [dT (show ((j+1:Nat):Int) < (n:Int) by omega),dT (show (0:Int)≤((j+1:Nat):Int) by omega),aO (z:=(j:Int)) (by omega),dT (show (0:Int)≤(j:Int) by omega),dT (show (j:Int) < (n:Int) by omega),N,cy O,S,cy U,a1,a2,a3,a4,a5,a6,a7,bx,
  df (q:=qt ts (j+1) - qt ts j) (by omega),cy J,df (q:=(qt ts (j+1) - qt ts j)*ad.qv xb xn xd) (by omega),df (q:=aY ts (ad.qv xb xn xd) j) (by omega),aO (z:=((j+1:Nat):Int)+1) (by omega),dT (show (j:Int) < ((j+1:Nat):Int) by omega),dT (show j*3 < (j+1)*3 by omega),dT (show j*3+1 < (j+1)*3 by omega),dT (show j*3+1+1 < (j+1)*3 by omega),yJ (show j+1+1≤2000 by omega),
  dT (show (j+1)*3≤(aC.vals (aP (j+1) (aY ts (ad.qv xb xn xd)))).len from Nat.le_of_eq G.symm),List.take_of_length_le (Nat.le_of_eq G),← b0] at M
 rw [qa (j+1)]
 exact OA M
theorem abY (h:c9 n ts n ps) (I:bo xn xd=true) (k:Nat):∀ j,n=j+1+k→bQ Tryz.prog 8 (lb 88 lL) (kr ((j+1:Nat):Int) n0 f0 m0 g0 xb xn xd cs (j+1) pn n ts n ps (aP (j+1) (aY ts (ad.qv xb xn xd)))) (jC ((j+1:Nat):Int) n0 f0 m0 g0 xb xn xd cs (j+1) pn n ts n ps (aP (j+1) (aY ts (ad.qv xb xn xd)))) (.exit 0) (kr (n:Int) n0 f0 m0 g0 xb xn xd cs n pn n ts n ps (aP n (aY ts (ad.qv xb xn xd)))) (jC (n:Int) n0 f0 m0 g0 xb xn xd cs n pn n ts n ps (aP n (aY ts (ad.qv xb xn xd)))):=by
 induction k with
 | zero=>
  intro j G
  have:n=j+1:=by omega
  subst this
  refine .last (OA ?_) (by intro h;cases h)
  rw [Nu,dF (show ¬ ((j+1:Nat):Int) < ((j+1:Nat):Int) by omega)]
  rfl
 | succ k J=>
  intro j G
  exact .more (abZ h I j (by omega)) (J (j+1) (by omega))
theorem abp (h:c9 n ts n ps) (G:bo xn xd=true) (b2:1 < n):bQ Tryz.prog 8 (lb 88 lL) (pA ((0+1:Nat):Int) n0 f0 m0 g0 xb xn xd cs (aP 1 (aY ts (ad.qv xb xn xd))) pn n ts n ps) (oL ((0+1:Nat):Int) n0 f0 m0 g0 xb xn xd cs (aP 1 (aY ts (ad.qv xb xn xd))) pn n ts n ps) (.exit 0) (kr (n:Int) n0 f0 m0 g0 xb xn xd cs n pn n ts n ps (aP n (aY ts (ad.qv xb xn xd)))) (jC (n:Int) n0 f0 m0 g0 xb xn xd cs n pn n ts n ps (aP n (aY ts (ad.qv xb xn xd)))):=by
 obtain ⟨j,bD⟩:∃ j,j=0:= ⟨0,rfl⟩
 have J:j+1 < n:=by omega
 have b1:=h.ts.ai
 obtain ⟨M,N⟩:=cm (h.ts.ok j (by omega))
 obtain ⟨O,S⟩:=cm (h.ts.ok (j+1) J)
 obtain ⟨⟨a0,a1⟩,a2,a3⟩:=cY (h.dh j (by omega))
 obtain ⟨⟨a4,a5⟩,a6,a7⟩:=cY (h.dh (j+1) J)
 obtain ⟨_,_,_,b3,_,_⟩:=vk h J
 have b6:=C6 (b:=xb) G
 have b4:=gu (qt ts (j+1) - qt ts j) (ad.qv xb xn xd)
 have b5:=N2 (xb:=xb) h G j (by omega)
 have b0:aY ts (ad.qv xb xn xd) (j+1)=aY ts (ad.qv xb xn xd) j+(qt ts (j+1) - qt ts j)*ad.qv xb xn xd:=rfl
 have bx:((j+1:Nat):Int) - 1=(j:Int):=by omega
 have I:=aaU a8 ad ((j+1:Nat):Int) n0 f0 m0 g0 xb xn xd cs (aP (j+1) (aY ts (ad.qv xb xn xd))) pn n ts n ps
 have U:=Bu (j+1) (aY ts (ad.qv xb xn xd)) (show j < j+1 by omega)
 have Z:=Bw (j+1) (aY ts (ad.qv xb xn xd)) (show j < j+1 by omega)
 have ab:=Bv (j+1) (aY ts (ad.qv xb xn xd)) (show j < j+1 by omega)
 simp only [bx,Int.toNat_natCast,kT,gT,U,Z,ab,Jo,Jp,KX] at I
 rw [dT (show ((j+1:Nat):Int) < (n:Int) by omega),dT (show (0:Int)≤((j+1:Nat):Int) by omega),aO (z:=(j:Int)) (by omega),dT (show (0:Int)≤(j:Int) by omega),dT (show (j:Int) < (n:Int) by omega),M,cy N,O,cy S,a0,a1,a2,a3,a4,a5,a6,a7,
  df (q:=qt ts (j+1) - qt ts j) (by omega),cy G,df (q:=(qt ts (j+1) - qt ts j)*ad.qv xb xn xd) (by omega),df (q:=aY ts (ad.qv xb xn xd) j) (by omega),aO (z:=((j+1:Nat):Int)+1) (by omega),dT (show (j:Int) < 1 by omega),← b0] at I
 subst bD
 rw [show List.take 3 ([(aP (0+1) (aY ts (ad.qv xb xn xd))).getD 0 undef,(aP (0+1) (aY ts (ad.qv xb xn xd))).getD 1 undef,(aP (0+1) (aY ts (ad.qv xb xn xd))).getD 2 undef]:List Value) ++ ([(.bool (ad.qn (aY ts (ad.qv xb xn xd) (0+1)))),(.string (ad.qs (aY ts (ad.qv xb xn xd) (0+1)))),(.string (ad.qd (aY ts (ad.qv xb xn xd) (0+1))))]:List Value)=aP (1+1) (aY ts (ad.qv xb xn xd)) from rfl] at I
 exact .more (acw I) (abY h G (n - 2) 1 (by omega))
end
def uK (i:Int) (n0:Nat) (f0:Nat→Nat→AV) (m0:Nat) (g0:Nat→Nat→AV) (xb:Bool) (xn xd:BA) (cs j:List Value) (pn n:Nat) (ts:List Value) (m:Nat) (ps:List Value):Prop:=i=1∧n=m∧1 < n∧j=aP 1 (aY ts (ad.qv xb xn xd))∧c9 n ts m ps∧bo xn xd=true
def DG (i:Int) (n0:Nat) (f0:Nat→Nat→AV) (m0:Nat) (g0:Nat→Nat→AV) (xb:Bool) (xn xd:BA) (cs j:List Value) (pn n:Nat) (ts:List Value) (m:Nat) (ps:List Value) (ρ:Int×Nat×List Value):Prop:=ρ.2=(n,aP n (aY ts (ad.qv xb xn xd)))
theorem Yf (i:Int) (n0:Nat) (f0:Nat→Nat→AV) (m0:Nat) (g0:Nat→Nat→AV) (xb:Bool) (xn xd:BA) (cs j:List Value) (pn n:Nat) (ts:List Value) (m:Nat) (ps:List Value) (h:uK i n0 f0 m0 g0 xb xn xd cs j pn n ts m ps):∃ ρ:Int×Nat×List Value,bQ Tryz.prog 8 (lb 88 gN) (pA i n0 f0 m0 g0 xb xn xd cs j pn n ts m ps) (oL i n0 f0 m0 g0 xb xn xd cs j pn n ts m ps) (.exit 0) (kr ρ.1 n0 f0 m0 g0 xb xn xd cs ρ.2.1 pn n ts m ps ρ.2.2) (jC ρ.1 n0 f0 m0 g0 xb xn xd cs ρ.2.1 pn n ts m ps ρ.2.2)∧DG i n0 f0 m0 g0 xb xn xd cs j pn n ts m ps ρ:=by
 obtain ⟨rfl,rfl,I,rfl,G,J⟩:=h
 exact ⟨((n:Int),n,aP n (aY ts (ad.qv xb xn xd))),abp G J I,rfl⟩
def Gw (N:Int→Nat→(Nat→Nat→AV)→Nat→(Nat→Nat→AV)→Bool→ByteArray→ByteArray→List Value→List Value→Nat→Nat→List Value→Nat→List Value→Bool) (J:Int→Nat→(Nat→Nat→AV)→Nat→(Nat→Nat→AV)→Bool→ByteArray→ByteArray→List Value→List Value→Nat→Nat→List Value→Nat→List Value→Int×Nat×List Value) (T:List AV) (H:Hp):Option (Bool×Ex×List AV×Hp):=
 match al T 0,al T 1,al T 3,H with
 | .yld 7, .ptr 6 0, .val (.int .i64 i), [.row (.cells [.lst false 27 n0 f0,.lst false 35 m0 g0]) 25 .live, .row (.cells [.val (.bool xb), .val (.string xn), .val (.string xd)]) 27 .live, .row (.cells [.val (.slice none 0 0),.val (.slice none 0 0)]) 25 .live, .row (.cells []) 35 .live, .row (.vals cs) 35 .live, .row (.cells [.lst true 27 1 I, .sl false 35 4 0 pn]) 25 .live, .row (.cells [.lst false 27 n G, .lst false 35 m j]) 25 .live, .loop M]=>bif T.length==40 then some (au 3 n G&&au 6 m j&&au 3 1 I&&DW M&&N i n0 f0 m0 g0 xb xn xd cs (af 3 1 I) pn n (af 3 n G) m (af 6 m j), .exit 0,kr ((J i n0 f0 m0 g0 xb xn xd cs (af 3 1 I) pn n (af 3 n G) m (af 6 m j)).1) n0 f0 m0 g0 xb xn xd cs ((J i n0 f0 m0 g0 xb xn xd cs (af 3 1 I) pn n (af 3 n G) m (af 6 m j)).2.1) pn n (af 3 n G) m (af 6 m j) ((J i n0 f0 m0 g0 xb xn xd cs (af 3 1 I) pn n (af 3 n G) m (af 6 m j)).2.2),jC ((J i n0 f0 m0 g0 xb xn xd cs (af 3 1 I) pn n (af 3 n G) m (af 6 m j)).1) n0 f0 m0 g0 xb xn xd cs ((J i n0 f0 m0 g0 xb xn xd cs (af 3 1 I) pn n (af 3 n G) m (af 6 m j)).2.1) pn n (af 3 n G) m (af 6 m j) ((J i n0 f0 m0 g0 xb xn xd cs (af 3 1 I) pn n (af 3 n G) m (af 6 m j)).2.2)) else none
 | _,_,_,_=>none
abbrev IH:Type:=Int→Nat→(Nat→Nat→AV)→Nat→(Nat→Nat→AV)→Bool→ByteArray→ByteArray→List Value→List Value→Nat→Nat→List Value→Nat→List Value→Bool
abbrev H9:Type:=Int→Nat→(Nat→Nat→AV)→Nat→(Nat→Nat→AV)→Bool→ByteArray→ByteArray→List Value→List Value→Nat→Nat→List Value→Nat→List Value→Int×Nat×List Value
def wo (j:IH) (G:H9) (L:aE):aE:=bp 8 88 gN [0,1,3,1003,1006] (Gw j G) L
def jU (i:Int) (n0:Nat) (f0:Nat→Nat→AV) (m0:Nat) (g0:Nat→Nat→AV) (xb:Bool) (xn:ByteArray) (xd:ByteArray) (cs:List Value) (j:List Value) (pn:Nat) (n:Nat) (ts:List Value) (m:Nat) (ps:List Value):Int×Nat×List Value:=Classical.epsilon fun ρ=>bQ Tryz.prog 8 (lb 88 gN) (pA i n0 f0 m0 g0 xb xn xd cs j pn n ts m ps) (oL i n0 f0 m0 g0 xb xn xd cs j pn n ts m ps) (.exit 0) (kr (ρ.1) n0 f0 m0 g0 xb xn xd cs (ρ.2.1) pn n ts m ps (ρ.2.2)) (jC (ρ.1) n0 f0 m0 g0 xb xn xd cs (ρ.2.1) pn n ts m ps (ρ.2.2))∧DG i n0 f0 m0 g0 xb xn xd cs j pn n ts m ps ρ
theorem MG (i:Int) (n0:Nat) (f0:Nat→Nat→AV) (m0:Nat) (g0:Nat→Nat→AV) (xb:Bool) (xn:ByteArray) (xd:ByteArray) (cs:List Value) (j:List Value) (pn:Nat) (n:Nat) (ts:List Value) (m:Nat) (ps:List Value) (h:uK i n0 f0 m0 g0 xb xn xd cs j pn n ts m ps):bQ Tryz.prog 8 (lb 88 gN) (pA i n0 f0 m0 g0 xb xn xd cs j pn n ts m ps) (oL i n0 f0 m0 g0 xb xn xd cs j pn n ts m ps) (.exit 0) (kr ((jU i n0 f0 m0 g0 xb xn xd cs j pn n ts m ps).1) n0 f0 m0 g0 xb xn xd cs ((jU i n0 f0 m0 g0 xb xn xd cs j pn n ts m ps).2.1) pn n ts m ps ((jU i n0 f0 m0 g0 xb xn xd cs j pn n ts m ps).2.2)) (jC ((jU i n0 f0 m0 g0 xb xn xd cs j pn n ts m ps).1) n0 f0 m0 g0 xb xn xd cs ((jU i n0 f0 m0 g0 xb xn xd cs j pn n ts m ps).2.1) pn n ts m ps ((jU i n0 f0 m0 g0 xb xn xd cs j pn n ts m ps).2.2))∧DG i n0 f0 m0 g0 xb xn xd cs j pn n ts m ps (jU i n0 f0 m0 g0 xb xn xd cs j pn n ts m ps):=Classical.epsilon_spec (Yf i n0 f0 m0 g0 xb xn xd cs j pn n ts m ps h)
def sQ (i:Int) (n0:Nat) (f0:Nat→Nat→AV) (m0:Nat) (g0:Nat→Nat→AV) (xb:Bool) (xn:ByteArray) (xd:ByteArray) (cs:List Value) (j:List Value) (pn:Nat) (n:Nat) (ts:List Value) (m:Nat) (ps:List Value):Bool:= @decide (uK i n0 f0 m0 g0 xb xn xd cs j pn n ts m ps) (Classical.propDecidable _)
theorem Uj (i:Int) (n0:Nat) (f0:Nat→Nat→AV) (m0:Nat) (g0:Nat→Nat→AV) (xb:Bool) (xn:ByteArray) (xd:ByteArray) (cs:List Value) (j:List Value) (pn:Nat) (n:Nat) (ts:List Value) (m:Nat) (ps:List Value) (h:uK i n0 f0 m0 g0 xb xn xd cs j pn n ts m ps):sQ i n0 f0 m0 g0 xb xn xd cs j pn n ts m ps=true:= @decide_eq_true _ (Classical.propDecidable _) h
theorem adK (T:List AV) (H:Hp) (e:Ex) (J:List AV) (I:Hp) (h:Gw sQ jU T H=some (true,e,J,I)):V.Ends Tryz.prog false 8 0 (.loop (lb 88 gN)) T H e J I:=by
 unfold Gw at h
 split at h
 ·rename_i i n0 f0 m0 g0 xb xn xd cs S pn n U m O a7 Z ab a0
  rw [Bool.cond_eq_ite] at h
  split at h
  ·rename_i M
   rw [beq_iff_eq] at M
   simp only [Option.some.injEq,Prod.mk.injEq,Bool.and_eq_true,decide_eq_true_eq] at h
   obtain ⟨⟨⟨⟨⟨k1,a2⟩,a3⟩,a4⟩,a5⟩,rfl,rfl,rfl⟩:=h
   obtain rfl:a7=bY:=aai a4
   have a6:= @of_decide_eq_true _ (Classical.propDecidable _) a5
   refine Ends.pre (Ends.cS (MG i n0 f0 m0 g0 xb xn xd cs (af 3 1 S) pn n (af 3 n U) m (af 6 m O) a6).1.ends (aT.cons (bI.refl _) (aT.cons (bI.refl _) (aT.cons (bI.refl _) (aT.cons (bI.refl _) (aT.cons (bI.refl _) (aT.cons ⟨⟨rfl,fun _ _ _ _ _ G=>aam (by kernel_rfl) a3 G⟩,rfl,rfl⟩ (aT.cons ⟨⟨rfl,fun _ _ _ _ _ G=>ei (by kernel_rfl) (by kernel_rfl) k1 a2 G⟩,rfl,rfl⟩ (aT.cons (bI.refl _) aT.nil))))))))) (fun α B w D bx a1=>bm M (fun p N y j=> ?_) a1)
   simp only [List.mem_cons,List.not_mem_nil,or_false] at N
   rcases N with rfl | rfl | rfl
   ·rw [Z] at j;exact j
   ·rw [ab] at j;exact j
   ·rw [a0] at j;exact j
  ·cases h
 ·cases h
theorem I6 {L:aE} (h:aB Tryz.prog L):aB Tryz.prog (wo sQ jU L):=h.br RJ adK
end
end Go.Proofs.YtamcpiicmfielaaGreat.L
namespace Go.Proofs.YtamcpiicmfielaaGreat.L
open Go Go.V Go.RowKit Go.Proofs.YtamcpiicmfielaaGreat.Sp
open Go.Proofs (Tryz.prog)
noncomputable section
def oe (C:Cg) (j:Qg):FuncId→TF:=an 18 (eE C) (an 49 (ma j) (an 27 (y8 j) aF))
theorem OR (C:Cg) (G:Qg) (O:IH) (S:H9) (p:Nat) (ts:List Value) (ps:List Value) (xb:Bool) (xn xd:BA):letI j:=(af (6:Nat) (p+(2:Nat)) (ag (6:Nat) ps));letI I:=((0:Nat)+(p+(2:Nat)));letI M:=(af (3:Nat) (p+(2:Nat)) (ag (3:Nat) ts));letI J:=(S (1:Int) (p+(2:Nat)) (ag (3:Nat) ts) (p+(2:Nat)) (ag (6:Nat) ps) xb xn xd j (af (3:Nat) (1:Nat) fun N q=>ag (3:Nat) ts (N+(0:Nat)) q) I (p+(2:Nat)) M (p+(2:Nat)) j);
  (aD Tryz.prog ⟨oe C G,fun _=>false,wo O S aq⟩ 10 10 16 [bH (p+2) ts (p+2) ps,w3 xb xn xd]=(bif au (3:Nat) (p+(2:Nat)) (ag (3:Nat) ts)&&au (6:Nat) (p+(2:Nat)) (ag (6:Nat) ps)&&C.ko (p+(2:Nat)) M (p+(2:Nat)) j then (bif !decide (C.ck (p+(2:Nat)) M (p+(2:Nat)) j=(0:Int)) then some (.tup [(.agg [(.val (.slice .none 0 0)),(.val (.slice .none 0 0))]),(.val (.int .i64 1))]) else (bif G.ok xn xd then (bif !decide (G.ck xb xn xd=(0:Int)) then some (.tup [(.agg [(.val (.slice .none 0 0)),(.val (.slice .none 0 0))]),(.val (.int .i64 1))]) else (bif G.ok xn xd then (bif decide (G.sq (G.qv xb xn xd)≤(0:Int)) then some (.tup [(.agg [(.val (.slice .none 0 0)),(.val (.slice .none 0 0))]),(.val (.int .i64 2))]) else (bif au (6:Nat) (p+(2:Nat)) (ag (6:Nat) ps) then (bif cA Tryz.prog I (35:Nat)&&(aC.vals j).oi then (bif au (3:Nat) (p+(2:Nat)) (ag (3:Nat) ts)&&au (6:Nat) (p+(2:Nat)) (ag (6:Nat) ps)&&true&&true&&O (1:Int) (p+(2:Nat)) (ag (3:Nat) ts) (p+(2:Nat)) (ag (6:Nat) ps) xb xn xd j (af (3:Nat) (1:Nat) fun N q=>ag (3:Nat) ts (N+(0:Nat)) q) I (p+(2:Nat)) M (p+(2:Nat)) j then (bif decide ((0:Nat)+J.snd.fst*(3:Nat)≤(aC.vals J.snd.snd).len) then (bif decide ((0:Nat)+I*(6:Nat)≤(aC.vals j).len) then some (.tup [(.agg [(.lst false 27 (J.snd.fst) (ig (aC.vals J.snd.snd) [] (0:Nat) (3:Nat))),(.lst false 35 I (ig (aC.vals j) [] (0:Nat) (6:Nat)))]),(.val (.int .i64 0))]) else none) else none) else none) else none) else none)) else none)) else none)) else none)):=by kernel_rfl
theorem OS (C:Cg) (j:Qg) (ts ps:List Value) (xb:Bool) (xn xd:BA):aD Tryz.prog ⟨oe C j,fun _=>false,aq⟩ 10 10 16 [bH 1 ts 1 ps,w3 xb xn xd]=
  (bif C.ko (1:Nat) (af (3:Nat) (1:Nat) (ag (3:Nat) ts)) (1:Nat) (af (6:Nat) (1:Nat) (ag (6:Nat) ps)) then (bif !decide (C.ck (1:Nat) (af (3:Nat) (1:Nat) (ag (3:Nat) ts)) (1:Nat) (af (6:Nat) (1:Nat) (ag (6:Nat) ps))=(0:Int)) then some (.tup [(.agg [(.val (.slice .none 0 0)),(.val (.slice .none 0 0))]),(.val (.int .i64 1))]) else (bif j.ok xn xd then (bif !decide (j.ck xb xn xd=(0:Int)) then some (.tup [(.agg [(.val (.slice .none 0 0)),(.val (.slice .none 0 0))]),(.val (.int .i64 1))]) else (bif j.ok xn xd then (bif decide (j.sq (j.qv xb xn xd)≤(0:Int)) then some (.tup [(.agg [(.val (.slice .none 0 0)),(.val (.slice .none 0 0))]),(.val (.int .i64 2))]) else (bif (aC.vals (af (6:Nat) (1:Nat) (ag (6:Nat) ps))).oi then some (.tup [(.agg [(.lst true 27 1 (fun G q=>ag (3:Nat) ts (G+(0:Nat)) q)),(.lst false 35 1 (ig (aC.vals (af (6:Nat) (1:Nat) (ag (6:Nat) ps))) [] (0:Nat) (6:Nat)))]),(.val (.int .i64 0))]) else none)) else none)) else none)) else none):=by kernel_rfl
structure Tt where
 sk:Nat→List Value→Nat→List Value→Bool→BA→BA→Bool
 sf:Nat→List Value→Nat→List Value→Bool→BA→BA→Bool
 st:Nat→List Value→Rat→List Value
def pD (n:Nat) (ts:List Value) (m:Nat) (ps:List Value) (xb:Bool) (xn xd:BA):Bool:=ll n ts m ps xb xn xd&&decide (0 < ad.qv xb xn xd)
def pb (n:Nat) (ts:List Value) (m:Nat) (ps:List Value) (xb:Bool) (xn xd:BA):Bool:=ll n ts m ps xb xn xd&& !decide (0 < ad.qv xb xn xd)
def k9:Tt where
 sk:=pD
 sf:=pb
 st n ts x:=aP n (aY ts x)
def rJ (T:Tt) (j:Qg):TF:=fun args=>match args with
 | [.agg [.lst _ 27 n f, .lst _ 35 m g], .agg [.val (.bool xb), .val (.string xn), .val (.string xd)]]=>some (au 3 n f&&au 6 m g&&T.sk n (af 3 n f) m (af 6 m g) xb xn xd, .tup [bH n (T.st n (af 3 n f) (j.qv xb xn xd)) m (af 6 m g), .val (.int .i64 0)])
 | _=>none
def rI (T:Tt):TF:=fun args=>match args with
 | [.agg [.lst _ 27 n f, .lst _ 35 m g], .agg [.val (.bool xb), .val (.string xn), .val (.string xd)]]=>some (au 3 n f&&au 6 m g&&T.sf n (af 3 n f) m (af 6 m g) xb xn xd, .tup [.agg [.val (.slice none 0 0), .val (.slice none 0 0)], .val (.int .i64 2)])
 | _=>none
theorem v8:bb Tryz.prog (oe aW ad):=(((aH _).add Kb).add oz).add nv
theorem yO {q:Rat} :ad.sq q≤0↔¬ 0 < q:=by
 show ij q 0≤0↔_
 unfold ij
 have this:q < 0→¬ 0 < q:=by grind
 split
 ·rename_i h
  exact ⟨fun _=>this h,fun _=>by omega⟩
 ·split
  ·rename_i h
   exact ⟨fun j=>by omega,fun j=>absurd h j⟩
  ·rename_i h
   exact ⟨fun _=>h,fun _=>by omega⟩
theorem Wv {n:Nat} {ts ps:List Value} (S:cW n ts n ps=true) (O:bJ n ts n ps=0) (x:Rat):(af 3 1 fun Z q=>ag 3 ts (Z+0) q)=aP 1 (aY ts x):=by
 obtain ⟨U,_⟩:=nE S
 obtain ⟨_,j,_,N⟩:=nm O
 obtain ⟨G,_⟩:=cm (U 0 j)
 obtain ⟨I,J,M⟩:=sr G (ss (N 0 j)).1
 show [ts.getD (0*3+0) undef,ts.getD (0*3+1) undef,ts.getD (0*3+2) undef]=u6 (qt ts 0)
 unfold u6 qt
 rw [← I,← J,← M]
theorem acO (n:Nat) (ts:List Value) (m:Nat) (ps:List Value) (xb:Bool) (xn xd:BA) (l1:ts.length=n*3) (l2:ps.length=m*6) (j:pD n ts m ps xb xn xd=true):
  ∃ (E:Env) (v:AV),bb Tryz.prog E.C∧cL Tryz.prog E∧aD Tryz.prog E 10 10 16 [bH n ts m ps,w3 xb xn xd]=some v∧bu v (.tup [bH n (aP n (aY ts (ad.qv xb xn xd))) m ps, .val (.int .i64 0)]):=by
 unfold pD at j
 rw [Bool.and_eq_true,decide_eq_true_eq] at j
 obtain ⟨j,a0⟩:=j
 obtain ⟨k1,I,G,S⟩:=ow j
 obtain ⟨rfl,a2,a3,_⟩:=nm G
 obtain ⟨a4,M⟩:=nE k1
 have U:=tQ k1 G
 have O:¬ ad.sq (ad.qv xb xn xd)≤0:=fun h=>yO.1 h a0
 have J:=Wv k1 G (ad.qv xb xn xd)
 by_cases Z:n=1
 ·subst Z
  refine ⟨⟨oe aW ad,fun _=>false,aq⟩, .tup [.agg [.lst true 27 1 (fun a1 q=>ag 3 ts (a1+0) q), .lst false 35 1 (ag 6 ps)], .val (.int .i64 0)],v8,aK, ?_, ?_⟩
  ·rw [OS,bc l1,bc l2,show aW.ko 1 ts 1 ps=true from k1,dT (show aW.ck 1 ts 1 ps=0 from G),cy I,dT S,dF O,Be l2 M,ov]
   rfl
  ·refine bu.tup (ba.cons (bu.agg (ba.cons ?_ (ba.refl _))) (ba.refl _))
   rw [← J]
   exact bu.row (by kernel_rfl) (List.all_eq_true.2 fun i _=>rfl)
 ·obtain ⟨p,rfl⟩:∃ p,n=p+2:= ⟨n - 2,by omega⟩
  have N:uK 1 (p+2) (ag 3 ts) (p+2) (ag 6 ps) xb xn xd ps (aP 1 (aY ts (ad.qv xb xn xd))) (p+2) (p+2) ts (p+2) ps:= ⟨rfl,rfl,by omega,rfl,U,I⟩
  have ab:=(MG _ _ _ _ _ _ _ _ _ _ _ _ _ _ _ N).2
  refine ⟨⟨oe aW ad,fun _=>false,wo sQ jU aq⟩, .tup [bH (p+2) (aP (p+2) (aY ts (ad.qv xb xn xd))) (p+2) ps, .val (.int .i64 0)],v8,(I6 aB.none).ok, ?_,bu.refl _⟩
  rw [OR,bc l1,bc l2,bn,bn,J,Nat.zero_add,show aW.ko (p+2) ts (p+2) ps=true from k1,dT (show aW.ck (p+2) ts (p+2) ps=0 from G),cy I,dT S,dF O,M1 (by omega),Be l2 M,
   Uj _ _ _ _ _ _ _ _ _ _ _ _ _ _ _ N,show (jU 1 (p+2) (ag 3 ts) (p+2) (ag 6 ps) xb xn xd ps (aP 1 (aY ts (ad.qv xb xn xd))) (p+2) (p+2) ts (p+2) ps).2=(p+2,aP (p+2) (aY ts (ad.qv xb xn xd))) from ab,
   ov,ov,dT (show 0+(p+2)*3≤(aC.vals (aP (p+2) (aY ts (ad.qv xb xn xd)))).len from by show _≤(aP _ _).length;rw [eU];omega),dT (show 0+(p+2)*6≤(aC.vals ps).len from by show _≤ps.length;omega)]
  rfl
theorem acN (n:Nat) (ts:List Value) (m:Nat) (ps:List Value) (xb:Bool) (xn xd:BA) (l1:ts.length=n*3) (l2:ps.length=m*6) (j:pb n ts m ps xb xn xd=true):
  ∃ (E:Env),bb Tryz.prog E.C∧cL Tryz.prog E∧aD Tryz.prog E 10 10 16 [bH n ts m ps,w3 xb xn xd]=some (.tup [.agg [.val (.slice none 0 0), .val (.slice none 0 0)], .val (.int .i64 2)]):=by
 unfold pb at j
 rw [Bool.and_eq_true,Bool.not_eq_true',decide_eq_false_iff_not] at j
 obtain ⟨j,O⟩:=j
 obtain ⟨k1,J,G,M⟩:=ow j
 obtain ⟨rfl,S,U,_⟩:=nm G
 have I:ad.sq (ad.qv xb xn xd)≤0:=yO.2 O
 by_cases N:n=1
 ·subst N
  refine ⟨⟨oe aW ad,fun _=>false,aq⟩,v8,aK, ?_⟩
  rw [OS,bc l1,bc l2,show aW.ko 1 ts 1 ps=true from k1,dT (show aW.ck 1 ts 1 ps=0 from G),cy J,dT M,dT I]
  rfl
 ·obtain ⟨p,rfl⟩:∃ p,n=p+2:= ⟨n - 2,by omega⟩
  refine ⟨⟨oe aW ad,fun _=>false,wo sQ jU aq⟩,v8,(I6 aB.none).ok, ?_⟩
  rw [OR,bc l1,bc l2,bn,bn,show aW.ko (p+2) ts (p+2) ps=true from k1,dT (show aW.ck (p+2) ts (p+2) ps=0 from G),cy J,dT M,dT I]
  rfl
theorem V9:Entry Tryz.prog 16 (rJ k9 ad):=by
 refine dI (by kernel_rfl) (fun args r h=> ?_)
 unfold rJ at h
 split at h
 ·rename_i fl n f S m g xb xn xd
  simp only [Option.some.injEq,Prod.mk.injEq,Bool.and_eq_true] at h
  obtain ⟨⟨⟨j,G⟩,I⟩,rfl⟩:=h
  obtain ⟨E,v,J,M,N,O⟩:=acO n _ m _ xb xn xd (bP 3 n f) (bP 6 m g) I
  exact ⟨E,10,10,_,_,J,M,N,ba.cons (fE j G) (ba.refl _),O⟩
 ·cases h
theorem V8:Entry Tryz.prog 16 (rI k9):=by
 refine dI (by kernel_rfl) (fun args r h=> ?_)
 unfold rI at h
 split at h
 ·rename_i fl n f O m g xb xn xd
  simp only [Option.some.injEq,Prod.mk.injEq,Bool.and_eq_true] at h
  obtain ⟨⟨⟨j,G⟩,I⟩,rfl⟩:=h
  obtain ⟨E,J,M,N⟩:=acN n _ m _ xb xn xd (bP 3 n f) (bP 6 m g) I
  exact ⟨E,10,10,_,_,J,M,N,ba.cons (fE j G) (ba.refl _),bu.refl _⟩
 ·cases h
end
end Go.Proofs.YtamcpiicmfielaaGreat.L
namespace Go.Proofs.YtamcpiicmfielaaGreat.L
open Go Go.V Go.RowKit Go.Proofs.YtamcpiicmfielaaGreat.Sp
open Go.Proofs (Tryz.prog)
noncomputable section
def O0:TF:=fun _=>some (false, .any)
theorem Vy {g:FuncId} :Entry Tryz.prog g O0:=fun args r h=>by cases h
end
end Go.Proofs.YtamcpiicmfielaaGreat.L
namespace Go.Proofs.YtamcpiicmfielaaGreat.L
open Go Go.V Go.RowKit Go.Proofs.YtamcpiicmfielaaGreat.Sp
open Go.Proofs (Tryz.prog)
noncomputable section
def Hw (K:Hg) (j:Qg):Env:= ⟨an 44 (bM (rG j)) (an 46 (gD (FN K j)) (an 47 (vH j) (an 45 (zj j) (an 48 (vG j) aF)))),ar,aq⟩
abbrev fk:List Bool:= [false,true,false,true,true,true]
def gU (er:Int) (i:Int) (n:Nat) (ts:List Value) (m:Nat) (ps:List Value) (zb:Bool) (zn:ByteArray) (zd:ByteArray) (j:Bool) (mn:ByteArray) (md:ByteArray):List AV:=av 58 [(1, .ptr 0 0),(2, .ptr 1 0),(3, .val (.int .i64 er)),(4, .ptr 2 0),(5, .val (.int .i64 i))]
def gE (er:Int) (i:Int) (n:Nat) (ts:List Value) (m:Nat) (ps:List Value) (zb:Bool) (zn:ByteArray) (zd:ByteArray) (j:Bool) (mn:ByteArray) (md:ByteArray):Hp:= [.row (.cells [.lst false 27 n (ag 3 ts), .lst false 35 m (ag 6 ps)]) 25 .live, .row (.cells [.val (.bool zb), .val (.string zn), .val (.string zd)]) 27 .live, .row (.cells [.val (.bool j), .val (.string mn), .val (.string md)]) 27 .live]
theorem RE:aJ Tryz.prog 11 fk=some (.loop (lb 11 fk)):=by kernel_rfl
theorem Tc:aJ Tryz.prog 11 (false :: fk)=some (lb 11 fk):=by kernel_rfl
theorem Nj (K:Hg) (j:Qg) (er:Int) (i:Int) (n:Nat) (ts:List Value) (m:Nat) (ps:List Value) (zb:Bool) (zn:ByteArray) (zd:ByteArray) (J:Bool) (mn:ByteArray) (md:ByteArray):letI a4:=(ps.getD ((i - (1:Int)).toNat*(6:Nat)+(1:Nat)) undef);letI a5:=(ps.getD ((i - (1:Int)).toNat*(6:Nat)+(2:Nat)) undef);letI a6:=(ps.getD ((i - (1:Int)).toNat*(6:Nat)+(4:Nat)) undef);letI O:=(ps.getD ((i - (1:Int)).toNat*(6:Nat)+(5:Nat)) undef);letI Z:=(ps.getD (i.toNat*(6:Nat)+(1:Nat)) undef);letI ab:=(ps.getD (i.toNat*(6:Nat)+(2:Nat)) undef);letI a0:=(ps.getD (i.toNat*(6:Nat)+(4:Nat)) undef);letI a1:=(ps.getD (i.toNat*(6:Nat)+(5:Nat)) undef);letI M:=(K.ds (j.qv (aM (ps.getD ((i - (1:Int)).toNat*(6:Nat)+(0:Nat)) undef)) (ah a4) (ah a5)) (j.qv (aM (ps.getD ((i - (1:Int)).toNat*(6:Nat)+(3:Nat)) undef)) (ah a6) (ah O)) (j.qv (aM (ps.getD (i.toNat*(6:Nat)+(0:Nat)) undef)) (ah Z) (ah ab)) (j.qv (aM (ps.getD (i.toNat*(6:Nat)+(3:Nat)) undef)) (ah a0) (ah a1)));letI S:=(ts.getD (i.toNat*(3:Nat)+(1:Nat)) undef);letI U:=(ts.getD (i.toNat*(3:Nat)+(2:Nat)) undef);letI a2:=(ts.getD ((i - (1:Int)).toNat*(3:Nat)+(1:Nat)) undef);letI a3:=(ts.getD ((i - (1:Int)).toNat*(3:Nat)+(2:Nat)) undef);letI G:=(j.qv (aM (ts.getD (i.toNat*(3:Nat)+(0:Nat)) undef)) (ah S) (ah U) - j.qv (aM (ts.getD ((i - (1:Int)).toNat*(3:Nat)+(0:Nat)) undef)) (ah a2) (ah a3));letI N:=(j.qv (j.qn G) (j.qs G) (j.qd G)*j.qv (j.qn G) (j.qs G) (j.qd G));letI I:=(j.qv (j.qn M) (j.qs M) (j.qd M) / j.qv (j.qn N) (j.qs N) (j.qd N));
  (aN Tryz.prog (Hw K j) 11 [1,2,3,4,5] (lb 11 fk) (false :: fk) (gU er i n ts m ps zb zn zd J mn md) (gE er i n ts m ps zb zn zd J mn md)=(bif decide (i < (↑n:Int)) then (bif decide ((0:Int)≤i)&&decide (i < (↑n:Int)) then (bif aj IntKind.i64 (i - (1:Int)) then (bif decide ((0:Int)≤i - (1:Int))&&decide (i - (1:Int) < (↑n:Int)) then (bif aS (ts.getD (i.toNat*(3:Nat)+(0:Nat)) undef) S U&&aS (ts.getD ((i - (1:Int)).toNat*(3:Nat)+(0:Nat)) undef) a2 a3&&(j.aL (ah S) (ah U)&&j.aL (ah a2) (ah a3)) then (bif aj IntKind.i64 (i - (1:Int)) then (bif decide ((0:Int)≤i - (1:Int))&&decide (i - (1:Int) < (↑m:Int)) then (bif decide ((0:Int)≤i)&&decide (i < (↑m:Int)) then (bif aS (ps.getD ((i - (1:Int)).toNat*(6:Nat)+(0:Nat)) undef) a4 a5&&aS (ps.getD ((i - (1:Int)).toNat*(6:Nat)+(3:Nat)) undef) a6 O&&(aS (ps.getD (i.toNat*(6:Nat)+(0:Nat)) undef) Z ab&&aS (ps.getD (i.toNat*(6:Nat)+(3:Nat)) undef) a0 a1)&&(K.ok (ah a4) (ah a5)&&K.ok (ah a6) (ah O)&&K.ok (ah Z) (ah ab)&&K.ok (ah a0) (ah a1)) then (bif j.aL (j.qs G) (j.qd G)&&j.aL (j.qs G) (j.qd G) then (bif j.aL (j.qs M) (j.qd M)&&j.aL (j.qs N) (j.qd N) then (bif j.aL (j.qs I) (j.qd I)&&j.aL mn md then (bif decide ((0:Int) < j.cq (j.qv (j.qn I) (j.qs I) (j.qd I)) (j.qv J mn md)) then (bif aj IntKind.i64 (i+(1:Int)) then some (.normal,av 58 [(1,(.ptr 0 0)),(2,(.ptr 1 0)),(3,(.val (.int .i64 er))),(4,(.ptr 2 0)),(5,(.val (.int .i64 (i+(1:Int)))))], [(.row (.cells [(.lst false 27 n (ag (3:Nat) ts)),(.lst false 35 m (ag (6:Nat) ps))]) 25 .live),(.row (.cells [(.val (.bool zb)),(.val (.string zn)),(.val (.string zd))]) 27 .live),(.row (.cells [(.val (.bool (j.qn I))),(.val (.string (j.qs I))),(.val (.string (j.qd I)))]) 27 .live)]) else none) else (bif aj IntKind.i64 (i+(1:Int)) then some (.normal,av 58 [(1,(.ptr 0 0)),(2,(.ptr 1 0)),(3,(.val (.int .i64 er))),(4,(.ptr 2 0)),(5,(.val (.int .i64 (i+(1:Int)))))], [(.row (.cells [(.lst false 27 n (ag (3:Nat) ts)),(.lst false 35 m (ag (6:Nat) ps))]) 25 .live),(.row (.cells [(.val (.bool zb)),(.val (.string zn)),(.val (.string zd))]) 27 .live),(.row (.cells [(.val (.bool J)),(.val (.string mn)),(.val (.string md))]) 27 .live)]) else none)) else none) else none) else none) else none) else none) else none) else none) else none) else none) else none) else none) else some ((.exit 0),av 58 [(1,(.ptr 0 0)),(2,(.ptr 1 0)),(3,(.val (.int .i64 er))),(4,(.ptr 2 0)),(5,(.val (.int .i64 i)))], [(.row (.cells [(.lst false 27 n (ag (3:Nat) ts)),(.lst false 35 m (ag (6:Nat) ps))]) 25 .live),(.row (.cells [(.val (.bool zb)),(.val (.string zn)),(.val (.string zd))]) 27 .live),(.row (.cells [(.val (.bool J)),(.val (.string mn)),(.val (.string md))]) 27 .live)]))):=by kernel_rfl
theorem E9 {er:Int} {i:Int} {n:Nat} {ts:List Value} {m:Nat} {ps:List Value} {zb:Bool} {zn:ByteArray} {zd:ByteArray} {j:Bool} {mn:ByteArray} {md:ByteArray} {e:Ex} {T:List AV} {H:Hp} (h:aN Tryz.prog (Hw a8 ad) 11 [1,2,3,4,5] (lb 11 fk) (false :: fk) (gU er i n ts m ps zb zn zd j mn md) (gE er i n ts m ps zb zn zd j mn md)=some (e,T,H)):V.Ends Tryz.prog false 0 0 (lb 11 fk) (gU er i n ts m ps zb zn zd j mn md) (gE er i n ts m ps zb zn zd j mn md) e T H:=
 bw ((((((aH _).add xw).add Kh).add td).add V0.gD).add tg.bM) aK mixed Tc h
theorem Ve {ps:List Value} (j:Nat):a8.ds (px ps j) (py ps j) (px ps (j+1)) (py ps (j+1))=ft ps j:=by
 show (px ps j - px ps (j+1))*(px ps j - px ps (j+1))+(py ps j - py ps (j+1))*(py ps j - py ps (j+1))=(px ps (j+1) - px ps j)*(px ps (j+1) - px ps j)+(py ps (j+1) - py ps j)*(py ps (j+1) - py ps j)
 grind
section
variable {er : Int} {zb : Bool} {zn zd : BA} {n : Nat} {ts ps : List Value}
theorem aa8 (h:c9 n ts n ps) (j:Nat) (J:j+1 < n):V.Ends Tryz.prog false 0 0 (lb 11 fk) (gU er ((j+1:Nat):Int) n ts n ps zb zn zd (ad.qn (aV ts ps j)) (ad.qs (aV ts ps j)) (ad.qd (aV ts ps j))) (gE er ((j+1:Nat):Int) n ts n ps zb zn zd (ad.qn (aV ts ps j)) (ad.qs (aV ts ps j)) (ad.qd (aV ts ps j))) .normal (gU er ((j+1+1:Nat):Int) n ts n ps zb zn zd (ad.qn (aV ts ps (j+1))) (ad.qs (aV ts ps (j+1))) (ad.qd (aV ts ps (j+1)))) (gE er ((j+1+1:Nat):Int) n ts n ps zb zn zd (ad.qn (aV ts ps (j+1))) (ad.qs (aV ts ps (j+1))) (ad.qd (aV ts ps (j+1)))):=by
 have bx:=h.ts.ai
 obtain ⟨M,N⟩:=cm (h.ts.ok j (by omega))
 obtain ⟨O,S⟩:=cm (h.ts.ok (j+1) J)
 obtain ⟨⟨U,Z⟩,ab,a0⟩:=cY (h.dh j (by omega))
 obtain ⟨⟨a1,a2⟩,a3,a4⟩:=cY (h.dh (j+1) J)
 obtain ⟨bD,b0,b1,b2,b3,b4⟩:=vk h J
 have b5:=CY h j (by omega)
 have G:=Nj a8 ad er ((j+1:Nat):Int) n ts n ps zb zn zd (ad.qn (aV ts ps j)) (ad.qs (aV ts ps j)) (ad.qd (aV ts ps j))
 have a5:((j+1:Nat):Int) - 1=(j:Int):=by omega
 have a6:(qt ts (j+1) - qt ts j)*(qt ts (j+1) - qt ts j)=fq ts j:=rfl
 simp only [a5,Int.toNat_natCast,kT,yA,yB,gT,Ve,a6] at G
 rw [dT (show ((j+1:Nat):Int) < (n:Int) by omega),dT (show (0:Int)≤((j+1:Nat):Int) by omega),aO (z:=(j:Int)) (by omega),dT (show (0:Int)≤(j:Int) by omega),dT (show (j:Int) < (n:Int) by omega),M,cz N,O,cz S,U,Z,ab,a0,a1,a2,a3,a4,
  dz (q:=qt ts (j+1) - qt ts j) (by omega),dz (q:=ft ps j) (by omega),dz (q:=fq ts j) (by omega),dz (q:=ft ps j / fq ts j) (by omega),dz (q:=aV ts ps j) (by omega),aO (z:=((j+1:Nat):Int)+1) (by omega)] at G
 by_cases I:aV ts ps j < ft ps j / fq ts j
 ·rw [dT (xp.2 I)] at G
  have em:aV ts ps (j+1)=ft ps j / fq ts j:=if_pos I
  rw [em]
  exact E9 G
 ·rw [dF (fun a7=>I (xp.1 a7))] at G
  have em:aV ts ps (j+1)=aV ts ps j:=if_neg I
  rw [em]
  exact E9 G
theorem aa7 (h:c9 n ts n ps) (k:Nat):∀ j,n=j+1+k→aw Tryz.prog (lb 11 fk) (gU er ((j+1:Nat):Int) n ts n ps zb zn zd (ad.qn (aV ts ps j)) (ad.qs (aV ts ps j)) (ad.qd (aV ts ps j))) (gE er ((j+1:Nat):Int) n ts n ps zb zn zd (ad.qn (aV ts ps j)) (ad.qs (aV ts ps j)) (ad.qd (aV ts ps j))) (.exit 0) (gU er (n:Int) n ts n ps zb zn zd (ad.qn (aV ts ps (n - 1))) (ad.qs (aV ts ps (n - 1))) (ad.qd (aV ts ps (n - 1)))) (gE er (n:Int) n ts n ps zb zn zd (ad.qn (aV ts ps (n - 1))) (ad.qs (aV ts ps (n - 1))) (ad.qd (aV ts ps (n - 1)))):=by
 induction k with
 | zero=>
  intro j G
  have:n=j+1:=by omega
  subst this
  refine .last (E9 ?_) (by intro h;cases h)
  rw [Nj,dF (show ¬ ((j+1:Nat):Int) < ((j+1:Nat):Int) by omega)]
  rfl
 | succ k I=>
  intro j G
  exact .more (aa8 h j (by omega)) (I (j+1) (by omega))
end
def uG (er:Int) (i:Int) (n:Nat) (ts:List Value) (m:Nat) (ps:List Value) (zb:Bool) (zn zd:BA) (j:Bool) (mn md:BA):Prop:=i=1∧n=m∧j=ad.qn 0∧mn=ad.qs 0∧md=ad.qd 0∧c9 n ts m ps
def DC (er:Int) (i:Int) (n:Nat) (ts:List Value) (m:Nat) (ps:List Value) (zb:Bool) (zn zd:BA) (j:Bool) (mn md:BA) (ρ:Int×Bool×BA×BA):Prop:=ρ.2=(ad.qn (aV ts ps (n - 1)),ad.qs (aV ts ps (n - 1)),ad.qd (aV ts ps (n - 1)))
theorem Ya (er:Int) (i:Int) (n:Nat) (ts:List Value) (m:Nat) (ps:List Value) (zb:Bool) (zn zd:BA) (j:Bool) (mn md:BA) (h:uG er i n ts m ps zb zn zd j mn md):∃ ρ:Int×Bool×BA×BA,aw Tryz.prog (lb 11 fk) (gU er i n ts m ps zb zn zd j mn md) (gE er i n ts m ps zb zn zd j mn md) (.exit 0) (gU er ρ.1 n ts m ps zb zn zd ρ.2.1 ρ.2.2.1 ρ.2.2.2) (gE er ρ.1 n ts m ps zb zn zd ρ.2.1 ρ.2.2.1 ρ.2.2.2)∧DC er i n ts m ps zb zn zd j mn md ρ:=by
 obtain ⟨rfl,rfl,rfl,rfl,rfl,G⟩:=h
 have I:=G.pos
 exact ⟨((n:Int),_,_,_),aa7 G (n - 1) 0 (by omega),rfl⟩
def Gr (M:Int→Int→Nat→List Value→Nat→List Value→Bool→ByteArray→ByteArray→Bool→ByteArray→ByteArray→Bool) (J:Int→Int→Nat→List Value→Nat→List Value→Bool→ByteArray→ByteArray→Bool→ByteArray→ByteArray→Int×Bool×ByteArray×ByteArray) (T:List AV) (H:Hp):Option (Bool×Ex×List AV×Hp):=
 match al T 1,al T 2,al T 3,al T 4,al T 5,H with
 | .ptr 0 0, .ptr 1 0, .val (.int .i64 er), .ptr 2 0, .val (.int .i64 i), [.row (.cells [.lst false 27 n G, .lst false 35 m j]) 25 .live, .row (.cells [.val (.bool zb), .val (.string zn), .val (.string zd)]) 27 .live, .row (.cells [.val (.bool I), .val (.string mn), .val (.string md)]) 27 .live]=>bif T.length==58 then some (au 3 n G&&au 6 m j&&M er i n (af 3 n G) m (af 6 m j) zb zn zd I mn md, .exit 0,gU er ((J er i n (af 3 n G) m (af 6 m j) zb zn zd I mn md).1) n (af 3 n G) m (af 6 m j) zb zn zd ((J er i n (af 3 n G) m (af 6 m j) zb zn zd I mn md).2.1) ((J er i n (af 3 n G) m (af 6 m j) zb zn zd I mn md).2.2.1) ((J er i n (af 3 n G) m (af 6 m j) zb zn zd I mn md).2.2.2),gE er ((J er i n (af 3 n G) m (af 6 m j) zb zn zd I mn md).1) n (af 3 n G) m (af 6 m j) zb zn zd ((J er i n (af 3 n G) m (af 6 m j) zb zn zd I mn md).2.1) ((J er i n (af 3 n G) m (af 6 m j) zb zn zd I mn md).2.2.1) ((J er i n (af 3 n G) m (af 6 m j) zb zn zd I mn md).2.2.2)) else none
 | _,_,_,_,_,_=>none
abbrev IF:Type:=Int→Int→Nat→List Value→Nat→List Value→Bool→ByteArray→ByteArray→Bool→ByteArray→ByteArray→Bool
abbrev H7:Type:=Int→Int→Nat→List Value→Nat→List Value→Bool→ByteArray→ByteArray→Bool→ByteArray→ByteArray→Int×Bool×ByteArray×ByteArray
def wk (j:IF) (G:H7) (L:aE):aE:=bp 0 11 fk [1,2,3,4,5] (Gr j G) L
def gQ (er:Int) (i:Int) (n:Nat) (ts:List Value) (m:Nat) (ps:List Value) (zb:Bool) (zn:ByteArray) (zd:ByteArray) (j:Bool) (mn:ByteArray) (md:ByteArray):Int×Bool×ByteArray×ByteArray:=Classical.epsilon fun ρ=>aw Tryz.prog (lb 11 fk) (gU er i n ts m ps zb zn zd j mn md) (gE er i n ts m ps zb zn zd j mn md) (.exit 0) (gU er (ρ.1) n ts m ps zb zn zd (ρ.2.1) (ρ.2.2.1) (ρ.2.2.2)) (gE er (ρ.1) n ts m ps zb zn zd (ρ.2.1) (ρ.2.2.1) (ρ.2.2.2))∧DC er i n ts m ps zb zn zd j mn md ρ
theorem MB (er:Int) (i:Int) (n:Nat) (ts:List Value) (m:Nat) (ps:List Value) (zb:Bool) (zn:ByteArray) (zd:ByteArray) (j:Bool) (mn:ByteArray) (md:ByteArray) (h:uG er i n ts m ps zb zn zd j mn md):aw Tryz.prog (lb 11 fk) (gU er i n ts m ps zb zn zd j mn md) (gE er i n ts m ps zb zn zd j mn md) (.exit 0) (gU er ((gQ er i n ts m ps zb zn zd j mn md).1) n ts m ps zb zn zd ((gQ er i n ts m ps zb zn zd j mn md).2.1) ((gQ er i n ts m ps zb zn zd j mn md).2.2.1) ((gQ er i n ts m ps zb zn zd j mn md).2.2.2)) (gE er ((gQ er i n ts m ps zb zn zd j mn md).1) n ts m ps zb zn zd ((gQ er i n ts m ps zb zn zd j mn md).2.1) ((gQ er i n ts m ps zb zn zd j mn md).2.2.1) ((gQ er i n ts m ps zb zn zd j mn md).2.2.2))∧DC er i n ts m ps zb zn zd j mn md (gQ er i n ts m ps zb zn zd j mn md):=Classical.epsilon_spec (Ya er i n ts m ps zb zn zd j mn md h)
def sO (er:Int) (i:Int) (n:Nat) (ts:List Value) (m:Nat) (ps:List Value) (zb:Bool) (zn:ByteArray) (zd:ByteArray) (j:Bool) (mn:ByteArray) (md:ByteArray):Bool:= @decide (uG er i n ts m ps zb zn zd j mn md) (Classical.propDecidable _)
theorem Ud (er:Int) (i:Int) (n:Nat) (ts:List Value) (m:Nat) (ps:List Value) (zb:Bool) (zn:ByteArray) (zd:ByteArray) (j:Bool) (mn:ByteArray) (md:ByteArray) (h:uG er i n ts m ps zb zn zd j mn md):sO er i n ts m ps zb zn zd j mn md=true:= @decide_eq_true _ (Classical.propDecidable _) h
theorem adF (T:List AV) (H:Hp) (e:Ex) (I:List AV) (G:Hp) (h:Gr sO gQ T H=some (true,e,I,G)):V.Ends Tryz.prog false 0 0 (.loop (lb 11 fk)) T H e I G:=by
 unfold Gr at h
 split at h
 ·rename_i er i n O m N zb zn zd a6 mn md S U Z ab a0
  rw [Bool.cond_eq_ite] at h
  split at h
  ·rename_i J
   rw [beq_iff_eq] at J
   simp only [Option.some.injEq,Prod.mk.injEq,Bool.and_eq_true,decide_eq_true_eq] at h
   obtain ⟨⟨⟨k1,a3⟩,a4⟩,rfl,rfl,rfl⟩:=h
   have a5:= @of_decide_eq_true _ (Classical.propDecidable _) a4
   refine Ends.pre (Ends.cS (MB er i n (af 3 n O) m (af 6 m N) zb zn zd a6 mn md a5).1.ends (aT.cons ⟨⟨rfl,fun _ _ _ _ _ a1=>ei (by kernel_rfl) (by kernel_rfl) k1 a3 a1⟩,rfl,rfl⟩ (aT.cons (bI.refl _) (aT.cons (bI.refl _) aT.nil)))) (fun α B w D a7 a2=>bm J (fun p M y j=> ?_) a2)
   simp only [List.mem_cons,List.not_mem_nil,or_false] at M
   rcases M with rfl | rfl | rfl | rfl | rfl
   ·rw [S] at j;exact j
   ·rw [U] at j;exact j
   ·rw [Z] at j;exact j
   ·rw [ab] at j;exact j
   ·rw [a0] at j;exact j
  ·cases h
 ·cases h
theorem Qv {L:aE} (h:aB Tryz.prog L):aB Tryz.prog (wk sO gQ L):=h.br RE adF
theorem abd (C:Cg) (J:IF) (M:H7) (n:Nat) (ts:List Value) (m:Nat) (ps:List Value):letI j:=(af (3:Nat) n (ag (3:Nat) ts));letI G:=(af (6:Nat) m (ag (6:Nat) ps));letI I:=(M (0:Int) (1:Int) n j m G false (ByteArray.mk #[]) (ByteArray.mk #[]) false (ByteArray.mk #[]) (ByteArray.mk #[]));
  (aD Tryz.prog ⟨an 19 (eE C) aF,ar,wk J M aq⟩ 10 10 11 [bH n ts m ps]=(bif au (3:Nat) n (ag (3:Nat) ts)&&au (6:Nat) m (ag (6:Nat) ps)&&C.ko n j m G then (bif !decide (C.ck n j m G=(0:Int)) then some (.tup [(.agg [(.val (.bool false)),(.val (.string (ByteArray.mk #[]))),(.val (.string (ByteArray.mk #[])))]),(.val (.int .i64 1))]) else (bif au (3:Nat) n (ag (3:Nat) ts)&&au (6:Nat) m (ag (6:Nat) ps)&&J (0:Int) (1:Int) n j m G false (ByteArray.mk #[]) (ByteArray.mk #[]) false (ByteArray.mk #[]) (ByteArray.mk #[]) then some (.tup [(.agg [(.val (.bool (I.snd.fst))),(.val (.string (I.snd.snd.fst))),(.val (.string (I.snd.snd.snd)))]),(.val (.int .i64 0))]) else none)) else none)):=by kernel_rfl
theorem abe (n:Nat) (ts:List Value) (m:Nat) (ps:List Value) (l1:ts.length=n*3) (l2:ps.length=m*6) (J:cW n ts m ps=true):
  aD Tryz.prog ⟨an 19 (eE aW) aF,ar,wk sO gQ aq⟩ 10 10 11 [bH n ts m ps]=some (.tup [ad.rat (dg.sv n ts m ps), .val (.int .i64 (dg.se n ts m ps))]):=by
 rw [abd,bc l1,bc l2,bn,bn,show aW.ko n ts m ps=true from J]
 by_cases h:bJ n ts m ps=0
 ·have I:=tQ J h
  have G:dg.sv n ts m ps=aV ts ps (n - 1):=if_pos h
  have j:dg.se n ts m ps=0:=if_pos h
  have M:uG 0 1 n ts m ps false (ByteArray.mk #[]) (ByteArray.mk #[]) false (ByteArray.mk #[]) (ByteArray.mk #[]):= ⟨rfl,I.eq,uY.symm,u5.symm,uX.symm,I⟩
  have N:=(MB _ _ _ _ _ _ _ _ _ _ _ _ M).2
  rw [dT (show aW.ck n ts m ps=0 from h),Ud _ _ _ _ _ _ _ _ _ _ _ _ M,G,j]
  rw [show (gQ 0 1 n ts m ps false (ByteArray.mk #[]) (ByteArray.mk #[]) false (ByteArray.mk #[]) (ByteArray.mk #[])).2=(ad.qn (aV ts ps (n - 1)),ad.qs (aV ts ps (n - 1)),ad.qd (aV ts ps (n - 1))) from N]
  rfl
 ·have G:dg.sv n ts m ps=0:=if_neg h
  have j:dg.se n ts m ps=1:=if_neg h
  rw [dF (show ¬ aW.ck n ts m ps=0 from h),G,j,nO];rfl
theorem B3:Entry Tryz.prog 11 (rH aW dg ad):=by
 refine dI (by kernel_rfl) (fun args r h=> ?_)
 unfold rH at h
 split at h
 ·rename_i fl n f J m g
  simp only [Option.some.injEq,Prod.mk.injEq,Bool.and_eq_true] at h
  obtain ⟨⟨⟨j,G⟩,I⟩,rfl⟩:=h
  exact ⟨⟨an 19 (eE aW) aF,ar,wk sO gQ aq⟩,10,10,_,_,(aH _).add qo,(Qv aB.none).ok,abe n _ m _ (bP 3 n f) (bP 6 m g) I,ba.cons (fE j G) (ba.refl _),bu.refl _⟩
 ·cases h
end
end Go.Proofs.YtamcpiicmfielaaGreat.L
