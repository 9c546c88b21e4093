import Derived.Below
import Derived.Tactics
import Derived.Laws.BytesArg
import Derived.Lib.ConvBytes
import Derived.Laws.Slices
import Derived.Lib.Bytes
import Derived.Laws.BitsAllLaws
import Derived.Laws.Bits64
import Derived.KernelRfl
import Derived.RowKit
set_option linter.unusedVariables false
set_option linter.unusedSimpArgs false
namespace Go.Proofs.YtamcpiicmfielaaGreatW.PrintMore
end Go.Proofs.YtamcpiicmfielaaGreatW.PrintMore
namespace Go.Proofs.YtamcpiicmfielaaGreatW.PrintWords
open Go.RowKit
structure dQ (p:Prop):Prop where mk :: (out:p)
def rd (G:List Int) (i:Int):Int:=G.getD i.toNat 0
def bt (s:ByteArray) (i:Int):Int:=if h:i.toNat < s.size then ((s[i.toNat]'h).toNat:Int) else 0
def bu {α:Type} (a b:Option α):Prop:=∀ r,a=some r→b=some r
theorem bu.refl {α:Type} (a:Option α):bu a a:=fun _ h=>h
theorem bu.none {α:Type} (b:Option α):bu Option.none b:=fun _ h=>by cases h
theorem bu.trans {α:Type} {a b c:Option α} (h:bu a b) (k:bu b c):bu a c:=fun r G=>k r (h r G)
theorem bu.ite {α:Type} {c:Prop} [Decidable c] {a G b I:Option α} (h:bu a G) (k:bu b I):bu (if c then a else b) (if c then G else I):=by
 split
 ·exact h
 ·exact k
theorem bu.bind {α β:Type} {a G:Option α} {f I:α→Option β} (h:bu a G) (k:∀ x,bu (f x) (I x)):bu (a.bind f) (G.bind I):=by
 intro r M
 obtain ⟨x,O,J⟩:=Option.bind_eq_some_iff.1 M
 exact Option.bind_eq_some_iff.2 ⟨x,h x O,k x r J⟩
theorem Nn {α:Type} {g:Nat→Option α} (h:∀ k,bu (g k) (g (k+1))) (k:Nat):∀ j,bu (g k) (g (k+j))
 | 0=>bu.refl _
 | j+1=>(Nn h k j).trans (h (k+j))
theorem Cz {α:Type} {g:Nat→Option α} (h:∀ k,bu (g k) (g (k+1))) {k G:Nat} (I:k≤G) {r:α} (J:g k=some r):g G=some r:=by
 have:=Nn h k (G - k) r J
 rwa [Nat.add_sub_cancel' I] at this
def shl (k:IntKind) (x y:Int):Int:=k.wrap (x*2 ^ min y.toNat k.bits)
def shr (k:IntKind) (x y:Int):Int:=x / 2 ^ min y.toNat k.bits
end Go.Proofs.YtamcpiicmfielaaGreatW.PrintWords
namespace Go.Proofs.YtamcpiicmfielaaGreat.F
open Go.RowKit Go.Proofs.YtamcpiicmfielaaGreatW.PrintWords Go.Proofs.YtamcpiicmfielaaGreatW.PrintMore
def cQ.l0:Nat→ByteArray→Option (ByteArray)
 | 0,_=>none
 | k+1,G=>if G.toList=([]:List UInt8) then (some G) else (if 0 < (G.size:Int) then (if (bt G 0)=0 then (if 1≤(G.size:Int) then (cQ.l0 k (G.extract 1 G.size)) else (none)) else (some G)) else (none))
def cQ.f (k:Nat) (G:ByteArray):Option (ByteArray):=cQ.l0 k G
theorem cQ.uN:∀ k,(∀ G,bu (cQ.l0 k G) (cQ.l0 (k+1) G))
 | 0=>fun _ r h=>by simp [cQ.l0] at h
 | k+1=>by
  have I:=cQ.uN k
  ·intro G
   unfold cQ.l0
   repeat' first
   | (with_reducible exact I _)
   | (with_reducible exact bu.refl _)
   | (with_reducible exact bu.none _)
   | (with_reducible refine bu.ite ?_ ?_)
   | (with_reducible refine bu.bind ?_ (fun _=> ?_))
   | exact I _
   | exact bu.none _
   | refine bu.ite ?_ ?_
   | refine bu.bind ?_ (fun _=> ?_)
theorem cQ.mono:∀ G k,bu (cQ.f k G) (cQ.f (k+1) G):=by
 intro G k
 have I:=cQ.uN k
 unfold cQ.f
 repeat' first
   | (with_reducible exact I _)
   | (with_reducible exact bu.refl _)
   | (with_reducible exact bu.none _)
   | (with_reducible refine bu.ite ?_ ?_)
   | (with_reducible refine bu.bind ?_ (fun _=> ?_))
   | exact I _
   | exact bu.none _
   | refine bu.ite ?_ ?_
   | refine bu.bind ?_ (fun _=> ?_)
def dv.l0:Nat→ByteArray→List Int→Int→Int→Option (List Int)
 | 0,_,_,_,_=>none
 | k+1,I,x3,J,G=>if G < J then (if 0≤(wrap64 (Int.tdiv G 4)) then (if (wrap64 (Int.tdiv G 4)) < (x3.length:Int) then (if 0≤(wrap64 ((wrap64 ((I.size:Int) - 1)) - G)) then (if (wrap64 ((wrap64 ((I.size:Int) - 1)) - G)) < (I.size:Int) then (if 0≤(wrap64 (8*(Int.tmod G 4))) then (dv.l0 k I (x3.set ((wrap64 (Int.tdiv G 4)):Int).toNat (Go.bits .or .u32 (rd x3 (wrap64 (Int.tdiv G 4))) (shl .u32 ((bt I (wrap64 ((wrap64 ((I.size:Int) - 1)) - G))) % 4294967296) (wrap64 (8*(Int.tmod G 4)))))) J (wrap64 (G+1))) else (none)) else (none)) else (none)) else (none)) else (none)) else (some x3)
def dv.f (k:Nat) (I:ByteArray):Option (List Int):=(cQ.f k I).bind fun G=>(if 0≤(wrap64 (Int.tdiv (wrap64 ((wrap64 ((G.size:Int)+4)) - 1)) 4)) then (if (wrap64 (Int.tdiv (wrap64 ((wrap64 ((G.size:Int)+4)) - 1)) 4):Int).toNat≤70368744177664 then (dv.l0 k G (List.replicate (wrap64 (Int.tdiv (wrap64 ((wrap64 ((G.size:Int)+4)) - 1)) 4):Int).toNat 0) (G.size:Int) 0) else (none)) else (none))
theorem dv.uN:∀ k,(∀ G I J M,bu (dv.l0 k G I J M) (dv.l0 (k+1) G I J M))
 | 0=>fun _ _ _ _ r h=>by simp [dv.l0] at h
 | k+1=>by
  have O:=dv.uN k
  ·intro G I J M
   unfold dv.l0
   repeat' first
   | (with_reducible exact O _ _ _ _)
   | (with_reducible exact cQ.mono _ _)
   | (with_reducible exact bu.refl _)
   | (with_reducible exact bu.none _)
   | (with_reducible refine bu.ite ?_ ?_)
   | (with_reducible refine bu.bind ?_ (fun _=> ?_))
   | exact O _ _ _ _
   | exact cQ.mono _ _
   | exact bu.none _
   | refine bu.ite ?_ ?_
   | refine bu.bind ?_ (fun _=> ?_)
theorem dv.mono:∀ G k,bu (dv.f k G) (dv.f (k+1) G):=by
 intro G k
 have I:=dv.uN k
 unfold dv.f
 repeat' first
   | (with_reducible exact I _ _ _ _)
   | (with_reducible exact cQ.mono _ _)
   | (with_reducible exact bu.refl _)
   | (with_reducible exact bu.none _)
   | (with_reducible refine bu.ite ?_ ?_)
   | (with_reducible refine bu.bind ?_ (fun _=> ?_))
   | exact I _ _ _ _
   | exact cQ.mono _ _
   | exact bu.none _
   | refine bu.ite ?_ ?_
   | refine bu.bind ?_ (fun _=> ?_)
def CF.f (G I J:Int):Option (Int×Int):=some ((((G - I) % 4294967296) - J) % 4294967296,(Go.bits .or .u32 (Go.bits .and .u32 (Go.bits .xor .u32 4294967295 G) I) (Go.bits .and .u32 (Go.bits .xor .u32 4294967295 (Go.bits .xor .u32 G I)) ((((G - I) % 4294967296) - J) % 4294967296))) / 2147483648)
end Go.Proofs.YtamcpiicmfielaaGreat.F
namespace Go.Proofs.YtamcpiicmfielaaGreat.Sp
open Go.RowKit
def vB (l:List UInt8):Nat:=l.foldl (fun n c=>n*256+c.toNat) 0
theorem AJ:vB []=0:=rfl
theorem wP (l:List UInt8) (c:UInt8):vB (l ++ [c])=vB l*256+c.toNat:=by simp [vB,List.foldl_append]
theorem L7 (l:List UInt8):∀ a:Nat,l.foldl (fun n c=>n*256+c.toNat) a=a*256 ^ l.length+vB l:=by
 induction l with
 | nil=>intro a;simp [vB]
 | cons c l G=>
  intro a
  rw [vB,List.foldl_cons,List.foldl_cons,G,G (0*256+c.toNat),List.length_cons,Nat.pow_succ]
  simp only [Nat.add_mul,Nat.zero_mul,Nat.zero_add,Nat.mul_assoc,Nat.mul_comm 256]
  omega
theorem lJ (c:UInt8) (l:List UInt8):vB (c :: l)=c.toNat*256 ^ l.length+vB l:=by
 rw [vB,List.foldl_cons,L7];simp
theorem Ia (l m:List UInt8):vB (l ++ m)=vB l*256 ^ m.length+vB m:=by
 rw [vB,List.foldl_append,L7];rfl
theorem oW (l:List UInt8):vB l < 256 ^ l.length:=by
 induction l with
 | nil=>simp [vB]
 | cons c l G=>
  rw [lJ,List.length_cons,Nat.pow_succ]
  have:=c.toNat_lt
  have h:c.toNat*256 ^ l.length≤255*256 ^ l.length:=Nat.mul_le_mul_right _ (by omega)
  omega
def toB (n:Nat):List UInt8:=if h:n=0 then [] else toB (n / 256) ++ [UInt8.ofNat n]
termination_by n
decreasing_by omega
theorem toB_zero:toB 0= []:=by rw [toB];simp
theorem toB_pos {n:Nat} (h:n≠0):toB n=toB (n / 256) ++ [UInt8.ofNat n]:=by rw [toB,dif_neg h]
theorem AK (n:Nat):vB (toB n)=n:=by
 induction n using Nat.strongRecOn with
 | _ n G=>
  by_cases h:n=0
  ·subst h;rw [toB_zero];rfl
  ·rw [toB_pos h,wP,G _ (by omega)]
   have:(UInt8.ofNat n).toNat=n % 256:=by simp [UInt8.toNat_ofNat']
   omega
def ra:List UInt8→Prop
 | []=>True
 | c :: _=>c≠0
theorem Q3 {l:List UInt8} (h:ra l) (I:l≠ []):0 < vB l:=by
 cases l with
 | nil=>exact absurd rfl I
 | cons c l=>
  rw [lJ]
  have G:0 < c.toNat:=Nat.pos_of_ne_zero (fun e=>h (UInt8.toNat_inj.1 (by simpa using e)))
  have:=Nat.mul_pos G (Nat.pow_pos (n:=l.length) (by decide:0 < 256))
  omega
theorem abS (a:Nat) (c:UInt8):UInt8.ofNat (a*256+c.toNat)=c:=by
 apply UInt8.toNat_inj.1
 simp
theorem toB_of_lead (l:List UInt8) (h:ra l):toB (vB l)=l:=by
 induction I:l.length generalizing l with
 | zero=>rw [List.length_eq_zero_iff.1 I,AJ,toB_zero]
 | succ n U=>
  have G:l≠ []:=fun e=>by rw [e] at I;simp at I
  have e:=List.dropLast_concat_getLast G
  have Z:=Q3 h G
  rw [toB_pos (by omega)]
  have M:ra l.dropLast:=by
   cases l with
   | nil=>exact absurd rfl G
   | cons c l=>
    cases l with
    | nil=>exact True.intro
    | cons d l=>exact h
  have O:vB l=vB l.dropLast*256+(l.getLast G).toNat:=by rw [← wP,e]
  have J:vB l / 256=vB l.dropLast:=by have:=(l.getLast G).toNat_lt;omega
  rw [J,U l.dropLast M (by simp [I]),O,abS,e]
theorem yQ {n m : Nat} (h : n < 256 ^ m) : (toB n).length ≤ m := by
  induction m generalizing n with
  | zero => have : n = 0 := by simpa using h
            rw [this, toB_zero]; simp
  | succ m I =>
    by_cases G : n = 0
    · rw [G, toB_zero]; simp
    · rw [toB_pos G, List.length_append]
      have := I (n := n / 256) (by rw [Nat.pow_succ] at h; omega)
      simp; omega
theorem Nh {n m:Nat} (h:(toB n).length≤m):n < 256 ^ m:=by
 have G:=oW (toB n)
 rw [AK] at G
 exact Nat.lt_of_lt_of_le G (Nat.pow_le_pow_right (by decide) h)
theorem ZM {n m:Nat} (h:m < (toB n).length):256 ^ m≤n:=by
 rcases Nat.lt_or_ge n (256 ^ m) with G | G
 ·have:=yQ G;omega
 ·exact G
def oR (l:List UInt8):List UInt8:=l.dropWhile (· ==0)
theorem ahg (l:List UInt8):vB (oR l)=vB l:=by
 induction l with
 | nil=>rfl
 | cons c l I=>
  unfold oR at*
  rw [List.dropWhile_cons]
  split
  ·rename_i G
   have:c=0:=by simpa using G
   rw [I,lJ,this];simp
  ·rfl
theorem ZO (l:List UInt8):ra (oR l):=by
 induction l with
 | nil=>exact True.intro
 | cons c l I=>
  unfold oR at*
  rw [List.dropWhile_cons]
  split
  ·exact I
  ·rename_i G
   exact fun e=>G (by simpa using e)
theorem toB_vB (l:List UInt8):toB (vB l)=oR l:=by rw [← ahg,toB_of_lead _ (ZO l)]
def aA (n:Nat):ByteArray:= ⟨(toB n).toArray⟩
def vS (s:ByteArray):Nat:=vB s.data.toList
theorem jC (n:Nat):vS (aA n)=n:=AK n
theorem pX (n:Nat):(aA n).data.toList=toB n:=by simp [aA]
theorem lF (n:Nat):(aA n).size=(toB n).length:=by simp [aA,ByteArray.size]
theorem lK (s:ByteArray):vS s < 256 ^ s.size:=by
 have:=oW s.data.toList
 rwa [Array.length_toList] at this
theorem aeM {n m:Nat} (h:n < 256 ^ m):(aA n).size≤m:=by rw [lF];exact yQ h
theorem nY {a b:ByteArray} (h:a.data.toList=b.data.toList):a=b:=by
 cases a;cases b;simpa using h
theorem uL (s:ByteArray) (h:ra s.data.toList):aA (vS s)=s:=by
 apply nY
 rw [pX]
 exact toB_of_lead _ h
def vL:List Int→Nat
 | []=>0
 | x :: G=>x.toNat+4294967296*vL G
def aI (l:List Int):Prop:=∀ x ∈ l,0≤x∧x < 4294967296
def toL (n:Nat):List Int:=if h:n=0 then [] else ((n % 4294967296:Nat):Int) :: toL (n / 4294967296)
termination_by n
decreasing_by omega
theorem toL_zero:toL 0= []:=by rw [toL];simp
theorem toL_pos {n:Nat} (h:n≠0):toL n=((n % 4294967296:Nat):Int) :: toL (n / 4294967296):=by rw [toL,dif_neg h]
theorem p8:aI []:=fun _ h=>by cases h
theorem na {x:Int} {l:List Int} :aI (x :: l)↔(0≤x∧x < 4294967296)∧aI l:=by simp [aI]
theorem uR {l m:List Int} :aI (l ++ m)↔aI l∧aI m:=by
 simp only [aI,List.mem_append]
 exact ⟨fun h=> ⟨fun x G=>h x (.inl G),fun x G=>h x (.inr G)⟩,fun h x G=>G.elim (h.1 x) (h.2 x)⟩
theorem oE {l:List Int} (h:aI l) (k:Nat):aI (l.take k):=fun x G=>h x (List.mem_of_mem_take G)
theorem fC {l:List Int} (h:aI l) (i:Nat) (x:Int) (I:0≤x) (J:x < 4294967296):aI (l.set i x):=fun y G=>by
 rcases List.mem_or_eq_of_mem_set G with G | rfl
 ·exact h y G
 ·exact ⟨I,J⟩
theorem lv (n:Nat):aI (List.replicate n 0):=fun x G=>by rw [(List.mem_replicate.1 G).2];omega
theorem cF:vL []=0:=rfl
theorem cj (x:Int) (l:List Int):vL (x :: l)=x.toNat+4294967296*vL l:=rfl
theorem mC (l m:List Int):vL (l ++ m)=vL l+4294967296 ^ l.length*vL m:=by
 induction l with
 | nil=>simp [vL]
 | cons x l G=>simp only [List.cons_append,cj,G,List.length_cons,Nat.pow_succ];grind
theorem dP {l:List Int} (h:aI l):vL l < 4294967296 ^ l.length:=by
 induction l with
 | nil=>simp [vL]
 | cons x l G=>
  rw [na] at h
  have:=G h.2
  rw [cj,List.length_cons,Nat.pow_succ]
  omega
theorem Ic (n:Nat):vL (List.replicate n 0)=0:=by
 induction n with
 | zero=>rfl
 | succ n G=>rw [List.replicate_succ,cj,G];simp
theorem cY (n:Nat):vL (toL n)=n:=by
 induction n using Nat.strongRecOn with
 | _ n G=>
  by_cases h:n=0
  ·subst h;rw [toL_zero];rfl
  ·rw [toL_pos h,cj,G _ (by omega)]
   omega
theorem j9 (n:Nat):aI (toL n):=by
 induction n using Nat.strongRecOn with
 | _ n G=>
  by_cases h:n=0
  ·subst h;rw [toL_zero];exact p8
  ·rw [toL_pos h,na]
   exact ⟨by omega,G _ (by omega)⟩
def Trim (l:List Int):Prop:=∀ h:l≠ [],l.getLast h≠0
theorem Q0 {x:Int} {l:List Int} (h:Trim (x :: l)):Trim l:=fun G=>by
 have:=h (by simp)
 rwa [List.getLast_cons G] at this
theorem ahh {l:List Int} (h:aI l) (I:Trim l) (J:l≠ []):0 < vL l:=by
 induction l with
 | nil=>exact absurd rfl J
 | cons x l M=>
  rw [na] at h
  rw [cj]
  by_cases G:l= []
  ·subst G
   have:=I (by simp)
   simp at this
   omega
  ·have:=M h.2 (Q0 I) G
   omega
theorem toL_vL {l:List Int} (h:aI l) (G:Trim l):toL (vL l)=l:=by
 induction l with
 | nil=>rw [cF,toL_zero]
 | cons x l M=>
  have O:=ahh h G (by simp)
  rw [toL_pos (by omega)]
  rw [na] at h
  have I:vL (x :: l) % 4294967296=x.toNat:=by rw [cj];omega
  have J:vL (x :: l) / 4294967296=vL l:=by rw [cj];omega
  rw [I,J,M h.2 (Q0 G)]
  congr 1
  omega
theorem agX:Trim []:=fun h=>absurd rfl h
theorem H8 (n:Nat):Trim (toL n):=by
 induction n using Nat.strongRecOn with
 | _ n J=>
  by_cases h:n=0
  ·subst h;rw [toL_zero];exact agX
  ·rw [toL_pos h]
   intro M
   by_cases G:n / 4294967296=0
   ·have e:toL (n / 4294967296)= []:=by rw [G,toL_zero]
    simp only [e,List.getLast_singleton]
    omega
   ·have I:toL (n / 4294967296)≠ []:=fun e=>by have:=congrArg vL e;rw [cY] at this;exact G this
    rw [List.getLast_cons I]
    exact J _ (by omega) I
theorem toL_nil_iff (n:Nat):toL n= []↔n=0:=
 ⟨fun e=>by have:=congrArg vL e;rwa [cY] at this,fun e=>by rw [e,toL_zero]⟩
theorem lk {n m : Nat} (h : n < 4294967296 ^ m) : (toL n).length ≤ m := by
  induction m generalizing n with
  | zero => have : n = 0 := by simpa using h
            rw [this, toL_zero]; simp
  | succ m I =>
    by_cases G : n = 0
    · rw [G, toL_zero]; simp
    · rw [toL_pos G, List.length_cons]
      have := I (n := n / 4294967296) (by rw [Nat.pow_succ] at h; omega)
      omega
theorem lX {n m:Nat} (h:(toL n).length≤m):n < 4294967296 ^ m:=by
 have G:=dP (j9 n)
 rw [cY] at G
 exact Nat.lt_of_lt_of_le G (Nat.pow_le_pow_right (by decide) h)
theorem MS {n m:Nat} (h:m < (toL n).length):4294967296 ^ m≤n:=by
 rcases Nat.lt_or_ge n (4294967296 ^ m) with G | G
 ·have:=lk G;omega
 ·exact G
theorem nN (l:List Int) (k:Nat) (G:k≤l.length):vL l=vL (l.take k)+4294967296 ^ k*vL (l.drop k):=by
 have e:=mC (l.take k) (l.drop k)
 rw [List.take_append_drop,List.length_take,Nat.min_eq_left G] at e
 exact e
theorem oX (l:List Int) (i:Nat) (hi:i < l.length) (x:Int):vL (l.set i x)+4294967296 ^ i*(l[i]).toNat=vL l+4294967296 ^ i*x.toNat:=by
 induction l generalizing i with
 | nil=>simp at hi
 | cons y l I=>
  cases i with
  | zero=>simp [cj];omega
  | succ i=>
   have:=I i (by simpa using hi)
   rw [List.set_cons_succ,cj,cj,Nat.pow_succ,List.getElem_cons_succ]
   have e1:4294967296 ^ i*4294967296*(l[i]'(by simpa using hi)).toNat=4294967296*(4294967296 ^ i*(l[i]'(by simpa using hi)).toNat):=by rw [Nat.mul_right_comm,Nat.mul_comm]
   have G:4294967296 ^ i*4294967296*x.toNat=4294967296*(4294967296 ^ i*x.toNat):=by rw [Nat.mul_right_comm,Nat.mul_comm]
   rw [e1,G]
   omega
end Go.Proofs.YtamcpiicmfielaaGreat.Sp
namespace Go.Proofs.YtamcpiicmfielaaGreat.Sp
open Go.RowKit Go.Proofs.YtamcpiicmfielaaGreatW.PrintWords Go.Proofs.YtamcpiicmfielaaGreatW.PrintMore
theorem wR {n:Int} (G: -9223372036854775808≤n) (I:n≤9223372036854775807):wrap64 n=n:=by unfold wrap64;omega
theorem H9 {n:Int} (G:0≤n) (I:n < 18446744073709551616):IntKind.u64.wrap n=n:=by rw [IntKind.wrap_u64];omega
theorem adh {l:List Int} {i:Int} (h:i.toNat < l.length):rd l i=l[i.toNat]:=by
 unfold rd;rw [List.getD_eq_getElem?_getD,List.getElem?_eq_getElem h,Option.getD_some]
theorem adi {l:List Int} {i:Nat} (h:i < l.length):rd l (i:Int)=l[i]:=by
 rw [adh (by simpa using h)];simp
theorem CJ {s:ByteArray} {i:Nat} (h:i < s.data.toList.length):bt s (i:Int)=((s.data.toList[i]).toNat:Int):=by
 have G:i < s.size:=by rwa [Array.length_toList] at h
 unfold bt
 rw [dif_pos (by simpa using G)]
 rfl
theorem pU (s:ByteArray):s.data.toList.length=s.size:=by rw [Array.length_toList];rfl
theorem toList_nil (s:ByteArray):s.toList= []↔s.data.toList= []:=by rw [Lib.toList_data]
theorem Ln (s:ByteArray) (a:Nat):(s.extract a s.size).data.toList=s.data.toList.drop a:=by
 rw [Lib.extract_data,List.take_of_length_le]
 rw [List.length_drop,pU]
 exact Nat.le_refl _
theorem afC {c:UInt8} (h:c≠0) (l:List UInt8):oR (c :: l)=c :: l:=by
 unfold oR;rw [List.dropWhile_cons,if_neg (by simpa using h)]
theorem yV (s:ByteArray):(aA (vS s)).data.toList=oR s.data.toList:=by rw [pX];exact toB_vB _
def To {α:Type} (g:Nat→Option α) (r:α):Prop:=∃ k,g k=some r
theorem To.bind {α β:Type} {g:Nat→Option α} {f:Nat→α→Option β} (I:∀ k,bu (g k) (g (k+1))) (G:∀ x k,bu (f k x) (f (k+1) x)) {a:α} {r:β} (h:To g a) (k:To (fun n=>f n a) r):To (fun n=>(g n).bind (f n)) r:=by
 obtain ⟨m,J⟩:=h
 obtain ⟨n,M⟩:=k
 refine ⟨max m n, ?_⟩
 show (g (max m n)).bind (f (max m n))=some r
 rw [Cz I (Nat.le_max_left m n) J,Option.bind_some]
 exact Cz (g:=fun n=>f n a) (G a) (Nat.le_max_right m n) M
theorem To.at {α:Type} {g:Nat→Option α} {r:α} (G:∀ k,bu (g k) (g (k+1))) (h:To g r):∃ K,∀ k,K≤k→g k=some r:=by
 obtain ⟨m,J⟩:=h
 exact ⟨m,fun k I=>Cz G I J⟩
end Go.Proofs.YtamcpiicmfielaaGreat.Sp
namespace Go.Proofs.YtamcpiicmfielaaGreat.F
open Go.RowKit Go.Proofs.YtamcpiicmfielaaGreat.Sp Go.Proofs.YtamcpiicmfielaaGreatW.PrintWords Go.Proofs.YtamcpiicmfielaaGreatW.PrintMore
theorem afF (n:Nat):∀ (s:ByteArray),s.size=n→∀ k,n < k→cQ.l0 k s=some (aA (vS s)):=by
 induction n with
 | zero=>
  intro s I k O
  obtain ⟨k,rfl⟩:∃ m,k=m+1:= ⟨k - 1,by omega⟩
  have G:s.data.toList= []:=List.length_eq_zero_iff.1 (by rw [pU,I])
  simp only [cQ.l0]
  rw [if_pos ((toList_nil s).2 G)]
  congr 1
  apply nY
  rw [yV,G];rfl
 | succ n U=>
  intro s I k O
  obtain ⟨k,rfl⟩:∃ m,k=m+1:= ⟨k - 1,by omega⟩
  obtain ⟨c,t,G⟩:∃ c t,s.data.toList=c :: t:=by
   cases h:s.data.toList with
   | nil=>have:=pU s;rw [h,I] at this;simp at this
   | cons c t=>exact ⟨c,t,rfl⟩
  have M:bt s 0=(c.toNat:Int):=by
   have:=CJ (s:=s) (i:=0) (by rw [G];simp)
   simpa [G] using this
  simp only [cQ.l0]
  rw [if_neg (by rw [toList_nil,G];simp),if_pos (by omega)]
  by_cases J:c=0
  ·subst J
   rw [if_pos (by rw [M];rfl),if_pos (by omega),U (s.extract 1 s.size) (by rw [← pU,Ln,G];have:=pU s;rw [G,I] at this;simpa using this) k (by omega)]
   congr 1
   apply nY
   rw [yV,yV,Ln,G];rfl
  ·rw [if_neg (by
    rw [M]
    intro e
    exact J (UInt8.toNat_inj.1 (by have:c.toNat=0:=(by omega);simpa using this)))]
   congr 1
   apply nY
   rw [yV,G,afC J]
theorem afH (s:ByteArray):To (fun k=>cQ.f k s) (aA (vS s)):= ⟨s.size+1,afF s.size s rfl _ (by omega)⟩
theorem Dn {l:List Int} (h:aI l) (O:l≠ []→4294967296 ^ (l.length - 1)≤vL l):l=toL (vL l):=by
 refine (toL_vL h ?_).symm
 intro I J
 have e:=List.dropLast_concat_getLast I
 have G:=O I
 rw [← e,mC,J] at G
 have M:=dP (l:=l.dropLast) (by rw [← e,uR] at h;exact h.1)
 simp [cj,cF] at G M
 omega
theorem M1 {l:List Int} (h:aI l) (i:Nat) (hi:i < l.length):4294967296 ^ i*(l[i]).toNat≤vL l:=by
 have G:=oX l i hi 0
 simp at G
 omega
theorem acC (q r:Nat):(256:Nat) ^ (4*q+r)=4294967296 ^ q*256 ^ r:=by
 rw [Nat.pow_add,Nat.pow_mul]
theorem Fc (r:Nat):(2:Nat) ^ (8*r)=256 ^ r:=by rw [Nat.pow_mul]
theorem ld1 (n i:Nat) (h:i < n) (G:n≤140737488355328):wrap64 ((wrap64 ((n:Int) - 1)) - (i:Int))=((n - 1 - i:Nat):Int):=by
 rw [show wrap64 ((n:Int) - 1)=(n:Int) - 1 from wR (by omega) (by omega)]
 exact (wR (by omega) (by omega)).trans (by omega)
theorem DT (i:Nat):Int.tdiv (i:Int) 4=((i / 4:Nat):Int):=by rw [Int.tdiv_eq_ediv_of_nonneg (by omega)];rfl
theorem DU (i:Nat):Int.tmod (i:Int) 4=((i % 4:Nat):Int):=by rw [Int.tmod_eq_emod_of_nonneg (by omega)];rfl
theorem MO (i:Nat) (h:i≤140737488355328):wrap64 (((i / 4:Nat):Int))=((i / 4:Nat):Int):=wR (by omega) (by omega)
theorem MP (i:Nat):wrap64 (8*((i % 4:Nat):Int))=((8*(i % 4):Nat):Int):=(wR (by omega) (by omega)).trans (by omega)
theorem MQ (i:Nat) (h:i≤140737488355328):wrap64 ((i:Int)+1)=((i+1:Nat):Int):=(wR (by omega) (by omega)).trans (by omega)
theorem aan (t:ByteArray) (c0:t.size≤140737488355328) (d:Nat):∀ (k i:Nat) (out:List Int),i+d=t.size→d < k→aI out→out.length=(t.size+3) / 4→
  vL out=vB (t.data.toList.drop (t.size - i))→∃ r,dv.l0 k t out (t.size:Int) (i:Int)=some r∧aI r∧r.length=(t.size+3) / 4∧vL r=vS t:=by
 induction d with
 | zero=>
  intro k i out hi bD I U O
  obtain ⟨k,rfl⟩:∃ m,k=m+1:= ⟨k - 1,by omega⟩
  refine ⟨out, ?_,I,U, ?_⟩
  ·simp only [dv.l0];rw [if_neg (by omega)]
  ·rw [O,show t.size - i=0 by omega];rfl
 | succ d b6=>
  intro k i out hi bD I U O
  obtain ⟨k,rfl⟩:∃ m,k=m+1:= ⟨k - 1,by omega⟩
  have M:i / 4 < out.length:=by omega
  have ab:t.size - 1 - i < t.data.toList.length:=by rw [pU];omega
  have b4:rd out ((i / 4:Nat):Int)=out[i / 4]:=adi M
  have hb:=CJ (s:=t) ab
  have b0:=I _ (List.getElem_mem M)
  have ch:=(t.data.toList[t.size - 1 - i]).toNat_lt
  have bx:t.data.toList.drop (t.size - (i+1))=t.data.toList[t.size - 1 - i] :: t.data.toList.drop (t.size - i):=by
   rw [show t.size - (i+1)=t.size - 1 - i by omega,List.drop_eq_getElem_cons ab,show t.size - 1 - i+1=t.size - i by omega]
  generalize t.data.toList[t.size - 1 - i]=c at*
  have aE:(t.data.toList.drop (t.size - i)).length=i:=by rw [List.length_drop,pU];omega
  have a6:(256:Nat) ^ i=4294967296 ^ (i / 4)*256 ^ (i % 4):=by rw [← acC];congr 1;omega
  have Z:(out[i / 4]).toNat < 256 ^ (i % 4):=by
   have G:=M1 I (i / 4) M
   have J:=oW (t.data.toList.drop (t.size - i))
   rw [aE,← O,a6] at J
   exact Nat.lt_of_mul_lt_mul_left (Nat.lt_of_le_of_lt G J)
  have b7:(256:Nat) ^ (i % 4)≤16777216:=by
   have:i % 4≤3:=by omega
   exact Nat.pow_le_pow_right (by decide) this
  have ct:c.toNat*256 ^ (i % 4)≤255*256 ^ (i % 4):=Nat.mul_le_mul_right _ (by omega)
  have b5:shl .u32 ((bt t ((t.size - 1 - i:Nat):Int)) % 4294967296) ((8*(i % 4):Nat):Int)=((c.toNat*256 ^ (i % 4):Nat):Int):=by
   unfold shl
   rw [hb,IntKind.wrap_u32,Int.toNat_natCast]
   have G:min (8*(i % 4)) IntKind.u32.bits=8*(i % 4):=Nat.min_eq_left (by simp [IntKind.bits];omega)
   have J:((c.toNat:Int) % 4294967296)=(c.toNat:Int):=by omega
   have a7:((2:Int) ^ (8*(i % 4)))=((256 ^ (i % 4):Nat):Int):=by rw [← Fc];norm_cast
   rw [G,J,a7,← Int.natCast_mul]
   exact Int.emod_eq_of_lt (by omega) (by omega)
  have b1:Go.bits .or .u32 (out[i / 4]) (((c.toNat*256 ^ (i % 4):Nat):Int))=((out[i / 4].toNat+c.toNat*256 ^ (i % 4):Nat):Int):=by
   obtain ⟨a,ha⟩:=Int.eq_ofNat_of_zero_le b0.1
   rw [ha] at Z ⊢
   simp only [Int.toNat_natCast] at Z ⊢
   rw [u32_or_nat _ _ (by omega) (by omega),Nat.or_comm,nat_join (8*(i % 4)) _ _ (by rw [Fc,Nat.mul_mod_left]) (by rw [Fc];exact Z),Nat.add_comm]
  have a1:(0:Int)≤((out[i / 4].toNat+c.toNat*256 ^ (i % 4):Nat):Int)∧((out[i / 4].toNat+c.toNat*256 ^ (i % 4):Nat):Int) < 4294967296:=by omega
  obtain ⟨r,b2,b3⟩:=b6 k (i+1) (out.set (i / 4) ((out[i / 4].toNat+c.toNat*256 ^ (i % 4):Nat):Int)) (by omega) (by omega) (fC I _ _ a1.1 a1.2) (by rw [List.length_set];exact U) (by
   have G:=oX out (i / 4) M ((out[i / 4].toNat+c.toNat*256 ^ (i % 4):Nat):Int)
   rw [Int.toNat_natCast,Nat.mul_add,← Nat.mul_assoc,Nat.mul_right_comm,← a6,O] at G
   rw [bx,lJ,aE]
   have e:=Nat.mul_comm (256 ^ i) c.toNat
   omega)
  refine ⟨r, ?_,b3⟩
  simp only [dv.l0]
  rw [DT,DU,MO i (by omega),ld1 t.size i (by omega) (by omega),MP,MQ i (by omega),b4,b5,b1]
  rw [if_pos (by omega),if_pos (by omega),if_pos (by omega),if_pos (by omega),if_pos (by omega),if_pos (by omega)]
  rw [Int.toNat_natCast]
  exact b2
def cz (a b:Nat):Int:=if a < b then -1 else if b < a then 1 else 0
end Go.Proofs.YtamcpiicmfielaaGreat.F
namespace Go.Proofs.YtamcpiicmfielaaGreat.F
open Go.RowKit Go.Proofs.YtamcpiicmfielaaGreat.Sp Go.Proofs.YtamcpiicmfielaaGreatW.PrintWords Go.Proofs.YtamcpiicmfielaaGreatW.PrintMore
theorem la (l:List Int) (i:Nat) (hi:i < l.length):vL (l.take (i+1))=vL (l.take i)+4294967296 ^ i*(l[i]).toNat:=by
 rw [List.take_succ_eq_append_getElem hi,mC,List.length_take,Nat.min_eq_left (by omega),cj,cF];simp
theorem sW (l:List Int) (x:Int):vL (l ++ [x])=vL l+4294967296 ^ l.length*x.toNat:=by rw [mC,cj,cF];simp
theorem AG (l:List Int) (i:Nat) (hi:i < l.length) (x:Int):(l.set i x).take (i+1)=l.take i ++ [x]:=by
 rw [List.take_succ_eq_append_getElem (by simpa using hi),List.getElem_set_self,List.take_set_of_le (Nat.le_refl _)]
theorem abF {x:Int} (h:0≤x):∃ a:Nat,x=(a:Int):=Int.eq_ofNat_of_zero_le h
theorem aaf {l:List Int} (h:aI l) (i:Nat) (hi:i < l.length):∃ a:Nat,a < 4294967296∧l[i]=(a:Int):=by
 have:=h _ (List.getElem_mem hi)
 obtain ⟨a,ha⟩:=abF this.1
 exact ⟨a,by omega,ha⟩
theorem eU {a:Nat} (h:a < 18446744073709551616):IntKind.u64.wrap (a:Int)=(a:Int):=H9 (by omega) (by omega)
theorem nT {c a:Nat} (ha:a < 4294967296) (h:c+a < 18446744073709551616):IntKind.u64.wrap ((c:Int)+IntKind.u64.wrap (a:Int))=((c+a:Nat):Int):=by
 rw [eU (a:=a) (by omega),← Int.natCast_add,eU h]
theorem lW (n:Nat):(0:Int)≤((n % 4294967296:Nat):Int)∧((n % 4294967296:Nat):Int) < 4294967296:=by omega
theorem UF {p n v c o:Nat} (h:v+p*c=o):v+p*(n % 4294967296)+p*4294967296*(n / 4294967296)+p*c=o+p*n:=by
 have e:p*(n % 4294967296)+p*4294967296*(n / 4294967296)=p*n:=by
  rw [Nat.mul_assoc,← Nat.mul_add,Nat.mod_add_div]
 omega
theorem CE (x:Nat) (h:x < 4294967296):x / 2147483648=if 2147483648≤x then 1 else 0:=by split <;> omega
theorem QS (x y:Nat) (I:x < 4294967296) (J:y < 4294967296):(x &&& y) / 2147483648=x / 2147483648*(y / 2147483648):=by
 rw [show (2147483648:Nat)=2 ^ 31 from rfl,Nat.and_div_two_pow,← show (2147483648:Nat)=2 ^ 31 from rfl]
 rcases (show x / 2147483648=0∨x / 2147483648=1 by omega) with h | h <;> rcases (show y / 2147483648=0∨y / 2147483648=1 by omega) with G | G <;> rw [h,G] <;> rfl
theorem agS (x y:Nat) (I:x < 4294967296) (J:y < 4294967296):(x ||| y) / 2147483648=max (x / 2147483648) (y / 2147483648):=by
 rw [show (2147483648:Nat)=2 ^ 31 from rfl,Nat.or_div_two_pow,← show (2147483648:Nat)=2 ^ 31 from rfl]
 rcases (show x / 2147483648=0∨x / 2147483648=1 by omega) with h | h <;> rcases (show y / 2147483648=0∨y / 2147483648=1 by omega) with G | G <;> rw [h,G] <;> rfl
theorem H4 (x y:Nat) (I:x < 4294967296) (J:y < 4294967296):(x ^^^ y) / 2147483648=(x / 2147483648+y / 2147483648) % 2:=by
 rw [show (2147483648:Nat)=2 ^ 31 from rfl,Nat.xor_div_two_pow,← show (2147483648:Nat)=2 ^ 31 from rfl]
 rcases (show x / 2147483648=0∨x / 2147483648=1 by omega) with h | h <;> rcases (show y / 2147483648=0∨y / 2147483648=1 by omega) with G | G <;> rw [h,G] <;> rfl
theorem xu {x y:Nat} (G:y < 4294967296):(x &&& y) < 4294967296:=Nat.lt_of_le_of_lt Nat.and_le_right G
theorem oY {x y:Nat} (G:x < 4294967296) (I:y < 4294967296):(x ^^^ y) < 4294967296:=Nat.xor_lt_two_pow (n:=32) G I
theorem afI (x y b:Nat) (G:x < 4294967296) (I:y < 4294967296) (hb:b≤1):
  CF.f (x:Int) (y:Int) (b:Int)=some ((((x+8589934592 - y - b) % 4294967296:Nat):Int),((if x < y+b then 1 else 0:Nat):Int)):=by
 have ab:((((x:Int) - y) % 4294967296) - b) % 4294967296=(((x+8589934592 - y - b) % 4294967296:Nat):Int):=by omega
 unfold CF.f
 rw [ab]
 have J:(x+8589934592 - y - b) % 4294967296 < 4294967296:=Nat.mod_lt _ (by decide)
 have Z:(x+8589934592 - y - b) % 4294967296=if x < y+b then x+4294967296 - y - b else x - y - b:=by split <;> omega
 generalize (x+8589934592 - y - b) % 4294967296=D at*
 rw [show (4294967295:Int)=((4294967295:Nat):Int) from rfl,u32_xor_nat _ _ (by decide) G,u32_xor_nat x y G I,u32_xor_nat _ _ (by decide) (oY G I),u32_and_nat _ _ (oY (by decide) G) I,
  u32_and_nat _ _ (oY (by decide) (oY G I)) J,u32_or_nat _ _ (xu I) (xu J)]
 have aE:((((4294967295 ^^^ x) &&& y) ||| ((4294967295 ^^^ (x ^^^ y)) &&& D)) / 2147483648:Nat)=if x < y+b then 1 else 0:=by
  rw [agS _ _ (xu I) (xu J),QS _ _ (oY (by decide) G) I,QS _ _ (oY (by decide) (oY G I)) J,H4 _ _ (by decide) G,H4 _ _ (by decide) (oY G I),H4 _ _ G I]
  have e0:(4294967295:Nat) / 2147483648=1:=rfl
  rw [e0]
  have O:=CE x G
  have U:=CE y I
  have M:=CE D J
  rw [O,U,M,Z]
  repeat' split
  all_goals first
   | omega
   | rfl
 congr 2
 rw [show (2147483648:Int)=((2147483648:Nat):Int) from rfl]
 exact_mod_cast aE
end Go.Proofs.YtamcpiicmfielaaGreat.F
namespace Go.Proofs.YtamcpiicmfielaaGreat.F
open Go.RowKit Go.Proofs.YtamcpiicmfielaaGreat.Sp Go.Proofs.YtamcpiicmfielaaGreatW.PrintWords Go.Proofs.YtamcpiicmfielaaGreatW.PrintMore
def nR (n r:Nat):Prop:=n < 2 ^ r∧(0 < r→2 ^ (r - 1)≤n)
theorem nR.uniq {n r s:Nat} (h:nR n r) (k:nR n s):r=s:=by
 rcases Nat.lt_trichotomy r s with G | G | G
 ·have:=k.2 (by omega)
  have I:2 ^ r≤2 ^ (s - 1):=Nat.pow_le_pow_right (by decide) (by omega)
  have:=h.1
  omega
 ·exact G
 ·have:=h.2 (by omega)
  have I:2 ^ s≤2 ^ (r - 1):=Nat.pow_le_pow_right (by decide) (by omega)
  have:=k.1
  omega
def aT (n:Nat):Nat:=if n=0 then 0 else n.log2+1
theorem lP (n:Nat):nR n (aT n):=by
 unfold aT
 split
 ·rename_i h;subst h;exact ⟨by decide,fun h=>absurd h (by decide)⟩
 ·rename_i h
  exact ⟨Nat.lt_log2_self,fun _=>Nat.log2_self_le h⟩
theorem yJ {x q r:Nat} (c:Nat) (U:q=x / 2 ^ c) (ab:0 < q) (h:nR q r):nR x (c+r):=by
 subst U
 obtain ⟨I,M⟩:=h
 have Z:0 < r:=by
  rcases Nat.eq_zero_or_pos r with G | G
  ·rw [G,Nat.pow_zero] at I;omega
  ·exact G
 have O:=M Z
 have J:0 < 2 ^ c:=Nat.two_pow_pos c
 refine ⟨?_,fun _=> ?_⟩
 ·rw [Nat.pow_add,Nat.mul_comm];exact (Nat.div_lt_iff_lt_mul J).1 I
 ·rw [show c+r - 1=c+(r - 1) by omega,Nat.pow_add,Nat.mul_comm];exact (Nat.le_div_iff_mul_le J).1 O
theorem CH {n m:Nat} (h:n < 2 ^ m):aT n≤m:=by
 rcases Nat.lt_or_ge m (aT n) with G | G
 ·have I:=(lP n).2 (by omega)
  have J:2 ^ m≤2 ^ (aT n - 1):=Nat.pow_le_pow_right (by decide) (by omega)
  omega
 ·exact G
theorem Td {a q c:Nat} (J:0 < q) (ha:a < 4294967296 ^ c):aT (a+4294967296 ^ c*q)=32*c+aT q:=by
 have e:(4294967296:Nat) ^ c=2 ^ (32*c):=by rw [Nat.pow_mul]
 rw [e] at ha ⊢
 have I:=Nat.two_pow_pos (32*c)
 have G:q=(a+2 ^ (32*c)*q) / 2 ^ (32*c):=by rw [Nat.add_mul_div_left _ _ I,Nat.div_eq_of_lt ha,Nat.zero_add]
 exact ((lP _).uniq (yJ (32*c) G J (lP q)))
theorem FK (a n:Nat) (ha:a < 4294967296) (O:n < 32):shl .u64 (IntKind.u64.wrap (a:Int)) (n:Int)=((a*2 ^ n:Nat):Int)∧a*2 ^ n < 4294967296*2 ^ n:=by
 have M:2 ^ n≤2 ^ 31:=Nat.pow_le_pow_right (by decide) (by omega)
 have J:a*2 ^ n < 4294967296*2 ^ n:=Nat.mul_lt_mul_of_pos_right ha (Nat.two_pow_pos n)
 have I:a*2 ^ n < 18446744073709551616:=by
  have:(2:Nat) ^ 31=2147483648:=rfl
  omega
 refine ⟨?_,J⟩
 unfold shl
 rw [eU (by omega),Int.toNat_natCast]
 have G:min n IntKind.u64.bits=n:=Nat.min_eq_left (by simp [IntKind.bits];omega)
 rw [G,show ((2:Int) ^ n)=((2 ^ n:Nat):Int) by norm_cast,← Int.natCast_mul]
 exact eU I
theorem FJ (c a n:Nat) (O:c < 2 ^ n) (ab:n < 32):Go.bits .or .u32 (c:Int) (((a*2 ^ n % 4294967296:Nat)):Int)=((c+a*2 ^ n % 4294967296:Nat):Int)∧c+a*2 ^ n % 4294967296 < 4294967296:=by
 have e:(4294967296:Nat)=2 ^ (32 - n)*2 ^ n:=by rw [← Nat.pow_add,show 32 - n+n=32 by omega]
 have I:a*2 ^ n % 4294967296=a % 2 ^ (32 - n)*2 ^ n:=by
  have G:=Nat.mul_mod_mul_right (2 ^ n) a (2 ^ (32 - n))
  rw [← e] at G
  exact G
 have Z:a*2 ^ n % 4294967296 < 4294967296:=Nat.mod_lt _ (by decide)
 have J:a % 2 ^ (32 - n)+1≤2 ^ (32 - n):=Nat.mod_lt _ (Nat.two_pow_pos _)
 have M:(a % 2 ^ (32 - n)+1)*2 ^ n≤2 ^ (32 - n)*2 ^ n:=Nat.mul_le_mul_right _ J
 rw [← e,Nat.add_mul,Nat.one_mul,← I] at M
 have U:c < 4294967296:=by omega
 refine ⟨?_,by omega⟩
 rw [u32_or_nat _ _ U Z,Nat.or_comm,nat_join n _ _ (by rw [I];exact Nat.mul_mod_left _ _) O,Nat.add_comm]
theorem W0 (V i n x y G:Nat) (h:V / 4294967296 ^ i=x+4294967296*(y+4294967296*G)) (J:n≤32):(V / 2 ^ n / 4294967296 ^ i) % 4294967296=((x+y*4294967296) / 2 ^ n) % 4294967296:=by
 rw [Nat.div_div_eq_div_mul,Nat.mul_comm,← Nat.div_div_eq_div_mul,h]
 have e:(4294967296:Nat)=2 ^ n*2 ^ (32 - n):=by rw [← Nat.pow_add,show n+(32 - n)=32 by omega]
 have I:x+4294967296*(y+4294967296*G)=(x+y*4294967296)+2 ^ n*(2 ^ (32 - n)*4294967296*G):=by
  have:4294967296*(4294967296*G)=2 ^ n*(2 ^ (32 - n)*4294967296*G):=by
   rw [← Nat.mul_assoc (2 ^ n),← Nat.mul_assoc (2 ^ n),← e,Nat.mul_assoc]
  rw [Nat.mul_add,this];omega
 rw [I,Nat.add_mul_div_left _ _ (Nat.two_pow_pos n),show 2 ^ (32 - n)*4294967296*G=4294967296*(2 ^ (32 - n)*G) by grind,Nat.add_mul_mod_self_left]
theorem W7 {l:List Int} (I:aI l) (i:Nat) (hi:i≤l.length):vL l / 4294967296 ^ i=vL (l.drop i):=by
 have h:=nN l i hi
 have G:=dP (oE I i)
 rw [List.length_take,Nat.min_eq_left hi] at G
 rw [h,Nat.add_mul_div_left _ _ (Nat.pow_pos (by decide)),Nat.div_eq_of_lt G,Nat.zero_add]
theorem mod_pow_succ (W i:Nat):W % 4294967296 ^ (i+1)=W % 4294967296 ^ i+4294967296 ^ i*((W / 4294967296 ^ i) % 4294967296):=by
 rw [Nat.pow_succ,Nat.mod_mul]
end Go.Proofs.YtamcpiicmfielaaGreat.F
namespace Go.Proofs.YtamcpiicmfielaaGreat.F
open Go.RowKit Go.Proofs.YtamcpiicmfielaaGreat.Sp Go.Proofs.YtamcpiicmfielaaGreatW.PrintWords Go.Proofs.YtamcpiicmfielaaGreatW.PrintMore
theorem YU {P X Y J G v2 I g r:Nat} (ab:X < P) (Z:g*G+r=I) (h:r*4294967296+J < g*v2):
  X+P*(I*4294967296+J) < g*(Y+P*(G*4294967296+v2)):=by
 have O:I*4294967296+J+1≤g*(G*4294967296+v2):=by
  rw [← Z]
  have:g*(G*4294967296+v2)=g*G*4294967296+g*v2:=by grind
  rw [this]
  omega
 have M:=Nat.mul_le_mul_left P O
 have U:g*(Y+P*(G*4294967296+v2))=g*Y+P*(g*(G*4294967296+v2)):=by grind
 rw [U]
 rw [Nat.mul_add P (I*4294967296+J) 1,Nat.mul_one] at M
 exact Nat.lt_of_lt_of_le (by omega) (Nat.le_trans M (Nat.le_add_left _ _))
theorem YT {P X Y J G v2 I g r:Nat} (a6:Y < P) (bx:1≤G) (a7:g < 4294967296) (a1:g*G+r=I) (h:g*v2≤r*4294967296+J):
  g*(Y+P*(G*4294967296+v2))≤X+P*(I*4294967296+J)+(Y+P*(G*4294967296+v2)):=by
 have O:g*(G*4294967296+v2)≤I*4294967296+J:=by
  rw [← a1]
  have:g*(G*4294967296+v2)=g*G*4294967296+g*v2:=by grind
  rw [this]
  omega
 have U:=Nat.mul_le_mul_left P O
 have Z:g*(Y+P*(G*4294967296+v2))=g*Y+P*(g*(G*4294967296+v2)):=by grind
 have ab:g*Y≤4294967296*P:=Nat.mul_le_mul (by omega) (by omega)
 have M:4294967296*P≤(G*4294967296+v2)*P:=Nat.mul_le_mul_right P (by omega)
 rw [Nat.mul_comm (G*4294967296+v2)] at M
 rw [Z]
 have aE:=Nat.add_le_add (Nat.le_trans ab M) U
 refine Nat.le_trans aE ?_
 rw [Nat.add_comm]
 exact Nat.add_le_add (Nat.le_add_left _ _) (Nat.le_add_left _ _)
theorem YV {P X Y J G v2 I q:Nat} (a1:X < P) (a6:J < 4294967296) (ab:1≤G) (O:q*(Y+P*(G*4294967296+v2))≤X+P*(I*4294967296+J)):q≤I / G:=by
 rw [Nat.le_div_iff_mul_le ab]
 rcases Nat.lt_or_ge I (q*G) with h | h
 ·exfalso
  have U:I*4294967296+J+1≤q*(G*4294967296+v2):=by
   have:q*(G*4294967296+v2)=q*G*4294967296+q*v2:=by grind
   rw [this]
   omega
  have M:=Nat.mul_le_mul_left P U
  have Z:q*(Y+P*(G*4294967296+v2))=q*Y+P*(q*(G*4294967296+v2)):=by grind
  rw [Z] at O
  rw [Nat.mul_add P (I*4294967296+J) 1,Nat.mul_one] at M
  have aE:=Nat.le_trans (Nat.le_trans M (Nat.le_add_left _ (q*Y))) O
  omega
 ·exact h
theorem ab8 (r u:Nat) (G:r < 4294967296) (I:u < 4294967296):Go.bits .or .u64 (IntKind.u64.wrap ((r:Int)*4294967296)) (IntKind.u64.wrap (u:Int))=((r*4294967296+u:Nat):Int):=by
 rw [eU (a:=u) (by omega),show (r:Int)*4294967296=((r*4294967296:Nat):Int) from rfl,eU (by omega),u64_or_nat _ _ (by omega) (by omega),nat_join 32 _ _ (by omega) (by omega)]
end Go.Proofs.YtamcpiicmfielaaGreat.F
namespace Go.Proofs.YtamcpiicmfielaaGreat.F
open Go.RowKit Go.Proofs.YtamcpiicmfielaaGreat.Sp Go.Proofs.YtamcpiicmfielaaGreatW.PrintWords Go.Proofs.YtamcpiicmfielaaGreatW.PrintMore
theorem Q5 {l:List Int} (h:aI l) (i:Nat) (hi:i≤l.length) (J:vL (l.drop i)=0):vL l < 4294967296 ^ i:=by
 have G:=nN l i hi
 have I:=dP (oE h i)
 rw [List.length_take,Nat.min_eq_left hi] at I
 rw [J,Nat.mul_zero,Nat.add_zero] at G
 rw [G]
 exact I
theorem Q4 {l:List Int} (i:Nat) (hi:i≤l.length) (h:vL l < 4294967296 ^ i):vL (l.drop i)=0:=by
 have I:=nN l i hi
 rcases Nat.eq_zero_or_pos (vL (l.drop i)) with G | G
 ·exact G
 ·have:=Nat.le_mul_of_pos_right (4294967296 ^ i) G
  omega
theorem YH {A G y g q:Nat} (h:y+g*G=A) (M:A < (q+1)*G) (J:q≤g):g=q:=by
 rcases Nat.lt_or_ge q g with I | I
 ·exfalso
  have:=Nat.mul_le_mul_right G (show q+1≤g from I)
  omega
 ·omega
theorem YI {A G y g q Q:Nat} (h:y+g*G=A+Q) (U:y < Q) (O:q*G≤A) (J:q≤g) (M:g≤q+1):g=q+1:=by
 rcases Nat.lt_or_ge q g with I | I
 ·omega
 ·exfalso
  have:g=q:=by omega
  subst this
  omega
theorem afM {T A p I c b x D M O G B:Nat} (U:M+I=A+p*(c+b)) (ab:O+p*x=M+p*D) (Z:D+c+b=x+B*G):O+I=A+p*B*G:=by
 have J:=congrArg (p* ·) Z
 simp only [Nat.mul_add] at J U
 rw [← Nat.mul_assoc] at J
 generalize p*B*G=a at*
 generalize p*D=d at*
 generalize p*c=e at*
 generalize p*b=f at*
 generalize p*x=k at*
 omega
end Go.Proofs.YtamcpiicmfielaaGreat.F
namespace Go.Proofs.YtamcpiicmfielaaGreat.Sp
def val (n:Bool) (s:ByteArray):Int:=if n=true then -(vS s:Int) else (vS s:Int)
def enc (z:Int):Bool×ByteArray:=(decide (z < 0),aA z.natAbs)
def cR (a b:Int):Int:=if a < b then -1 else if b < a then 1 else 0
theorem Yu (neg:Bool) (n:Nat):(neg&&decide (n≠0),aA n)=enc (if neg=true then -(n:Int) else (n:Int)):=by
 cases neg
 ·simp [enc]
 ·simp only [Bool.true_and,if_true,enc,Int.natAbs_neg,Int.natAbs_natCast,Prod.mk.injEq,and_true]
  rw [decide_eq_decide]
  omega
theorem Rb (z:Int):val (enc z).1 (enc z).2=z:=by
 unfold val enc
 simp only [jC,decide_eq_true_eq]
 split <;> omega
theorem abE (n:Bool) (s:ByteArray):(val n s).natAbs=vS s:=by
 unfold val
 split <;> omega
end Go.Proofs.YtamcpiicmfielaaGreat.Sp
namespace Go.Proofs.YtamcpiicmfielaaGreat.F
open Go.RowKit Go.Proofs.YtamcpiicmfielaaGreat.Sp Go.Proofs.YtamcpiicmfielaaGreatW.PrintWords Go.Proofs.YtamcpiicmfielaaGreatW.PrintMore
theorem Rc (m:Bool) (t:ByteArray):val (!m) t= -val m t:=by unfold val;cases m <;> simp
end Go.Proofs.YtamcpiicmfielaaGreat.F
namespace Go.Proofs.YtamcpiicmfielaaGreat.Sp
def bP:Nat→Nat
 | 0=>0
 | n+1=>if (bP n+1)*(bP n+1)≤n+1 then bP n+1 else bP n
theorem Ft (n:Nat):bP n*bP n≤n∧n < (bP n+1)*(bP n+1):=by
 induction n with
 | zero=>simp [bP]
 | succ n G=>
  unfold bP
  split
  ·rename_i h
   refine ⟨h, ?_⟩
   have e:(bP n+1+1)*(bP n+1+1)=(bP n+1)*(bP n+1)+2*(bP n+1)+1:=by grind
   rw [e]
   omega
  ·rename_i h
   exact ⟨by omega,by omega⟩
theorem adY {a r s:Nat} (G:r*r≤a) (I:a < (r+1)*(r+1)) (k1:s*s≤a) (J:a < (s+1)*(s+1)):r=s:=by
 rcases Nat.lt_trichotomy r s with h | h | h
 ·have:=Nat.mul_le_mul (show r+1≤s from h) (show r+1≤s from h)
  omega
 ·exact h
 ·have:=Nat.mul_le_mul (show s+1≤r from h) (show s+1≤r from h)
  omega
theorem S0 (x z:Nat):4*(x*z)≤(x+z)*(x+z):=by
 rcases Nat.le_total x z with h | h
 ·obtain ⟨d,rfl⟩:=Nat.exists_eq_add_of_le h
  have e:(x+(x+d))*(x+(x+d))=4*(x*(x+d))+d*d:=by grind
  omega
 ·obtain ⟨d,rfl⟩:=Nat.exists_eq_add_of_le h
  have e:(z+d+z)*(z+d+z)=4*((z+d)*z)+d*d:=by grind
  omega
theorem Nt {a x:Nat} (J:0 < x):a < ((x+a / x) / 2+1)*((x+a / x) / 2+1):=by
 have M:a < x*(a / x+1):=by rw [Nat.mul_comm];exact Nat.lt_mul_of_div_lt (Nat.lt_succ_self _) J
 have O:=S0 x (a / x+1)
 generalize a / x=q at*
 have G:x+(q+1)≤2*((x+q) / 2+1):=by omega
 have I:=Nat.mul_le_mul G G
 have e:2*((x+q) / 2+1)*(2*((x+q) / 2+1))=4*(((x+q) / 2+1)*((x+q) / 2+1)):=by grind
 rw [e] at I
 omega
theorem abI {a x:Nat} (I:0 < x) (h:x≤(x+a / x) / 2):x*x≤a:=by
 have G:x≤a / x:=by omega
 exact (Nat.le_div_iff_mul_le I).1 G
end Go.Proofs.YtamcpiicmfielaaGreat.Sp
namespace Go.Proofs.YtamcpiicmfielaaGreat.F
open Go.RowKit Go.Proofs.YtamcpiicmfielaaGreat.Sp Go.Proofs.YtamcpiicmfielaaGreatW.PrintWords Go.Proofs.YtamcpiicmfielaaGreatW.PrintMore
theorem yO {a b:Nat} (h:a≤b):(toL a).length≤(toL b).length:=lk (Nat.lt_of_le_of_lt h (lX (Nat.le_refl _)))
theorem Z9 {x y m:Nat} (G:(toL x).length≤m) (I:(toL y).length≤m):(toL (x+y)).length≤m+1:=by
 apply lk
 have e1:=lX G
 have J:=lX I
 rw [Nat.pow_succ]
 generalize 4294967296 ^ m=B at*
 omega
theorem aeU (k:Nat) (h:k≤1099511627776):List.replicate (k / 32) (0:Int) ++ [shl .u32 1 ((k % 32:Nat):Int)]=toL (2 ^ k):=by
 have U:shl .u32 1 ((k % 32:Nat):Int)=((2 ^ (k % 32):Nat):Int):=by
  unfold shl
  have I:(2:Nat) ^ (k % 32)≤2 ^ 31:=Nat.pow_le_pow_right (by decide) (by omega)
  have J:(2:Nat) ^ 31=2147483648:=rfl
  rw [Int.toNat_natCast,show min (k % 32) IntKind.u32.bits=k % 32 from Nat.min_eq_left (by simp [IntKind.bits];omega),Int.one_mul,show ((2:Int) ^ (k % 32))=((2 ^ (k % 32):Nat):Int) by norm_cast,IntKind.wrap_u32]
  have M:=Nat.two_pow_pos (k % 32)
  generalize 2 ^ (k % 32)=z at*
  omega
 rw [U]
 have I:(2:Nat) ^ (k % 32)≤2 ^ 31:=Nat.pow_le_pow_right (by decide) (by omega)
 have J:(2:Nat) ^ 31=2147483648:=rfl
 have M:=Nat.two_pow_pos (k % 32)
 have G:vL (List.replicate (k / 32) (0:Int) ++ [((2 ^ (k % 32):Nat):Int)])=2 ^ k:=by
  rw [mC,Ic,Nat.zero_add,List.length_replicate,cj,cF,Int.toNat_natCast,Nat.mul_zero,Nat.add_zero,show (4294967296:Nat)=2 ^ 32 from rfl,← Nat.pow_mul,← Nat.pow_add]
  congr 1
  omega
 have O:aI (List.replicate (k / 32) (0:Int) ++ [((2 ^ (k % 32):Nat):Int)]):=by
  rw [uR,na]
  exact ⟨lv _, ⟨Int.natCast_nonneg _,by omega⟩,p8⟩
 have:=Dn O (fun _=>by
  rw [G,List.length_append,List.length_replicate,List.length_singleton,Nat.add_sub_cancel,show (4294967296:Nat)=2 ^ 32 from rfl,← Nat.pow_mul]
  exact Nat.pow_le_pow_right (by decide) (by omega))
 rw [G] at this
 exact this
end Go.Proofs.YtamcpiicmfielaaGreat.F
