import Derived.Below
import Derived.Tactics
import Derived.Laws.BytesArg
import Derived.Lib.ConvBytes
import Derived.Laws.Slices
import Derived.Lib.Bytes
import Derived.Laws.BitsAllLaws
import Derived.Laws.Bits64
import Derived.KernelRfl
import Derived.RowKit
set_option linter.unusedVariables false
set_option linter.unusedSimpArgs false
namespace Go.Proofs.YtamcpiicmfielaaGreatW.PrintMore
end Go.Proofs.YtamcpiicmfielaaGreatW.PrintMore
namespace Go.Proofs.YtamcpiicmfielaaGreatW.PrintWords
open Go.RowKit
structure dE (p:Prop):Prop where mk :: (out:p)
def rd (j:List Int) (i:Int):Int:=j.getD i.toNat 0
def bt (s:ByteArray) (i:Int):Int:=if h:i.toNat < s.size then ((s[i.toNat]'h).toNat:Int) else 0
def bk {α:Type} (a b:Option α):Prop:=∀ r,a=some r→b=some r
theorem bk.refl {α:Type} (a:Option α):bk a a:=fun _ h=>h
theorem bk.none {α:Type} (b:Option α):bk Option.none b:=fun _ h=>by cases h
theorem bk.trans {α:Type} {a b c:Option α} (h:bk a b) (k:bk b c):bk a c:=fun r j=>k r (h r j)
theorem bk.ite {α:Type} {c:Prop} [Decidable c] {a j b G:Option α} (h:bk a j) (k:bk b G):bk (if c then a else b) (if c then j else G):=by
 split
 ·exact h
 ·exact k
theorem bk.bind {α N:Type} {a j:Option α} {f G:α→Option N} (h:bk a j) (k:∀ x,bk (f x) (G x)):bk (a.bind f) (j.bind G):=by
 intro r J
 obtain ⟨x,M,I⟩:=Option.bind_eq_some_iff.1 J
 exact Option.bind_eq_some_iff.2 ⟨x,h x M,k x r I⟩
theorem Lw {α:Type} {g:Nat→Option α} (h:∀ k,bk (g k) (g (k+1))) (k:Nat):∀ j,bk (g k) (g (k+j))
 | 0=>bk.refl _
 | j+1=>(Lw h k j).trans (h (k+j))
theorem Bh {α:Type} {g:Nat→Option α} (h:∀ k,bk (g k) (g (k+1))) {k j:Nat} (G:k≤j) {r:α} (I:g k=some r):g j=some r:=by
 have:=Lw h k (j - k) r I
 rwa [Nat.add_sub_cancel' G] at this
def shl (k:IntKind) (x y:Int):Int:=k.wrap (x*2 ^ min y.toNat k.bits)
def shr (k:IntKind) (x y:Int):Int:=x / 2 ^ min y.toNat k.bits
end Go.Proofs.YtamcpiicmfielaaGreatW.PrintWords
namespace Go.Proofs.YtamcpiicmfielaaGreat.F
open Go.RowKit Go.Proofs.YtamcpiicmfielaaGreatW.PrintWords Go.Proofs.YtamcpiicmfielaaGreatW.PrintMore
def cD.l0:Nat→ByteArray→Option (ByteArray)
 | 0,_=>none
 | k+1,j=>if j.toList=([]:List UInt8) then (some j) else (if 0 < (j.size:Int) then (if (bt j 0)=0 then (if 1≤(j.size:Int) then (cD.l0 k (j.extract 1 j.size)) else (none)) else (some j)) else (none))
def cD.f (k:Nat) (j:ByteArray):Option (ByteArray):=cD.l0 k j
theorem cD.tI:∀ k,(∀ j,bk (cD.l0 k j) (cD.l0 (k+1) j))
 | 0=>fun _ r h=>by simp [cD.l0] at h
 | k+1=>by
  have G:=cD.tI k
  ·intro j
   unfold cD.l0
   repeat' first
   | (with_reducible exact G _)
   | (with_reducible exact bk.refl _)
   | (with_reducible exact bk.none _)
   | (with_reducible refine bk.ite ?_ ?_)
   | (with_reducible refine bk.bind ?_ (fun _=> ?_))
   | exact G _
   | exact bk.none _
   | refine bk.ite ?_ ?_
   | refine bk.bind ?_ (fun _=> ?_)
theorem cD.mono:∀ j k,bk (cD.f k j) (cD.f (k+1) j):=by
 intro j k
 have G:=cD.tI k
 unfold cD.f
 repeat' first
   | (with_reducible exact G _)
   | (with_reducible exact bk.refl _)
   | (with_reducible exact bk.none _)
   | (with_reducible refine bk.ite ?_ ?_)
   | (with_reducible refine bk.bind ?_ (fun _=> ?_))
   | exact G _
   | exact bk.none _
   | refine bk.ite ?_ ?_
   | refine bk.bind ?_ (fun _=> ?_)
def da.l0:Nat→ByteArray→List Int→Int→Int→Option (List Int)
 | 0,_,_,_,_=>none
 | k+1,G,I,J,j=>if j < J then (if 0≤(wrap64 (Int.tdiv j 4)) then (if (wrap64 (Int.tdiv j 4)) < (I.length:Int) then (if 0≤(wrap64 ((wrap64 ((G.size:Int) - 1)) - j)) then (if (wrap64 ((wrap64 ((G.size:Int) - 1)) - j)) < (G.size:Int) then (if 0≤(wrap64 (8*(Int.tmod j 4))) then (da.l0 k G (I.set ((wrap64 (Int.tdiv j 4)):Int).toNat (Go.bits .or .u32 (rd I (wrap64 (Int.tdiv j 4))) (shl .u32 ((bt G (wrap64 ((wrap64 ((G.size:Int) - 1)) - j))) % 4294967296) (wrap64 (8*(Int.tmod j 4)))))) J (wrap64 (j+1))) else (none)) else (none)) else (none)) else (none)) else (none)) else (some I)
def da.f (k:Nat) (G:ByteArray):Option (List Int):=(cD.f k G).bind fun j=>(if 0≤(wrap64 (Int.tdiv (wrap64 ((wrap64 ((j.size:Int)+4)) - 1)) 4)) then (if (wrap64 (Int.tdiv (wrap64 ((wrap64 ((j.size:Int)+4)) - 1)) 4):Int).toNat≤70368744177664 then (da.l0 k j (List.replicate (wrap64 (Int.tdiv (wrap64 ((wrap64 ((j.size:Int)+4)) - 1)) 4):Int).toNat 0) (j.size:Int) 0) else (none)) else (none))
theorem da.tI:∀ k,(∀ j G I J,bk (da.l0 k j G I J) (da.l0 (k+1) j G I J))
 | 0=>fun _ _ _ _ r h=>by simp [da.l0] at h
 | k+1=>by
  have M:=da.tI k
  ·intro j G I J
   unfold da.l0
   repeat' first
   | (with_reducible exact M _ _ _ _)
   | (with_reducible exact cD.mono _ _)
   | (with_reducible exact bk.refl _)
   | (with_reducible exact bk.none _)
   | (with_reducible refine bk.ite ?_ ?_)
   | (with_reducible refine bk.bind ?_ (fun _=> ?_))
   | exact M _ _ _ _
   | exact cD.mono _ _
   | exact bk.none _
   | refine bk.ite ?_ ?_
   | refine bk.bind ?_ (fun _=> ?_)
theorem da.mono:∀ j k,bk (da.f k j) (da.f (k+1) j):=by
 intro j k
 have G:=da.tI k
 unfold da.f
 repeat' first
   | (with_reducible exact G _ _ _ _)
   | (with_reducible exact cD.mono _ _)
   | (with_reducible exact bk.refl _)
   | (with_reducible exact bk.none _)
   | (with_reducible refine bk.ite ?_ ?_)
   | (with_reducible refine bk.bind ?_ (fun _=> ?_))
   | exact G _ _ _ _
   | exact cD.mono _ _
   | exact bk.none _
   | refine bk.ite ?_ ?_
   | refine bk.bind ?_ (fun _=> ?_)
def Bm.f (j:Int) (G:Int) (I:Int):Option (Int×Int):=some ((((j - G) % 4294967296) - I) % 4294967296,(Go.bits .or .u32 (Go.bits .and .u32 (Go.bits .xor .u32 4294967295 j) G) (Go.bits .and .u32 (Go.bits .xor .u32 4294967295 (Go.bits .xor .u32 j G)) ((((j - G) % 4294967296) - I) % 4294967296))) / 2147483648)
end Go.Proofs.YtamcpiicmfielaaGreat.F
namespace Go.Proofs.YtamcpiicmfielaaGreat.Sp
open Go.RowKit
def vB (l:List UInt8):Nat:=l.foldl (fun n c=>n*256+c.toNat) 0
theorem zD:vB []=0:=rfl
theorem vN (l:List UInt8) (c:UInt8):vB (l ++ [c])=vB l*256+c.toNat:=by simp [vB,List.foldl_append]
theorem KD (l:List UInt8):∀ a:Nat,l.foldl (fun n c=>n*256+c.toNat) a=a*256 ^ l.length+vB l:=by
 induction l with
 | nil=>intro a;simp [vB]
 | cons c l j=>
  intro a
  rw [vB,List.foldl_cons,List.foldl_cons,j,j (0*256+c.toNat),List.length_cons,Nat.pow_succ]
  simp only [Nat.add_mul,Nat.zero_mul,Nat.zero_add,Nat.mul_assoc,Nat.mul_comm 256]
  omega
theorem la (c:UInt8) (l:List UInt8):vB (c :: l)=c.toNat*256 ^ l.length+vB l:=by
 rw [vB,List.foldl_cons,KD];simp
theorem GQ (l m:List UInt8):vB (l ++ m)=vB l*256 ^ m.length+vB m:=by
 rw [vB,List.foldl_append,KD];rfl
theorem nZ (l:List UInt8):vB l < 256 ^ l.length:=by
 induction l with
 | nil=>simp [vB]
 | cons c l j=>
  rw [la,List.length_cons,Nat.pow_succ]
  have:=c.toNat_lt
  have h:c.toNat*256 ^ l.length≤255*256 ^ l.length:=Nat.mul_le_mul_right _ (by omega)
  omega
def toB (n:Nat):List UInt8:=if h:n=0 then [] else toB (n / 256) ++ [UInt8.ofNat n]
termination_by n
decreasing_by omega
theorem toB_zero:toB 0= []:=by rw [toB];simp
theorem toB_pos {n:Nat} (h:n≠0):toB n=toB (n / 256) ++ [UInt8.ofNat n]:=by rw [toB,dif_neg h]
theorem zE (n:Nat):vB (toB n)=n:=by
 induction n using Nat.strongRecOn with
 | _ n j=>
  by_cases h:n=0
  ·subst h;rw [toB_zero];rfl
  ·rw [toB_pos h,vN,j _ (by omega)]
   have:(UInt8.ofNat n).toNat=n % 256:=by simp [UInt8.toNat_ofNat']
   omega
def pZ:List UInt8→Prop
 | []=>True
 | c :: _=>c≠0
theorem Pc {l:List UInt8} (h:pZ l) (G:l≠ []):0 < vB l:=by
 cases l with
 | nil=>exact absurd rfl G
 | cons c l=>
  rw [la]
  have j:0 < c.toNat:=Nat.pos_of_ne_zero (fun e=>h (UInt8.toNat_inj.1 (by simpa using e)))
  have:=Nat.mul_pos j (Nat.pow_pos (n:=l.length) (by decide:0 < 256))
  omega
theorem YX (a:Nat) (c:UInt8):UInt8.ofNat (a*256+c.toNat)=c:=by
 apply UInt8.toNat_inj.1
 simp
theorem toB_of_lead (l:List UInt8) (h:pZ l):toB (vB l)=l:=by
 induction G:l.length generalizing l with
 | zero=>rw [List.length_eq_zero_iff.1 G,zD,toB_zero]
 | succ n N=>
  have j:l≠ []:=fun e=>by rw [e] at G;simp at G
  have e:=List.dropLast_concat_getLast j
  have O:=Pc h j
  rw [toB_pos (by omega)]
  have J:pZ l.dropLast:=by
   cases l with
   | nil=>exact absurd rfl j
   | cons c l=>
    cases l with
    | nil=>exact True.intro
    | cons d l=>exact h
  have M:vB l=vB l.dropLast*256+(l.getLast j).toNat:=by rw [← vN,e]
  have I:vB l / 256=vB l.dropLast:=by have:=(l.getLast j).toNat_lt;omega
  rw [I,N l.dropLast J (by simp [G]),M,YX,e]
theorem xX {n m : Nat} (h : n < 256 ^ m) : (toB n).length ≤ m := by
  induction m generalizing n with
  | zero => have : n = 0 := by simpa using h
            rw [this, toB_zero]; simp
  | succ m G =>
    by_cases j : n = 0
    · rw [j, toB_zero]; simp
    · rw [toB_pos j, List.length_append]
      have := G (n := n / 256) (by rw [Nat.pow_succ] at h; omega)
      simp; omega
theorem Ls {n m:Nat} (h:(toB n).length≤m):n < 256 ^ m:=by
 have j:=nZ (toB n)
 rw [zE] at j
 exact Nat.lt_of_lt_of_le j (Nat.pow_le_pow_right (by decide) h)
theorem Xk {n m:Nat} (h:m < (toB n).length):256 ^ m≤n:=by
 rcases Nat.lt_or_ge n (256 ^ m) with j | j
 ·have:=xX j;omega
 ·exact j
def nS (l:List UInt8):List UInt8:=l.dropWhile (· ==0)
theorem aea (l:List UInt8):vB (nS l)=vB l:=by
 induction l with
 | nil=>rfl
 | cons c l G=>
  unfold nS at*
  rw [List.dropWhile_cons]
  split
  ·rename_i j
   have:c=0:=by simpa using j
   rw [G,la,this];simp
  ·rfl
theorem Xm (l:List UInt8):pZ (nS l):=by
 induction l with
 | nil=>exact True.intro
 | cons c l G=>
  unfold nS at*
  rw [List.dropWhile_cons]
  split
  ·exact G
  ·rename_i j
   exact fun e=>j (by simpa using e)
theorem toB_vB (l:List UInt8):toB (vB l)=nS l:=by rw [← aea,toB_of_lead _ (Xm l)]
def az (n:Nat):ByteArray:= ⟨(toB n).toArray⟩
def vS (s:ByteArray):Nat:=vB s.data.toList
theorem jc (n:Nat):vS (az n)=n:=zE n
theorem oQ (n:Nat):(az n).data.toList=toB n:=by simp [az]
theorem kV (n:Nat):(az n).size=(toB n).length:=by simp [az,ByteArray.size]
theorem ld (s:ByteArray):vS s < 256 ^ s.size:=by
 have:=nZ s.data.toList
 rwa [Array.length_toList] at this
theorem abL {n m:Nat} (h:n < 256 ^ m):(az n).size≤m:=by rw [kV];exact xX h
theorem nj {a b:ByteArray} (h:a.data.toList=b.data.toList):a=b:=by
 cases a;cases b;simpa using h
theorem tH (s:ByteArray) (h:pZ s.data.toList):az (vS s)=s:=by
 apply nj
 rw [oQ]
 exact toB_of_lead _ h
def vL:List Int→Nat
 | []=>0
 | x :: j=>x.toNat+4294967296*vL j
def aI (l:List Int):Prop:=∀ x ∈ l,0≤x∧x < 4294967296
def toL (n:Nat):List Int:=if h:n=0 then [] else ((n % 4294967296:Nat):Int) :: toL (n / 4294967296)
termination_by n
decreasing_by omega
theorem toL_zero:toL 0= []:=by rw [toL];simp
theorem toL_pos {n:Nat} (h:n≠0):toL n=((n % 4294967296:Nat):Int) :: toL (n / 4294967296):=by rw [toL,dif_neg h]
theorem oS:aI []:=fun _ h=>by cases h
theorem my {x:Int} {l:List Int} :aI (x :: l)↔(0≤x∧x < 4294967296)∧aI l:=by simp [aI]
theorem tL {l m:List Int} :aI (l ++ m)↔aI l∧aI m:=by
 simp only [aI,List.mem_append]
 exact ⟨fun h=> ⟨fun x j=>h x (.inl j),fun x j=>h x (.inr j)⟩,fun h x j=>j.elim (h.1 x) (h.2 x)⟩
theorem nH {l:List Int} (h:aI l) (k:Nat):aI (l.take k):=fun x j=>h x (List.mem_of_mem_take j)
theorem fg {l:List Int} (h:aI l) (i:Nat) (x:Int) (G:0≤x) (I:x < 4294967296):aI (l.set i x):=fun y j=>by
 rcases List.mem_or_eq_of_mem_set j with j | rfl
 ·exact h y j
 ·exact ⟨G,I⟩
theorem kM (n:Nat):aI (List.replicate n 0):=fun x j=>by rw [(List.mem_replicate.1 j).2];omega
theorem cp:vL []=0:=rfl
theorem bU (x:Int) (l:List Int):vL (x :: l)=x.toNat+4294967296*vL l:=rfl
theorem mc (l m:List Int):vL (l ++ m)=vL l+4294967296 ^ l.length*vL m:=by
 induction l with
 | nil=>simp [vL]
 | cons x l j=>simp only [List.cons_append,bU,j,List.length_cons,Nat.pow_succ];grind
theorem dD {l:List Int} (h:aI l):vL l < 4294967296 ^ l.length:=by
 induction l with
 | nil=>simp [vL]
 | cons x l j=>
  rw [my] at h
  have:=j h.2
  rw [bU,List.length_cons,Nat.pow_succ]
  omega
theorem GS (n:Nat):vL (List.replicate n 0)=0:=by
 induction n with
 | zero=>rfl
 | succ n j=>rw [List.replicate_succ,bU,j];simp
theorem cK (n:Nat):vL (toL n)=n:=by
 induction n using Nat.strongRecOn with
 | _ n j=>
  by_cases h:n=0
  ·subst h;rw [toL_zero];rfl
  ·rw [toL_pos h,bU,j _ (by omega)]
   omega
theorem jK (n:Nat):aI (toL n):=by
 induction n using Nat.strongRecOn with
 | _ n j=>
  by_cases h:n=0
  ·subst h;rw [toL_zero];exact oS
  ·rw [toL_pos h,my]
   exact ⟨by omega,j _ (by omega)⟩
def Trim (l:List Int):Prop:=∀ h:l≠ [],l.getLast h≠0
theorem Pa {x:Int} {l:List Int} (h:Trim (x :: l)):Trim l:=fun j=>by
 have:=h (by simp)
 rwa [List.getLast_cons j] at this
theorem aeb {l:List Int} (h:aI l) (G:Trim l) (I:l≠ []):0 < vL l:=by
 induction l with
 | nil=>exact absurd rfl I
 | cons x l J=>
  rw [my] at h
  rw [bU]
  by_cases j:l= []
  ·subst j
   have:=G (by simp)
   simp at this
   omega
  ·have:=J h.2 (Pa G) j
   omega
theorem toL_vL {l:List Int} (h:aI l) (j:Trim l):toL (vL l)=l:=by
 induction l with
 | nil=>rw [cp,toL_zero]
 | cons x l J=>
  have M:=aeb h j (by simp)
  rw [toL_pos (by omega)]
  rw [my] at h
  have G:vL (x :: l) % 4294967296=x.toNat:=by rw [bU];omega
  have I:vL (x :: l) / 4294967296=vL l:=by rw [bU];omega
  rw [G,I,J h.2 (Pa j)]
  congr 1
  omega
theorem ad2:Trim []:=fun h=>absurd rfl h
theorem GO (n:Nat):Trim (toL n):=by
 induction n using Nat.strongRecOn with
 | _ n I=>
  by_cases h:n=0
  ·subst h;rw [toL_zero];exact ad2
  ·rw [toL_pos h]
   intro J
   by_cases j:n / 4294967296=0
   ·have e:toL (n / 4294967296)= []:=by rw [j,toL_zero]
    simp only [e,List.getLast_singleton]
    omega
   ·have G:toL (n / 4294967296)≠ []:=fun e=>by have:=congrArg vL e;rw [cK] at this;exact j this
    rw [List.getLast_cons G]
    exact I _ (by omega) G
theorem toL_nil_iff (n:Nat):toL n= []↔n=0:=
 ⟨fun e=>by have:=congrArg vL e;rwa [cK] at this,fun e=>by rw [e,toL_zero]⟩
theorem kJ {n m : Nat} (h : n < 4294967296 ^ m) : (toL n).length ≤ m := by
  induction m generalizing n with
  | zero => have : n = 0 := by simpa using h
            rw [this, toL_zero]; simp
  | succ m G =>
    by_cases j : n = 0
    · rw [j, toL_zero]; simp
    · rw [toL_pos j, List.length_cons]
      have := G (n := n / 4294967296) (by rw [Nat.pow_succ] at h; omega)
      omega
theorem lz {n m:Nat} (h:(toL n).length≤m):n < 4294967296 ^ m:=by
 have j:=dD (jK n)
 rw [cK] at j
 exact Nat.lt_of_lt_of_le j (Nat.pow_le_pow_right (by decide) h)
theorem K8 {n m:Nat} (h:m < (toL n).length):4294967296 ^ m≤n:=by
 rcases Nat.lt_or_ge n (4294967296 ^ m) with j | j
 ·have:=kJ j;omega
 ·exact j
theorem mZ (l:List Int) (k:Nat) (j:k≤l.length):vL l=vL (l.take k)+4294967296 ^ k*vL (l.drop k):=by
 have e:=mc (l.take k) (l.drop k)
 rw [List.take_append_drop,List.length_take,Nat.min_eq_left j] at e
 exact e
theorem n7 (l:List Int) (i:Nat) (j:i < l.length) (x:Int):vL (l.set i x)+4294967296 ^ i*(l[i]).toNat=vL l+4294967296 ^ i*x.toNat:=by
 induction l generalizing i with
 | nil=>simp at j
 | cons y l J=>
  cases i with
  | zero=>simp [bU];omega
  | succ i=>
   have:=J i (by simpa using j)
   rw [List.set_cons_succ,bU,bU,Nat.pow_succ,List.getElem_cons_succ]
   have G:4294967296 ^ i*4294967296*(l[i]'(by simpa using j)).toNat=4294967296*(4294967296 ^ i*(l[i]'(by simpa using j)).toNat):=by rw [Nat.mul_right_comm,Nat.mul_comm]
   have I:4294967296 ^ i*4294967296*x.toNat=4294967296*(4294967296 ^ i*x.toNat):=by rw [Nat.mul_right_comm,Nat.mul_comm]
   rw [G,I]
   omega
end Go.Proofs.YtamcpiicmfielaaGreat.Sp
namespace Go.Proofs.YtamcpiicmfielaaGreat.Sp
open Go.RowKit Go.Proofs.YtamcpiicmfielaaGreatW.PrintWords Go.Proofs.YtamcpiicmfielaaGreatW.PrintMore
theorem vO {n:Int} (j: -9223372036854775808≤n) (G:n≤9223372036854775807):wrap64 n=n:=by unfold wrap64;omega
theorem GP {n:Int} (j:0≤n) (G:n < 18446744073709551616):IntKind.u64.wrap n=n:=by rw [IntKind.wrap_u64];omega
theorem Z6 {l:List Int} {i:Int} (h:i.toNat < l.length):rd l i=l[i.toNat]:=by
 unfold rd;rw [List.getD_eq_getElem?_getD,List.getElem?_eq_getElem h,Option.getD_some]
theorem Z7 {l:List Int} {i:Nat} (h:i < l.length):rd l (i:Int)=l[i]:=by
 rw [Z6 (by simpa using h)];simp
theorem Br {s:ByteArray} {i:Nat} (h:i < s.data.toList.length):bt s (i:Int)=((s.data.toList[i]).toNat:Int):=by
 have j:i < s.size:=by rwa [Array.length_toList] at h
 unfold bt
 rw [dif_pos (by simpa using j)]
 rfl
theorem mr (s:ByteArray):s.data.toList.length=s.size:=by rw [Array.length_toList];rfl
theorem toList_nil (s:ByteArray):s.toList= []↔s.data.toList= []:=by rw [Lib.toList_data]
theorem J3 (s:ByteArray) (a:Nat):(s.extract a s.size).data.toList=s.data.toList.drop a:=by
 rw [Lib.extract_data,List.take_of_length_le]
 rw [List.length_drop,mr]
 exact Nat.le_refl _
theorem acP {c:UInt8} (h:c≠0) (l:List UInt8):nS (c :: l)=c :: l:=by
 unfold nS;rw [List.dropWhile_cons,if_neg (by simpa using h)]
theorem x4 (s:ByteArray):(az (vS s)).data.toList=nS s.data.toList:=by rw [oQ];exact toB_vB _
def To {α:Type} (g:Nat→Option α) (r:α):Prop:=∃ k,g k=some r
theorem To.bind {α j:Type} {g:Nat→Option α} {f:Nat→α→Option j} (I:∀ k,bk (g k) (g (k+1))) (G:∀ x k,bk (f k x) (f (k+1) x)) {a:α} {r:j} (h:To g a) (k:To (fun n=>f n a) r):To (fun n=>(g n).bind (f n)) r:=by
 obtain ⟨m,J⟩:=h
 obtain ⟨n,M⟩:=k
 refine ⟨max m n, ?_⟩
 show (g (max m n)).bind (f (max m n))=some r
 rw [Bh I (Nat.le_max_left m n) J,Option.bind_some]
 exact Bh (g:=fun n=>f n a) (G a) (Nat.le_max_right m n) M
theorem To.at {α:Type} {g:Nat→Option α} {r:α} (j:∀ k,bk (g k) (g (k+1))) (h:To g r):∃ K,∀ k,K≤k→g k=some r:=by
 obtain ⟨m,I⟩:=h
 exact ⟨m,fun k G=>Bh j G I⟩
end Go.Proofs.YtamcpiicmfielaaGreat.Sp
namespace Go.Proofs.YtamcpiicmfielaaGreat.F
open Go.RowKit Go.Proofs.YtamcpiicmfielaaGreat.Sp Go.Proofs.YtamcpiicmfielaaGreatW.PrintWords Go.Proofs.YtamcpiicmfielaaGreatW.PrintMore
theorem acS (n:Nat):∀ (s:ByteArray),s.size=n→∀ k,n < k→cD.l0 k s=some (az (vS s)):=by
 induction n with
 | zero=>
  intro s G k M
  obtain ⟨k,rfl⟩:∃ m,k=m+1:= ⟨k - 1,by omega⟩
  have j:s.data.toList= []:=List.length_eq_zero_iff.1 (by rw [mr,G])
  simp only [cD.l0]
  rw [if_pos ((toList_nil s).2 j)]
  congr 1
  apply nj
  rw [x4,j];rfl
 | succ n N=>
  intro s G k M
  obtain ⟨k,rfl⟩:∃ m,k=m+1:= ⟨k - 1,by omega⟩
  obtain ⟨c,t,j⟩:∃ c t,s.data.toList=c :: t:=by
   cases h:s.data.toList with
   | nil=>have:=mr s;rw [h,G] at this;simp at this
   | cons c t=>exact ⟨c,t,rfl⟩
  have J:bt s 0=(c.toNat:Int):=by
   have:=Br (s:=s) (i:=0) (by rw [j];simp)
   simpa [j] using this
  simp only [cD.l0]
  rw [if_neg (by rw [toList_nil,j];simp),if_pos (by omega)]
  by_cases I:c=0
  ·subst I
   rw [if_pos (by rw [J];rfl),if_pos (by omega),N (s.extract 1 s.size) (by rw [← mr,J3,j];have:=mr s;rw [j,G] at this;simpa using this) k (by omega)]
   congr 1
   apply nj
   rw [x4,x4,J3,j];rfl
  ·rw [if_neg (by
    rw [J]
    intro e
    exact I (UInt8.toNat_inj.1 (by have:c.toNat=0:=(by omega);simpa using this)))]
   congr 1
   apply nj
   rw [x4,j,acP I]
theorem acU (s:ByteArray):To (fun k=>cD.f k s) (az (vS s)):= ⟨s.size+1,acS s.size s rfl _ (by omega)⟩
theorem Cc {l:List Int} (h:aI l) (M:l≠ []→4294967296 ^ (l.length - 1)≤vL l):l=toL (vL l):=by
 refine (toL_vL h ?_).symm
 intro G I
 have e:=List.dropLast_concat_getLast G
 have j:=M G
 rw [← e,mc,I] at j
 have J:=dD (l:=l.dropLast) (by rw [← e,tL] at h;exact h.1)
 simp [bU,cp] at j J
 omega
theorem Ld {l:List Int} (h:aI l) (i:Nat) (G:i < l.length):4294967296 ^ i*(l[i]).toNat≤vL l:=by
 have j:=n7 l i G 0
 simp at j
 omega
theorem Zx (q r:Nat):(256:Nat) ^ (4*q+r)=4294967296 ^ q*256 ^ r:=by
 rw [Nat.pow_add,Nat.pow_mul]
theorem DP (r:Nat):(2:Nat) ^ (8*r)=256 ^ r:=by rw [Nat.pow_mul]
theorem K3 (n i:Nat) (h:i < n) (j:n≤140737488355328):wrap64 ((wrap64 ((n:Int) - 1)) - (i:Int))=((n - 1 - i:Nat):Int):=by
 rw [show wrap64 ((n:Int) - 1)=(n:Int) - 1 from vO (by omega) (by omega)]
 exact (vO (by omega) (by omega)).trans (by omega)
theorem CM (i:Nat):Int.tdiv (i:Int) 4=((i / 4:Nat):Int):=by rw [Int.tdiv_eq_ediv_of_nonneg (by omega)];rfl
theorem CN (i:Nat):Int.tmod (i:Int) 4=((i % 4:Nat):Int):=by rw [Int.tmod_eq_emod_of_nonneg (by omega)];rfl
theorem K4 (i:Nat) (h:i≤140737488355328):wrap64 (((i / 4:Nat):Int))=((i / 4:Nat):Int):=vO (by omega) (by omega)
theorem K5 (i:Nat):wrap64 (8*((i % 4:Nat):Int))=((8*(i % 4):Nat):Int):=(vO (by omega) (by omega)).trans (by omega)
theorem K6 (i:Nat) (h:i≤140737488355328):wrap64 ((i:Int)+1)=((i+1:Nat):Int):=(vO (by omega) (by omega)).trans (by omega)
theorem XC (t:ByteArray) (b6:t.size≤140737488355328) (d:Nat):∀ (k i:Nat) (out:List Int),i+d=t.size→d < k→aI out→out.length=(t.size+3) / 4→
  vL out=vB (t.data.toList.drop (t.size - i))→∃ r,da.l0 k t out (t.size:Int) (i:Int)=some r∧aI r∧r.length=(t.size+3) / 4∧vL r=vS t:=by
 induction d with
 | zero=>
  intro k i out a4 a5 G N M
  obtain ⟨k,rfl⟩:∃ m,k=m+1:= ⟨k - 1,by omega⟩
  refine ⟨out, ?_,G,N, ?_⟩
  ·simp only [da.l0];rw [if_neg (by omega)]
  ·rw [M,show t.size - i=0 by omega];rfl
 | succ d b2=>
  intro k i out a4 a5 G N M
  obtain ⟨k,rfl⟩:∃ m,k=m+1:= ⟨k - 1,by omega⟩
  have J:i / 4 < out.length:=by omega
  have S:t.size - 1 - i < t.data.toList.length:=by rw [mr];omega
  have b0:rd out ((i / 4:Nat):Int)=out[i / 4]:=Z7 J
  have a2:=Br (s:=t) S
  have a6:=G _ (List.getElem_mem J)
  have b4:=(t.data.toList[t.size - 1 - i]).toNat_lt
  have a3:t.data.toList.drop (t.size - (i+1))=t.data.toList[t.size - 1 - i] :: t.data.toList.drop (t.size - i):=by
   rw [show t.size - (i+1)=t.size - 1 - i by omega,List.drop_eq_getElem_cons S,show t.size - 1 - i+1=t.size - i by omega]
  generalize t.data.toList[t.size - 1 - i]=c at*
  have U:(t.data.toList.drop (t.size - i)).length=i:=by rw [List.length_drop,mr];omega
  have ab:(256:Nat) ^ i=4294967296 ^ (i / 4)*256 ^ (i % 4):=by rw [← Zx];congr 1;omega
  have O:(out[i / 4]).toNat < 256 ^ (i % 4):=by
   have j:=Ld G (i / 4) J
   have I:=nZ (t.data.toList.drop (t.size - i))
   rw [U,← M,ab] at I
   exact Nat.lt_of_mul_lt_mul_left (Nat.lt_of_le_of_lt j I)
  have b3:(256:Nat) ^ (i % 4)≤16777216:=by
   have:i % 4≤3:=by omega
   exact Nat.pow_le_pow_right (by decide) this
  have b5:c.toNat*256 ^ (i % 4)≤255*256 ^ (i % 4):=Nat.mul_le_mul_right _ (by omega)
  have b1:shl .u32 ((bt t ((t.size - 1 - i:Nat):Int)) % 4294967296) ((8*(i % 4):Nat):Int)=((c.toNat*256 ^ (i % 4):Nat):Int):=by
   unfold shl
   rw [a2,IntKind.wrap_u32,Int.toNat_natCast]
   have j:min (8*(i % 4)) IntKind.u32.bits=8*(i % 4):=Nat.min_eq_left (by simp [IntKind.bits];omega)
   have I:((c.toNat:Int) % 4294967296)=(c.toNat:Int):=by omega
   have a0:((2:Int) ^ (8*(i % 4)))=((256 ^ (i % 4):Nat):Int):=by rw [← DP];norm_cast
   rw [j,I,a0,← Int.natCast_mul]
   exact Int.emod_eq_of_lt (by omega) (by omega)
  have a7:Go.bits .or .u32 (out[i / 4]) (((c.toNat*256 ^ (i % 4):Nat):Int))=((out[i / 4].toNat+c.toNat*256 ^ (i % 4):Nat):Int):=by
   obtain ⟨a,a1⟩:=Int.eq_ofNat_of_zero_le a6.1
   rw [a1] at O ⊢
   simp only [Int.toNat_natCast] at O ⊢
   rw [u32_or_nat _ _ (by omega) (by omega),Nat.or_comm,nat_join (8*(i % 4)) _ _ (by rw [DP,Nat.mul_mod_left]) (by rw [DP];exact O),Nat.add_comm]
  have Z:(0:Int)≤((out[i / 4].toNat+c.toNat*256 ^ (i % 4):Nat):Int)∧((out[i / 4].toNat+c.toNat*256 ^ (i % 4):Nat):Int) < 4294967296:=by omega
  obtain ⟨r,bx,bD⟩:=b2 k (i+1) (out.set (i / 4) ((out[i / 4].toNat+c.toNat*256 ^ (i % 4):Nat):Int)) (by omega) (by omega) (fg G _ _ Z.1 Z.2) (by rw [List.length_set];exact N) (by
   have j:=n7 out (i / 4) J ((out[i / 4].toNat+c.toNat*256 ^ (i % 4):Nat):Int)
   rw [Int.toNat_natCast,Nat.mul_add,← Nat.mul_assoc,Nat.mul_right_comm,← ab,M] at j
   rw [a3,la,U]
   have e:=Nat.mul_comm (256 ^ i) c.toNat
   omega)
  refine ⟨r, ?_,bD⟩
  simp only [da.l0]
  rw [CM,CN,K4 i (by omega),K3 t.size i (by omega) (by omega),K5,K6 i (by omega),b0,b1,a7]
  rw [if_pos (by omega),if_pos (by omega),if_pos (by omega),if_pos (by omega),if_pos (by omega),if_pos (by omega)]
  rw [Int.toNat_natCast]
  exact bx
def b9 (a b:Nat):Int:=if a < b then -1 else if b < a then 1 else 0
end Go.Proofs.YtamcpiicmfielaaGreat.F
namespace Go.Proofs.YtamcpiicmfielaaGreat.F
open Go.RowKit Go.Proofs.YtamcpiicmfielaaGreat.Sp Go.Proofs.YtamcpiicmfielaaGreatW.PrintWords Go.Proofs.YtamcpiicmfielaaGreatW.PrintMore
theorem kD (l:List Int) (i:Nat) (j:i < l.length):vL (l.take (i+1))=vL (l.take i)+4294967296 ^ i*(l[i]).toNat:=by
 rw [List.take_succ_eq_append_getElem j,mc,List.length_take,Nat.min_eq_left (by omega),bU,cp];simp
theorem rQ (l:List Int) (x:Int):vL (l ++ [x])=vL l+4294967296 ^ l.length*x.toNat:=by rw [mc,bU,cp];simp
theorem zz (l:List Int) (i:Nat) (j:i < l.length) (x:Int):(l.set i x).take (i+1)=l.take i ++ [x]:=by
 rw [List.take_succ_eq_append_getElem (by simpa using j),List.getElem_set_self,List.take_set_of_le (Nat.le_refl _)]
theorem YK {x:Int} (h:0≤x):∃ a:Nat,x=(a:Int):=Int.eq_ofNat_of_zero_le h
theorem Xu {l:List Int} (h:aI l) (i:Nat) (G:i < l.length):∃ a:Nat,a < 4294967296∧l[i]=(a:Int):=by
 have:=h _ (List.getElem_mem G)
 obtain ⟨a,j⟩:=YK this.1
 exact ⟨a,by omega,j⟩
theorem eF {a:Nat} (h:a < 18446744073709551616):IntKind.u64.wrap (a:Int)=(a:Int):=GP (by omega) (by omega)
theorem nb {c a:Nat} (j:a < 4294967296) (h:c+a < 18446744073709551616):IntKind.u64.wrap ((c:Int)+IntKind.u64.wrap (a:Int))=((c+a:Nat):Int):=by
 rw [eF (a:=a) (by omega),← Int.natCast_add,eF h]
theorem ly (n:Nat):(0:Int)≤((n % 4294967296:Nat):Int)∧((n % 4294967296:Nat):Int) < 4294967296:=by omega
theorem Sk {p n v c o:Nat} (h:v+p*c=o):v+p*(n % 4294967296)+p*4294967296*(n / 4294967296)+p*c=o+p*n:=by
 have e:p*(n % 4294967296)+p*4294967296*(n / 4294967296)=p*n:=by
  rw [Nat.mul_assoc,← Nat.mul_add,Nat.mod_add_div]
 omega
theorem Bl (x:Nat) (h:x < 4294967296):x / 2147483648=if 2147483648≤x then 1 else 0:=by split <;> omega
theorem O2 (x y:Nat) (G:x < 4294967296) (I:y < 4294967296):(x &&& y) / 2147483648=x / 2147483648*(y / 2147483648):=by
 rw [show (2147483648:Nat)=2 ^ 31 from rfl,Nat.and_div_two_pow,← show (2147483648:Nat)=2 ^ 31 from rfl]
 rcases (show x / 2147483648=0∨x / 2147483648=1 by omega) with h | h <;> rcases (show y / 2147483648=0∨y / 2147483648=1 by omega) with j | j <;> rw [h,j] <;> rfl
theorem adX (x y:Nat) (G:x < 4294967296) (I:y < 4294967296):(x ||| y) / 2147483648=max (x / 2147483648) (y / 2147483648):=by
 rw [show (2147483648:Nat)=2 ^ 31 from rfl,Nat.or_div_two_pow,← show (2147483648:Nat)=2 ^ 31 from rfl]
 rcases (show x / 2147483648=0∨x / 2147483648=1 by omega) with h | h <;> rcases (show y / 2147483648=0∨y / 2147483648=1 by omega) with j | j <;> rw [h,j] <;> rfl
theorem GK (x y:Nat) (G:x < 4294967296) (I:y < 4294967296):(x ^^^ y) / 2147483648=(x / 2147483648+y / 2147483648) % 2:=by
 rw [show (2147483648:Nat)=2 ^ 31 from rfl,Nat.xor_div_two_pow,← show (2147483648:Nat)=2 ^ 31 from rfl]
 rcases (show x / 2147483648=0∨x / 2147483648=1 by omega) with h | h <;> rcases (show y / 2147483648=0∨y / 2147483648=1 by omega) with j | j <;> rw [h,j] <;> rfl
theorem wA {x y:Nat} (j:y < 4294967296):(x &&& y) < 4294967296:=Nat.lt_of_le_of_lt Nat.and_le_right j
theorem n8 {x y:Nat} (j:x < 4294967296) (G:y < 4294967296):(x ^^^ y) < 4294967296:=Nat.xor_lt_two_pow (n:=32) j G
theorem acV (x y b:Nat) (j:x < 4294967296) (G:y < 4294967296) (ab:b≤1):
  Bm.f (x:Int) (y:Int) (b:Int)=some ((((x+8589934592 - y - b) % 4294967296:Nat):Int),((if x < y+b then 1 else 0:Nat):Int)):=by
 have U:((((x:Int) - y) % 4294967296) - b) % 4294967296=(((x+8589934592 - y - b) % 4294967296:Nat):Int):=by omega
 unfold Bm.f
 rw [U]
 have I:(x+8589934592 - y - b) % 4294967296 < 4294967296:=Nat.mod_lt _ (by decide)
 have S:(x+8589934592 - y - b) % 4294967296=if x < y+b then x+4294967296 - y - b else x - y - b:=by split <;> omega
 generalize (x+8589934592 - y - b) % 4294967296=D at*
 rw [show (4294967295:Int)=((4294967295:Nat):Int) from rfl,u32_xor_nat _ _ (by decide) j,u32_xor_nat x y j G,u32_xor_nat _ _ (by decide) (n8 j G),u32_and_nat _ _ (n8 (by decide) j) G,
  u32_and_nat _ _ (n8 (by decide) (n8 j G)) I,u32_or_nat _ _ (wA G) (wA I)]
 have Z:((((4294967295 ^^^ x) &&& y) ||| ((4294967295 ^^^ (x ^^^ y)) &&& D)) / 2147483648:Nat)=if x < y+b then 1 else 0:=by
  rw [adX _ _ (wA G) (wA I),O2 _ _ (n8 (by decide) j) G,O2 _ _ (n8 (by decide) (n8 j G)) I,GK _ _ (by decide) j,GK _ _ (by decide) (n8 j G),GK _ _ j G]
  have O:(4294967295:Nat) / 2147483648=1:=rfl
  rw [O]
  have M:=Bl x j
  have N:=Bl y G
  have J:=Bl D I
  rw [M,N,J,S]
  repeat' split
  all_goals first
   | omega
   | rfl
 congr 2
 rw [show (2147483648:Int)=((2147483648:Nat):Int) from rfl]
 exact_mod_cast Z
end Go.Proofs.YtamcpiicmfielaaGreat.F
namespace Go.Proofs.YtamcpiicmfielaaGreat.F
open Go.RowKit Go.Proofs.YtamcpiicmfielaaGreat.Sp Go.Proofs.YtamcpiicmfielaaGreatW.PrintWords Go.Proofs.YtamcpiicmfielaaGreatW.PrintMore
def na (n r:Nat):Prop:=n < 2 ^ r∧(0 < r→2 ^ (r - 1)≤n)
theorem na.uniq {n r s:Nat} (h:na n r) (k:na n s):r=s:=by
 rcases Nat.lt_trichotomy r s with j | j | j
 ·have:=k.2 (by omega)
  have G:2 ^ r≤2 ^ (s - 1):=Nat.pow_le_pow_right (by decide) (by omega)
  have:=h.1
  omega
 ·exact j
 ·have:=h.2 (by omega)
  have G:2 ^ s≤2 ^ (r - 1):=Nat.pow_le_pow_right (by decide) (by omega)
  have:=k.1
  omega
def aU (n:Nat):Nat:=if n=0 then 0 else n.log2+1
theorem lh (n:Nat):na n (aU n):=by
 unfold aU
 split
 ·rename_i h;subst h;exact ⟨by decide,fun h=>absurd h (by decide)⟩
 ·rename_i h
  exact ⟨Nat.lt_log2_self,fun _=>Nat.log2_self_le h⟩
theorem xQ {x q r:Nat} (c:Nat) (N:q=x / 2 ^ c) (S:0 < q) (h:na q r):na x (c+r):=by
 subst N
 obtain ⟨G,J⟩:=h
 have O:0 < r:=by
  rcases Nat.eq_zero_or_pos r with j | j
  ·rw [j,Nat.pow_zero] at G;omega
  ·exact j
 have M:=J O
 have I:0 < 2 ^ c:=Nat.two_pow_pos c
 refine ⟨?_,fun _=> ?_⟩
 ·rw [Nat.pow_add,Nat.mul_comm];exact (Nat.div_lt_iff_lt_mul I).1 G
 ·rw [show c+r - 1=c+(r - 1) by omega,Nat.pow_add,Nat.mul_comm];exact (Nat.le_div_iff_mul_le I).1 M
theorem Bo {n m:Nat} (h:n < 2 ^ m):aU n≤m:=by
 rcases Nat.lt_or_ge m (aU n) with j | j
 ·have G:=(lh n).2 (by omega)
  have I:2 ^ m≤2 ^ (aU n - 1):=Nat.pow_le_pow_right (by decide) (by omega)
  omega
 ·exact j
theorem Q4 {a q c:Nat} (J:0 < q) (j:a < 4294967296 ^ c):aU (a+4294967296 ^ c*q)=32*c+aU q:=by
 have e:(4294967296:Nat) ^ c=2 ^ (32*c):=by rw [Nat.pow_mul]
 rw [e] at j ⊢
 have I:=Nat.two_pow_pos (32*c)
 have G:q=(a+2 ^ (32*c)*q) / 2 ^ (32*c):=by rw [Nat.add_mul_div_left _ _ I,Nat.div_eq_of_lt j,Nat.zero_add]
 exact ((lh _).uniq (xQ (32*c) G J (lh q)))
theorem ED (a n:Nat) (I:a < 4294967296) (N:n < 32):shl .u64 (IntKind.u64.wrap (a:Int)) (n:Int)=((a*2 ^ n:Nat):Int)∧a*2 ^ n < 4294967296*2 ^ n:=by
 have M:2 ^ n≤2 ^ 31:=Nat.pow_le_pow_right (by decide) (by omega)
 have J:a*2 ^ n < 4294967296*2 ^ n:=Nat.mul_lt_mul_of_pos_right I (Nat.two_pow_pos n)
 have G:a*2 ^ n < 18446744073709551616:=by
  have:(2:Nat) ^ 31=2147483648:=rfl
  omega
 refine ⟨?_,J⟩
 unfold shl
 rw [eF (by omega),Int.toNat_natCast]
 have j:min n IntKind.u64.bits=n:=Nat.min_eq_left (by simp [IntKind.bits];omega)
 rw [j,show ((2:Int) ^ n)=((2 ^ n:Nat):Int) by norm_cast,← Int.natCast_mul]
 exact eF G
theorem EC (c a n:Nat) (M:c < 2 ^ n) (S:n < 32):Go.bits .or .u32 (c:Int) (((a*2 ^ n % 4294967296:Nat)):Int)=((c+a*2 ^ n % 4294967296:Nat):Int)∧c+a*2 ^ n % 4294967296 < 4294967296:=by
 have e:(4294967296:Nat)=2 ^ (32 - n)*2 ^ n:=by rw [← Nat.pow_add,show 32 - n+n=32 by omega]
 have G:a*2 ^ n % 4294967296=a % 2 ^ (32 - n)*2 ^ n:=by
  have j:=Nat.mul_mod_mul_right (2 ^ n) a (2 ^ (32 - n))
  rw [← e] at j
  exact j
 have O:a*2 ^ n % 4294967296 < 4294967296:=Nat.mod_lt _ (by decide)
 have I:a % 2 ^ (32 - n)+1≤2 ^ (32 - n):=Nat.mod_lt _ (Nat.two_pow_pos _)
 have J:(a % 2 ^ (32 - n)+1)*2 ^ n≤2 ^ (32 - n)*2 ^ n:=Nat.mul_le_mul_right _ I
 rw [← e,Nat.add_mul,Nat.one_mul,← G] at J
 have N:c < 4294967296:=by omega
 refine ⟨?_,by omega⟩
 rw [u32_or_nat _ _ N O,Nat.or_comm,nat_join n _ _ (by rw [G];exact Nat.mul_mod_left _ _) M,Nat.add_comm]
theorem UE (V i n:Nat) (x y j:Nat) (h:V / 4294967296 ^ i=x+4294967296*(y+4294967296*j)) (I:n≤32):(V / 2 ^ n / 4294967296 ^ i) % 4294967296=((x+y*4294967296) / 2 ^ n) % 4294967296:=by
 rw [Nat.div_div_eq_div_mul,Nat.mul_comm,← Nat.div_div_eq_div_mul,h]
 have e:(4294967296:Nat)=2 ^ n*2 ^ (32 - n):=by rw [← Nat.pow_add,show n+(32 - n)=32 by omega]
 have G:x+4294967296*(y+4294967296*j)=(x+y*4294967296)+2 ^ n*(2 ^ (32 - n)*4294967296*j):=by
  have:4294967296*(4294967296*j)=2 ^ n*(2 ^ (32 - n)*4294967296*j):=by
   rw [← Nat.mul_assoc (2 ^ n),← Nat.mul_assoc (2 ^ n),← e,Nat.mul_assoc]
  rw [Nat.mul_add,this];omega
 rw [G,Nat.add_mul_div_left _ _ (Nat.two_pow_pos n),show 2 ^ (32 - n)*4294967296*j=4294967296*(2 ^ (32 - n)*j) by grind,Nat.add_mul_mod_self_left]
theorem UL {l:List Int} (I:aI l) (i:Nat) (G:i≤l.length):vL l / 4294967296 ^ i=vL (l.drop i):=by
 have h:=mZ l i G
 have j:=dD (nH I i)
 rw [List.length_take,Nat.min_eq_left G] at j
 rw [h,Nat.add_mul_div_left _ _ (Nat.pow_pos (by decide)),Nat.div_eq_of_lt j,Nat.zero_add]
theorem mod_pow_succ (W i:Nat):W % 4294967296 ^ (i+1)=W % 4294967296 ^ i+4294967296 ^ i*((W / 4294967296 ^ i) % 4294967296):=by
 rw [Nat.pow_succ,Nat.mod_mul]
end Go.Proofs.YtamcpiicmfielaaGreat.F
namespace Go.Proofs.YtamcpiicmfielaaGreat.F
open Go.RowKit Go.Proofs.YtamcpiicmfielaaGreat.Sp Go.Proofs.YtamcpiicmfielaaGreatW.PrintWords Go.Proofs.YtamcpiicmfielaaGreatW.PrintMore
theorem WE {P X Y I j v2 G g r:Nat} (S:X < P) (O:g*j+r=G) (h:r*4294967296+I < g*v2):
  X+P*(G*4294967296+I) < g*(Y+P*(j*4294967296+v2)):=by
 have M:G*4294967296+I+1≤g*(j*4294967296+v2):=by
  rw [← O]
  have:g*(j*4294967296+v2)=g*j*4294967296+g*v2:=by grind
  rw [this]
  omega
 have J:=Nat.mul_le_mul_left P M
 have N:g*(Y+P*(j*4294967296+v2))=g*Y+P*(g*(j*4294967296+v2)):=by grind
 rw [N]
 rw [Nat.mul_add P (G*4294967296+I) 1,Nat.mul_one] at J
 exact Nat.lt_of_lt_of_le (by omega) (Nat.le_trans J (Nat.le_add_left _ _))
theorem WD {P X Y I j v2 G g r:Nat} (ab:Y < P) (a1:1≤j) (a0:g < 4294967296) (Z:g*j+r=G) (h:g*v2≤r*4294967296+I):
  g*(Y+P*(j*4294967296+v2))≤X+P*(G*4294967296+I)+(Y+P*(j*4294967296+v2)):=by
 have M:g*(j*4294967296+v2)≤G*4294967296+I:=by
  rw [← Z]
  have:g*(j*4294967296+v2)=g*j*4294967296+g*v2:=by grind
  rw [this]
  omega
 have N:=Nat.mul_le_mul_left P M
 have O:g*(Y+P*(j*4294967296+v2))=g*Y+P*(g*(j*4294967296+v2)):=by grind
 have S:g*Y≤4294967296*P:=Nat.mul_le_mul (by omega) (by omega)
 have J:4294967296*P≤(j*4294967296+v2)*P:=Nat.mul_le_mul_right P (by omega)
 rw [Nat.mul_comm (j*4294967296+v2)] at J
 rw [O]
 have U:=Nat.add_le_add (Nat.le_trans S J) N
 refine Nat.le_trans U ?_
 rw [Nat.add_comm]
 exact Nat.add_le_add (Nat.le_add_left _ _) (Nat.le_add_left _ _)
theorem WG {P X Y I j v2 G q:Nat} (Z:X < P) (ab:I < 4294967296) (S:1≤j) (M:q*(Y+P*(j*4294967296+v2))≤X+P*(G*4294967296+I)):q≤G / j:=by
 rw [Nat.le_div_iff_mul_le S]
 rcases Nat.lt_or_ge G (q*j) with h | h
 ·exfalso
  have N:G*4294967296+I+1≤q*(j*4294967296+v2):=by
   have:q*(j*4294967296+v2)=q*j*4294967296+q*v2:=by grind
   rw [this]
   omega
  have J:=Nat.mul_le_mul_left P N
  have O:q*(Y+P*(j*4294967296+v2))=q*Y+P*(q*(j*4294967296+v2)):=by grind
  rw [O] at M
  rw [Nat.mul_add P (G*4294967296+I) 1,Nat.mul_one] at J
  have U:=Nat.le_trans (Nat.le_trans J (Nat.le_add_left _ (q*Y))) M
  omega
 ·exact h
theorem Y9 (r u:Nat) (j:r < 4294967296) (G:u < 4294967296):Go.bits .or .u64 (IntKind.u64.wrap ((r:Int)*4294967296)) (IntKind.u64.wrap (u:Int))=((r*4294967296+u:Nat):Int):=by
 rw [eF (a:=u) (by omega),show (r:Int)*4294967296=((r*4294967296:Nat):Int) from rfl,eF (by omega),u64_or_nat _ _ (by omega) (by omega),nat_join 32 _ _ (by omega) (by omega)]
end Go.Proofs.YtamcpiicmfielaaGreat.F
namespace Go.Proofs.YtamcpiicmfielaaGreat.F
open Go.RowKit Go.Proofs.YtamcpiicmfielaaGreat.Sp Go.Proofs.YtamcpiicmfielaaGreatW.PrintWords Go.Proofs.YtamcpiicmfielaaGreatW.PrintMore
theorem Pe {l:List Int} (h:aI l) (i:Nat) (I:i≤l.length) (J:vL (l.drop i)=0):vL l < 4294967296 ^ i:=by
 have j:=mZ l i I
 have G:=dD (nH h i)
 rw [List.length_take,Nat.min_eq_left I] at G
 rw [J,Nat.mul_zero,Nat.add_zero] at j
 rw [j]
 exact G
theorem Pd {l:List Int} (i:Nat) (G:i≤l.length) (h:vL l < 4294967296 ^ i):vL (l.drop i)=0:=by
 have I:=mZ l i G
 rcases Nat.eq_zero_or_pos (vL (l.drop i)) with j | j
 ·exact j
 ·have:=Nat.le_mul_of_pos_right (4294967296 ^ i) j
  omega
theorem Wt {A j y g q:Nat} (h:y+g*j=A) (J:A < (q+1)*j) (I:q≤g):g=q:=by
 rcases Nat.lt_or_ge q g with G | G
 ·exfalso
  have:=Nat.mul_le_mul_right j (show q+1≤g from G)
  omega
 ·omega
theorem Wu {A j y g q Q:Nat} (h:y+g*j=A+Q) (N:y < Q) (M:q*j≤A) (I:q≤g) (J:g≤q+1):g=q+1:=by
 rcases Nat.lt_or_ge q g with G | G
 ·omega
 ·exfalso
  have:g=q:=by omega
  subst this
  omega
theorem acZ {T A p G c b x D J M j B:Nat} (N:J+G=A+p*(c+b)) (S:M+p*x=J+p*D) (O:D+c+b=x+B*j):M+G=A+p*B*j:=by
 have I:=congrArg (p* ·) O
 simp only [Nat.mul_add] at I N
 rw [← Nat.mul_assoc] at I
 generalize p*B*j=a at*
 generalize p*D=d at*
 generalize p*c=e at*
 generalize p*b=f at*
 generalize p*x=k at*
 omega
end Go.Proofs.YtamcpiicmfielaaGreat.F
namespace Go.Proofs.YtamcpiicmfielaaGreat.Sp
def val (n:Bool) (s:ByteArray):Int:=if n=true then -(vS s:Int) else (vS s:Int)
def enc (z:Int):Bool×ByteArray:=(decide (z < 0),az z.natAbs)
def cE (a b:Int):Int:=if a < b then -1 else if b < a then 1 else 0
theorem Wh (j:Bool) (n:Nat):(j&&decide (n≠0),az n)=enc (if j=true then -(n:Int) else (n:Int)):=by
 cases j
 ·simp [enc]
 ·simp only [Bool.true_and,if_true,enc,Int.natAbs_neg,Int.natAbs_natCast,Prod.mk.injEq,and_true]
  rw [decide_eq_decide]
  omega
theorem Pm (z:Int):val (enc z).1 (enc z).2=z:=by
 unfold val enc
 simp only [jc,decide_eq_true_eq]
 split <;> omega
theorem YJ (n:Bool) (s:ByteArray):(val n s).natAbs=vS s:=by
 unfold val
 split <;> omega
end Go.Proofs.YtamcpiicmfielaaGreat.Sp
namespace Go.Proofs.YtamcpiicmfielaaGreat.F
open Go.RowKit Go.Proofs.YtamcpiicmfielaaGreat.Sp Go.Proofs.YtamcpiicmfielaaGreatW.PrintWords Go.Proofs.YtamcpiicmfielaaGreatW.PrintMore
theorem Pn (m:Bool) (t:ByteArray):val (!m) t= -val m t:=by unfold val;cases m <;> simp
end Go.Proofs.YtamcpiicmfielaaGreat.F
namespace Go.Proofs.YtamcpiicmfielaaGreat.Sp
def bF:Nat→Nat
 | 0=>0
 | n+1=>if (bF n+1)*(bF n+1)≤n+1 then bF n+1 else bF n
theorem Ee (n:Nat):bF n*bF n≤n∧n < (bF n+1)*(bF n+1):=by
 induction n with
 | zero=>simp [bF]
 | succ n j=>
  unfold bF
  split
  ·rename_i h
   refine ⟨h, ?_⟩
   have e:(bF n+1+1)*(bF n+1+1)=(bF n+1)*(bF n+1)+2*(bF n+1)+1:=by grind
   rw [e]
   omega
  ·rename_i h
   exact ⟨by omega,by omega⟩
theorem aaI {a r s:Nat} (j:r*r≤a) (G:a < (r+1)*(r+1)) (k1:s*s≤a) (I:a < (s+1)*(s+1)):r=s:=by
 rcases Nat.lt_trichotomy r s with h | h | h
 ·have:=Nat.mul_le_mul (show r+1≤s from h) (show r+1≤s from h)
  omega
 ·exact h
 ·have:=Nat.mul_le_mul (show s+1≤r from h) (show s+1≤r from h)
  omega
theorem QQ (x z:Nat):4*(x*z)≤(x+z)*(x+z):=by
 rcases Nat.le_total x z with h | h
 ·obtain ⟨d,rfl⟩:=Nat.exists_eq_add_of_le h
  have e:(x+(x+d))*(x+(x+d))=4*(x*(x+d))+d*d:=by grind
  omega
 ·obtain ⟨d,rfl⟩:=Nat.exists_eq_add_of_le h
  have e:(z+d+z)*(z+d+z)=4*((z+d)*z)+d*d:=by grind
  omega
theorem x9 {a x:Nat} (I:0 < x):a < ((x+a / x) / 2+1)*((x+a / x) / 2+1):=by
 have J:a < x*(a / x+1):=by rw [Nat.mul_comm];exact Nat.lt_mul_of_div_lt (Nat.lt_succ_self _) I
 have M:=QQ x (a / x+1)
 generalize a / x=q at*
 have j:x+(q+1)≤2*((x+q) / 2+1):=by omega
 have G:=Nat.mul_le_mul j j
 have e:2*((x+q) / 2+1)*(2*((x+q) / 2+1))=4*(((x+q) / 2+1)*((x+q) / 2+1)):=by grind
 rw [e] at G
 omega
theorem YN {a x:Nat} (G:0 < x) (h:x≤(x+a / x) / 2):x*x≤a:=by
 have j:x≤a / x:=by omega
 exact (Nat.le_div_iff_mul_le G).1 j
end Go.Proofs.YtamcpiicmfielaaGreat.Sp
namespace Go.Proofs.YtamcpiicmfielaaGreat.F
open Go.RowKit Go.Proofs.YtamcpiicmfielaaGreat.Sp Go.Proofs.YtamcpiicmfielaaGreatW.PrintWords Go.Proofs.YtamcpiicmfielaaGreatW.PrintMore
theorem xV {a b:Nat} (h:a≤b):(toL a).length≤(toL b).length:=kJ (Nat.lt_of_le_of_lt h (lz (Nat.le_refl _)))
theorem Xs {x y m:Nat} (j:(toL x).length≤m) (G:(toL y).length≤m):(toL (x+y)).length≤m+1:=by
 apply kJ
 have I:=lz j
 have J:=lz G
 rw [Nat.pow_succ]
 generalize 4294967296 ^ m=B at*
 omega
theorem ab0 (k:Nat) (h:k≤1099511627776):List.replicate (k / 32) (0:Int) ++ [shl .u32 1 ((k % 32:Nat):Int)]=toL (2 ^ k):=by
 have N:shl .u32 1 ((k % 32:Nat):Int)=((2 ^ (k % 32):Nat):Int):=by
  unfold shl
  have G:(2:Nat) ^ (k % 32)≤2 ^ 31:=Nat.pow_le_pow_right (by decide) (by omega)
  have I:(2:Nat) ^ 31=2147483648:=rfl
  rw [Int.toNat_natCast,show min (k % 32) IntKind.u32.bits=k % 32 from Nat.min_eq_left (by simp [IntKind.bits];omega),Int.one_mul,show ((2:Int) ^ (k % 32))=((2 ^ (k % 32):Nat):Int) by norm_cast,IntKind.wrap_u32]
  have J:=Nat.two_pow_pos (k % 32)
  generalize 2 ^ (k % 32)=z at*
  omega
 rw [N]
 have G:(2:Nat) ^ (k % 32)≤2 ^ 31:=Nat.pow_le_pow_right (by decide) (by omega)
 have I:(2:Nat) ^ 31=2147483648:=rfl
 have J:=Nat.two_pow_pos (k % 32)
 have j:vL (List.replicate (k / 32) (0:Int) ++ [((2 ^ (k % 32):Nat):Int)])=2 ^ k:=by
  rw [mc,GS,Nat.zero_add,List.length_replicate,bU,cp,Int.toNat_natCast,Nat.mul_zero,Nat.add_zero,show (4294967296:Nat)=2 ^ 32 from rfl,← Nat.pow_mul,← Nat.pow_add]
  congr 1
  omega
 have M:aI (List.replicate (k / 32) (0:Int) ++ [((2 ^ (k % 32):Nat):Int)]):=by
  rw [tL,my]
  exact ⟨kM _, ⟨Int.natCast_nonneg _,by omega⟩,oS⟩
 have:=Cc M (fun _=>by
  rw [j,List.length_append,List.length_replicate,List.length_singleton,Nat.add_sub_cancel,show (4294967296:Nat)=2 ^ 32 from rfl,← Nat.pow_mul]
  exact Nat.pow_le_pow_right (by decide) (by omega))
 rw [j] at this
 exact this
end Go.Proofs.YtamcpiicmfielaaGreat.F
