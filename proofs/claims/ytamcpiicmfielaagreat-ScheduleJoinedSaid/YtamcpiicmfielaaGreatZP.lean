import Derived.Below
import Derived.Tactics
import Derived.Laws.BytesArg
import Derived.Lib.ConvBytes
import Derived.Laws.Slices
import Derived.Lib.Bytes
import Derived.Laws.BitsAllLaws
import Derived.Laws.Bits64
import Derived.KernelRfl
import Derived.RowKit
set_option linter.unusedVariables false
set_option linter.unusedSimpArgs false
namespace Go.Proofs.YtamcpiicmfielaaGreatW.PrintMore
end Go.Proofs.YtamcpiicmfielaaGreatW.PrintMore
namespace Go.Proofs.YtamcpiicmfielaaGreatW.PrintWords
open Go.RowKit
structure Aside0 (p:Prop):Prop where mk :: (out:p)
def rd (xs:List Int) (i:Int):Int:=xs.getD i.toNat 0
def bt (s:ByteArray) (i:Int):Int:=if h:i.toNat < s.size then ((s[i.toNat]'h).toNat:Int) else 0
def LeO {α:Type} (a b:Option α):Prop:=∀ r,a=some r→b=some r
theorem LeO.refl {α:Type} (a:Option α):LeO a a:=fun _ h=>h
theorem LeO.none {α:Type} (b:Option α):LeO Option.none b:=fun _ h=>by cases h
theorem LeO.trans {α:Type} {a b c:Option α} (h:LeO a b) (k:LeO b c):LeO a c:=fun r hr=>k r (h r hr)
theorem LeO.ite {α:Type} {c:Prop} [Decidable c] {a a' b b':Option α} (h:LeO a a') (k:LeO b b'):LeO (if c then a else b) (if c then a' else b'):=by
 split
 ·exact h
 ·exact k
theorem LeO.bind {α β:Type} {a a':Option α} {f f':α→Option β} (h:LeO a a') (k:∀ x,LeO (f x) (f' x)):LeO (a.bind f) (a'.bind f'):=by
 intro r hr
 obtain ⟨x,hx,hf⟩:=Option.bind_eq_some_iff.1 hr
 exact Option.bind_eq_some_iff.2 ⟨x,h x hx,k x r hf⟩
theorem more_rounds {α:Type} {g:Nat→Option α} (h:∀ k,LeO (g k) (g (k+1))) (k:Nat):∀ j,LeO (g k) (g (k+j))
 | 0=>LeO.refl _
 | j+1=>(more_rounds h k j).trans (h (k+j))
theorem at_rounds {α:Type} {g:Nat→Option α} (h:∀ k,LeO (g k) (g (k+1))) {k k':Nat} (hk:k≤k') {r:α} (hr:g k=some r):g k'=some r:=by
 have:=more_rounds h k (k' - k) r hr
 rwa [Nat.add_sub_cancel' hk] at this
def shl (k:IntKind) (x y:Int):Int:=k.wrap (x*2 ^ min y.toNat k.bits)
def shr (k:IntKind) (x y:Int):Int:=x / 2 ^ min y.toNat k.bits
end Go.Proofs.YtamcpiicmfielaaGreatW.PrintWords
namespace Go.Proofs.YtamcpiicmfielaaGreat.F
open Go.RowKit Go.Proofs.YtamcpiicmfielaaGreatW.PrintWords Go.Proofs.YtamcpiicmfielaaGreatW.PrintMore
def bigint_strip.l0:Nat→ByteArray→Option (ByteArray)
 | 0,_=>none
 | k+1,x0=>if x0.toList=([]:List UInt8) then (some x0) else (if 0 < (x0.size:Int) then (if (bt x0 0)=0 then (if 1≤(x0.size:Int) then (bigint_strip.l0 k (x0.extract 1 x0.size)) else (none)) else (some x0)) else (none))
def bigint_strip.f (k:Nat) (a0:ByteArray):Option (ByteArray):=bigint_strip.l0 k a0
theorem bigint_strip.mono_l:∀ k,(∀ y0,LeO (bigint_strip.l0 k y0) (bigint_strip.l0 (k+1) y0))
 | 0=>fun _ r h=>by simp [bigint_strip.l0] at h
 | k+1=>by
  have ih0:=bigint_strip.mono_l k
  ·intro y0
   unfold bigint_strip.l0
   repeat' first
   | (with_reducible exact ih0 _)
   | (with_reducible exact LeO.refl _)
   | (with_reducible exact LeO.none _)
   | (with_reducible refine LeO.ite ?_ ?_)
   | (with_reducible refine LeO.bind ?_ (fun _=> ?_))
   | exact ih0 _
   | exact LeO.none _
   | refine LeO.ite ?_ ?_
   | refine LeO.bind ?_ (fun _=> ?_)
theorem bigint_strip.mono:∀ a0 k,LeO (bigint_strip.f k a0) (bigint_strip.f (k+1) a0):=by
 intro a0 k
 have ih0:=bigint_strip.mono_l k
 unfold bigint_strip.f
 repeat' first
   | (with_reducible exact ih0 _)
   | (with_reducible exact LeO.refl _)
   | (with_reducible exact LeO.none _)
   | (with_reducible refine LeO.ite ?_ ?_)
   | (with_reducible refine LeO.bind ?_ (fun _=> ?_))
   | exact ih0 _
   | exact LeO.none _
   | refine LeO.ite ?_ ?_
   | refine LeO.bind ?_ (fun _=> ?_)
def bigint_load.l0:Nat→ByteArray→List Int→Int→Int→Option (List Int)
 | 0,_,_,_,_=>none
 | k+1,x0,x3,x15,x16=>if x16 < x15 then (if 0≤(wrap64 (Int.tdiv x16 4)) then (if (wrap64 (Int.tdiv x16 4)) < (x3.length:Int) then (if 0≤(wrap64 ((wrap64 ((x0.size:Int) - 1)) - x16)) then (if (wrap64 ((wrap64 ((x0.size:Int) - 1)) - x16)) < (x0.size:Int) then (if 0≤(wrap64 (8*(Int.tmod x16 4))) then (bigint_load.l0 k x0 (x3.set ((wrap64 (Int.tdiv x16 4)):Int).toNat (Go.bits .or .u32 (rd x3 (wrap64 (Int.tdiv x16 4))) (shl .u32 ((bt x0 (wrap64 ((wrap64 ((x0.size:Int) - 1)) - x16))) % 4294967296) (wrap64 (8*(Int.tmod x16 4)))))) x15 (wrap64 (x16+1))) else (none)) else (none)) else (none)) else (none)) else (none)) else (some x3)
def bigint_load.f (k:Nat) (a0:ByteArray):Option (List Int):=(bigint_strip.f k a0).bind fun t105=>(if 0≤(wrap64 (Int.tdiv (wrap64 ((wrap64 ((t105.size:Int)+4)) - 1)) 4)) then (if (wrap64 (Int.tdiv (wrap64 ((wrap64 ((t105.size:Int)+4)) - 1)) 4):Int).toNat≤70368744177664 then (bigint_load.l0 k t105 (List.replicate (wrap64 (Int.tdiv (wrap64 ((wrap64 ((t105.size:Int)+4)) - 1)) 4):Int).toNat 0) (t105.size:Int) 0) else (none)) else (none))
theorem bigint_load.mono_l:∀ k,(∀ y0 y1 y2 y3,LeO (bigint_load.l0 k y0 y1 y2 y3) (bigint_load.l0 (k+1) y0 y1 y2 y3))
 | 0=>fun _ _ _ _ r h=>by simp [bigint_load.l0] at h
 | k+1=>by
  have ih0:=bigint_load.mono_l k
  ·intro y0 y1 y2 y3
   unfold bigint_load.l0
   repeat' first
   | (with_reducible exact ih0 _ _ _ _)
   | (with_reducible exact bigint_strip.mono _ _)
   | (with_reducible exact LeO.refl _)
   | (with_reducible exact LeO.none _)
   | (with_reducible refine LeO.ite ?_ ?_)
   | (with_reducible refine LeO.bind ?_ (fun _=> ?_))
   | exact ih0 _ _ _ _
   | exact bigint_strip.mono _ _
   | exact LeO.none _
   | refine LeO.ite ?_ ?_
   | refine LeO.bind ?_ (fun _=> ?_)
theorem bigint_load.mono:∀ a0 k,LeO (bigint_load.f k a0) (bigint_load.f (k+1) a0):=by
 intro a0 k
 have ih0:=bigint_load.mono_l k
 unfold bigint_load.f
 repeat' first
   | (with_reducible exact ih0 _ _ _ _)
   | (with_reducible exact bigint_strip.mono _ _)
   | (with_reducible exact LeO.refl _)
   | (with_reducible exact LeO.none _)
   | (with_reducible refine LeO.ite ?_ ?_)
   | (with_reducible refine LeO.bind ?_ (fun _=> ?_))
   | exact ih0 _ _ _ _
   | exact bigint_strip.mono _ _
   | exact LeO.none _
   | refine LeO.ite ?_ ?_
   | refine LeO.bind ?_ (fun _=> ?_)
def bits_Sub32.f (a0:Int) (a1:Int) (a2:Int):Option (Int×Int):=some ((((a0 - a1) % 4294967296) - a2) % 4294967296,(Go.bits .or .u32 (Go.bits .and .u32 (Go.bits .xor .u32 4294967295 a0) a1) (Go.bits .and .u32 (Go.bits .xor .u32 4294967295 (Go.bits .xor .u32 a0 a1)) ((((a0 - a1) % 4294967296) - a2) % 4294967296))) / 2147483648)
end Go.Proofs.YtamcpiicmfielaaGreat.F
namespace Go.Proofs.YtamcpiicmfielaaGreat.Sp
open Go.RowKit
def vB (l:List UInt8):Nat:=l.foldl (fun n c=>n*256+c.toNat) 0
theorem vB_nil:vB []=0:=rfl
theorem vB_snoc (l:List UInt8) (c:UInt8):vB (l ++ [c])=vB l*256+c.toNat:=by simp [vB,List.foldl_append]
theorem foldl_from (l:List UInt8):∀ a:Nat,l.foldl (fun n c=>n*256+c.toNat) a=a*256 ^ l.length+vB l:=by
 induction l with
 | nil=>intro a;simp [vB]
 | cons c l ih=>
  intro a
  rw [vB,List.foldl_cons,List.foldl_cons,ih,ih (0*256+c.toNat),List.length_cons,Nat.pow_succ]
  simp only [Nat.add_mul,Nat.zero_mul,Nat.zero_add,Nat.mul_assoc,Nat.mul_comm 256]
  omega
theorem vB_cons (c:UInt8) (l:List UInt8):vB (c :: l)=c.toNat*256 ^ l.length+vB l:=by
 rw [vB,List.foldl_cons,foldl_from];simp
theorem vB_append (l m:List UInt8):vB (l ++ m)=vB l*256 ^ m.length+vB m:=by
 rw [vB,List.foldl_append,foldl_from];rfl
theorem vB_lt (l:List UInt8):vB l < 256 ^ l.length:=by
 induction l with
 | nil=>simp [vB]
 | cons c l ih=>
  rw [vB_cons,List.length_cons,Nat.pow_succ]
  have:=c.toNat_lt
  have h:c.toNat*256 ^ l.length≤255*256 ^ l.length:=Nat.mul_le_mul_right _ (by omega)
  omega
def toB (n:Nat):List UInt8:=if h:n=0 then [] else toB (n / 256) ++ [UInt8.ofNat n]
termination_by n
decreasing_by omega
theorem toB_zero:toB 0= []:=by rw [toB];simp
theorem toB_pos {n:Nat} (h:n≠0):toB n=toB (n / 256) ++ [UInt8.ofNat n]:=by rw [toB,dif_neg h]
theorem vB_toB (n:Nat):vB (toB n)=n:=by
 induction n using Nat.strongRecOn with
 | _ n ih=>
  by_cases h:n=0
  ·subst h;rw [toB_zero];rfl
  ·rw [toB_pos h,vB_snoc,ih _ (by omega)]
   have:(UInt8.ofNat n).toNat=n % 256:=by simp [UInt8.toNat_ofNat']
   omega
def Lead:List UInt8→Prop
 | []=>True
 | c :: _=>c≠0
theorem vB_pos_of_lead {l:List UInt8} (h:Lead l) (hl:l≠ []):0 < vB l:=by
 cases l with
 | nil=>exact absurd rfl hl
 | cons c l=>
  rw [vB_cons]
  have h0:0 < c.toNat:=Nat.pos_of_ne_zero (fun e=>h (UInt8.toNat_inj.1 (by simpa using e)))
  have:=Nat.mul_pos h0 (Nat.pow_pos (n:=l.length) (by decide:0 < 256))
  omega
theorem ofNat_toNat_mod (a:Nat) (c:UInt8):UInt8.ofNat (a*256+c.toNat)=c:=by
 apply UInt8.toNat_inj.1
 simp
theorem toB_of_lead (l:List UInt8) (h:Lead l):toB (vB l)=l:=by
 induction hn:l.length generalizing l with
 | zero=>rw [List.length_eq_zero_iff.1 hn,vB_nil,toB_zero]
 | succ n ih=>
  have hne:l≠ []:=fun e=>by rw [e] at hn;simp at hn
  have e:=List.dropLast_concat_getLast hne
  have hp:=vB_pos_of_lead h hne
  rw [toB_pos (by omega)]
  have hl:Lead l.dropLast:=by
   cases l with
   | nil=>exact absurd rfl hne
   | cons c l=>
    cases l with
    | nil=>exact True.intro
    | cons d l=>exact h
  have hv:vB l=vB l.dropLast*256+(l.getLast hne).toNat:=by rw [← vB_snoc,e]
  have h1:vB l / 256=vB l.dropLast:=by have:=(l.getLast hne).toNat_lt;omega
  rw [h1,ih l.dropLast hl (by simp [hn]),hv,ofNat_toNat_mod,e]
theorem len_toB_le {n m : Nat} (h : n < 256 ^ m) : (toB n).length ≤ m := by
  induction m generalizing n with
  | zero => have : n = 0 := by simpa using h
            rw [this, toB_zero]; simp
  | succ m ih =>
    by_cases h0 : n = 0
    · rw [h0, toB_zero]; simp
    · rw [toB_pos h0, List.length_append]
      have := ih (n := n / 256) (by rw [Nat.pow_succ] at h; omega)
      simp; omega
theorem lt_of_len_toB {n m:Nat} (h:(toB n).length≤m):n < 256 ^ m:=by
 have h1:=vB_lt (toB n)
 rw [vB_toB] at h1
 exact Nat.lt_of_lt_of_le h1 (Nat.pow_le_pow_right (by decide) h)
theorem le_of_len_toB {n m:Nat} (h:m < (toB n).length):256 ^ m≤n:=by
 rcases Nat.lt_or_ge n (256 ^ m) with h1 | h1
 ·have:=len_toB_le h1;omega
 ·exact h1
def strip0 (l:List UInt8):List UInt8:=l.dropWhile (· ==0)
theorem vB_strip0 (l:List UInt8):vB (strip0 l)=vB l:=by
 induction l with
 | nil=>rfl
 | cons c l ih=>
  unfold strip0 at*
  rw [List.dropWhile_cons]
  split
  ·rename_i hc
   have:c=0:=by simpa using hc
   rw [ih,vB_cons,this];simp
  ·rfl
theorem lead_strip0 (l:List UInt8):Lead (strip0 l):=by
 induction l with
 | nil=>exact True.intro
 | cons c l ih=>
  unfold strip0 at*
  rw [List.dropWhile_cons]
  split
  ·exact ih
  ·rename_i hc
   exact fun e=>hc (by simpa using e)
theorem toB_vB (l:List UInt8):toB (vB l)=strip0 l:=by rw [← vB_strip0,toB_of_lead _ (lead_strip0 l)]
def magOf (n:Nat):ByteArray:= ⟨(toB n).toArray⟩
def vS (s:ByteArray):Nat:=vB s.data.toList
theorem vS_magOf (n:Nat):vS (magOf n)=n:=vB_toB n
theorem magOf_data (n:Nat):(magOf n).data.toList=toB n:=by simp [magOf]
theorem size_magOf (n:Nat):(magOf n).size=(toB n).length:=by simp [magOf,ByteArray.size]
theorem vS_lt (s:ByteArray):vS s < 256 ^ s.size:=by
 have:=vB_lt s.data.toList
 rwa [Array.length_toList] at this
theorem size_magOf_le {n m:Nat} (h:n < 256 ^ m):(magOf n).size≤m:=by rw [size_magOf];exact len_toB_le h
theorem bytes_ext {a b:ByteArray} (h:a.data.toList=b.data.toList):a=b:=by
 cases a;cases b;simpa using h
theorem magOf_of_lead (s:ByteArray) (h:Lead s.data.toList):magOf (vS s)=s:=by
 apply bytes_ext
 rw [magOf_data]
 exact toB_of_lead _ h
def vL:List Int→Nat
 | []=>0
 | x :: xs=>x.toNat+4294967296*vL xs
def okL (l:List Int):Prop:=∀ x ∈ l,0≤x∧x < 4294967296
def toL (n:Nat):List Int:=if h:n=0 then [] else ((n % 4294967296:Nat):Int) :: toL (n / 4294967296)
termination_by n
decreasing_by omega
theorem toL_zero:toL 0= []:=by rw [toL];simp
theorem toL_pos {n:Nat} (h:n≠0):toL n=((n % 4294967296:Nat):Int) :: toL (n / 4294967296):=by rw [toL,dif_neg h]
theorem okL_nil:okL []:=fun _ h=>by cases h
theorem okL_cons {x:Int} {l:List Int} :okL (x :: l)↔(0≤x∧x < 4294967296)∧okL l:=by simp [okL]
theorem okL_append {l m:List Int} :okL (l ++ m)↔okL l∧okL m:=by
 simp only [okL,List.mem_append]
 exact ⟨fun h=> ⟨fun x hx=>h x (.inl hx),fun x hx=>h x (.inr hx)⟩,fun h x hx=>hx.elim (h.1 x) (h.2 x)⟩
theorem okL_take {l:List Int} (h:okL l) (k:Nat):okL (l.take k):=fun x hx=>h x (List.mem_of_mem_take hx)
theorem okL_set {l:List Int} (h:okL l) (i:Nat) (x:Int) (h0:0≤x) (h1:x < 4294967296):okL (l.set i x):=fun y hy=>by
 rcases List.mem_or_eq_of_mem_set hy with hy | rfl
 ·exact h y hy
 ·exact ⟨h0,h1⟩
theorem okL_replicate (n:Nat):okL (List.replicate n 0):=fun x hx=>by rw [(List.mem_replicate.1 hx).2];omega
theorem vL_nil:vL []=0:=rfl
theorem vL_cons (x:Int) (l:List Int):vL (x :: l)=x.toNat+4294967296*vL l:=rfl
theorem vL_append (l m:List Int):vL (l ++ m)=vL l+4294967296 ^ l.length*vL m:=by
 induction l with
 | nil=>simp [vL]
 | cons x l ih=>simp only [List.cons_append,vL_cons,ih,List.length_cons,Nat.pow_succ];grind
theorem vL_lt {l:List Int} (h:okL l):vL l < 4294967296 ^ l.length:=by
 induction l with
 | nil=>simp [vL]
 | cons x l ih=>
  rw [okL_cons] at h
  have:=ih h.2
  rw [vL_cons,List.length_cons,Nat.pow_succ]
  omega
theorem vL_replicate (n:Nat):vL (List.replicate n 0)=0:=by
 induction n with
 | zero=>rfl
 | succ n ih=>rw [List.replicate_succ,vL_cons,ih];simp
theorem vL_toL (n:Nat):vL (toL n)=n:=by
 induction n using Nat.strongRecOn with
 | _ n ih=>
  by_cases h:n=0
  ·subst h;rw [toL_zero];rfl
  ·rw [toL_pos h,vL_cons,ih _ (by omega)]
   omega
theorem okL_toL (n:Nat):okL (toL n):=by
 induction n using Nat.strongRecOn with
 | _ n ih=>
  by_cases h:n=0
  ·subst h;rw [toL_zero];exact okL_nil
  ·rw [toL_pos h,okL_cons]
   exact ⟨by omega,ih _ (by omega)⟩
def Trim (l:List Int):Prop:=∀ h:l≠ [],l.getLast h≠0
theorem trim_tail {x:Int} {l:List Int} (h:Trim (x :: l)):Trim l:=fun hl=>by
 have:=h (by simp)
 rwa [List.getLast_cons hl] at this
theorem vL_pos {l:List Int} (h:okL l) (ht:Trim l) (hl:l≠ []):0 < vL l:=by
 induction l with
 | nil=>exact absurd rfl hl
 | cons x l ih=>
  rw [okL_cons] at h
  rw [vL_cons]
  by_cases hl2:l= []
  ·subst hl2
   have:=ht (by simp)
   simp at this
   omega
  ·have:=ih h.2 (trim_tail ht) hl2
   omega
theorem toL_vL {l:List Int} (h:okL l) (ht:Trim l):toL (vL l)=l:=by
 induction l with
 | nil=>rw [vL_nil,toL_zero]
 | cons x l ih=>
  have hp:=vL_pos h ht (by simp)
  rw [toL_pos (by omega)]
  rw [okL_cons] at h
  have h1:vL (x :: l) % 4294967296=x.toNat:=by rw [vL_cons];omega
  have h2:vL (x :: l) / 4294967296=vL l:=by rw [vL_cons];omega
  rw [h1,h2,ih h.2 (trim_tail ht)]
  congr 1
  omega
theorem trim_nil:Trim []:=fun h=>absurd rfl h
theorem trim_toL (n:Nat):Trim (toL n):=by
 induction n using Nat.strongRecOn with
 | _ n ih=>
  by_cases h:n=0
  ·subst h;rw [toL_zero];exact trim_nil
  ·rw [toL_pos h]
   intro hne
   by_cases h2:n / 4294967296=0
   ·have e:toL (n / 4294967296)= []:=by rw [h2,toL_zero]
    simp only [e,List.getLast_singleton]
    omega
   ·have h3:toL (n / 4294967296)≠ []:=fun e=>by have:=congrArg vL e;rw [vL_toL] at this;exact h2 this
    rw [List.getLast_cons h3]
    exact ih _ (by omega) h3
theorem toL_nil_iff (n:Nat):toL n= []↔n=0:=
 ⟨fun e=>by have:=congrArg vL e;rwa [vL_toL] at this,fun e=>by rw [e,toL_zero]⟩
theorem len_toL_le {n m : Nat} (h : n < 4294967296 ^ m) : (toL n).length ≤ m := by
  induction m generalizing n with
  | zero => have : n = 0 := by simpa using h
            rw [this, toL_zero]; simp
  | succ m ih =>
    by_cases h0 : n = 0
    · rw [h0, toL_zero]; simp
    · rw [toL_pos h0, List.length_cons]
      have := ih (n := n / 4294967296) (by rw [Nat.pow_succ] at h; omega)
      omega
theorem lt_of_len_toL {n m:Nat} (h:(toL n).length≤m):n < 4294967296 ^ m:=by
 have h1:=vL_lt (okL_toL n)
 rw [vL_toL] at h1
 exact Nat.lt_of_lt_of_le h1 (Nat.pow_le_pow_right (by decide) h)
theorem le_of_len_toL {n m:Nat} (h:m < (toL n).length):4294967296 ^ m≤n:=by
 rcases Nat.lt_or_ge n (4294967296 ^ m) with h1 | h1
 ·have:=len_toL_le h1;omega
 ·exact h1
theorem vL_take_add (l:List Int) (k:Nat) (hk:k≤l.length):vL l=vL (l.take k)+4294967296 ^ k*vL (l.drop k):=by
 have e:=vL_append (l.take k) (l.drop k)
 rw [List.take_append_drop,List.length_take,Nat.min_eq_left hk] at e
 exact e
theorem vL_set (l:List Int) (i:Nat) (hi:i < l.length) (x:Int):vL (l.set i x)+4294967296 ^ i*(l[i]).toNat=vL l+4294967296 ^ i*x.toNat:=by
 induction l generalizing i with
 | nil=>simp at hi
 | cons y l ih=>
  cases i with
  | zero=>simp [vL_cons];omega
  | succ i=>
   have:=ih i (by simpa using hi)
   rw [List.set_cons_succ,vL_cons,vL_cons,Nat.pow_succ,List.getElem_cons_succ]
   have e1:4294967296 ^ i*4294967296*(l[i]'(by simpa using hi)).toNat=4294967296*(4294967296 ^ i*(l[i]'(by simpa using hi)).toNat):=by rw [Nat.mul_right_comm,Nat.mul_comm]
   have e2:4294967296 ^ i*4294967296*x.toNat=4294967296*(4294967296 ^ i*x.toNat):=by rw [Nat.mul_right_comm,Nat.mul_comm]
   rw [e1,e2]
   omega
end Go.Proofs.YtamcpiicmfielaaGreat.Sp
namespace Go.Proofs.YtamcpiicmfielaaGreat.Sp
open Go.RowKit Go.Proofs.YtamcpiicmfielaaGreatW.PrintWords Go.Proofs.YtamcpiicmfielaaGreatW.PrintMore
theorem w64 {n:Int} (h0: -9223372036854775808≤n) (h1:n≤9223372036854775807):wrap64 n=n:=by unfold wrap64;omega
theorem u64w {n:Int} (h0:0≤n) (h1:n < 18446744073709551616):IntKind.u64.wrap n=n:=by rw [IntKind.wrap_u64];omega
theorem rd_lt {l:List Int} {i:Int} (h:i.toNat < l.length):rd l i=l[i.toNat]:=by
 unfold rd;rw [List.getD_eq_getElem?_getD,List.getElem?_eq_getElem h,Option.getD_some]
theorem rd_nat {l:List Int} {i:Nat} (h:i < l.length):rd l (i:Int)=l[i]:=by
 rw [rd_lt (by simpa using h)];simp
theorem bt_nat {s:ByteArray} {i:Nat} (h:i < s.data.toList.length):bt s (i:Int)=((s.data.toList[i]).toNat:Int):=by
 have h2:i < s.size:=by rwa [Array.length_toList] at h
 unfold bt
 rw [dif_pos (by simpa using h2)]
 rfl
theorem len_data (s:ByteArray):s.data.toList.length=s.size:=by rw [Array.length_toList];rfl
theorem toList_nil (s:ByteArray):s.toList= []↔s.data.toList= []:=by rw [Lib.toList_data]
theorem drop_data (s:ByteArray) (a:Nat):(s.extract a s.size).data.toList=s.data.toList.drop a:=by
 rw [Lib.extract_data,List.take_of_length_le]
 rw [List.length_drop,len_data]
 exact Nat.le_refl _
theorem strip0_lead {c:UInt8} (h:c≠0) (l:List UInt8):strip0 (c :: l)=c :: l:=by
 unfold strip0;rw [List.dropWhile_cons,if_neg (by simpa using h)]
theorem magOf_strip (s:ByteArray):(magOf (vS s)).data.toList=strip0 s.data.toList:=by rw [magOf_data];exact toB_vB _
def To {α:Type} (g:Nat→Option α) (r:α):Prop:=∃ k,g k=some r
theorem To.bind {α β:Type} {g:Nat→Option α} {f:Nat→α→Option β} (hg:∀ k,LeO (g k) (g (k+1))) (hf:∀ x k,LeO (f k x) (f (k+1) x)) {a:α} {r:β} (h:To g a) (k:To (fun n=>f n a) r):To (fun n=>(g n).bind (f n)) r:=by
 obtain ⟨m,hm⟩:=h
 obtain ⟨n,hn⟩:=k
 refine ⟨max m n, ?_⟩
 show (g (max m n)).bind (f (max m n))=some r
 rw [at_rounds hg (Nat.le_max_left m n) hm,Option.bind_some]
 exact at_rounds (g:=fun n=>f n a) (hf a) (Nat.le_max_right m n) hn
theorem To.at {α:Type} {g:Nat→Option α} {r:α} (hg:∀ k,LeO (g k) (g (k+1))) (h:To g r):∃ K,∀ k,K≤k→g k=some r:=by
 obtain ⟨m,hm⟩:=h
 exact ⟨m,fun k hk=>at_rounds hg hk hm⟩
end Go.Proofs.YtamcpiicmfielaaGreat.Sp
namespace Go.Proofs.YtamcpiicmfielaaGreat.F
open Go.RowKit Go.Proofs.YtamcpiicmfielaaGreat.Sp Go.Proofs.YtamcpiicmfielaaGreatW.PrintWords Go.Proofs.YtamcpiicmfielaaGreatW.PrintMore
theorem strip_l (n : Nat) : ∀ (s : ByteArray), s.size = n → ∀ k, n < k → bigint_strip.l0 k s = some (magOf (vS s)) := by
  induction n with
  | zero =>
    intro s hs k hk
    obtain ⟨k, rfl⟩ : ∃ m, k = m + 1 := ⟨k - 1, by omega⟩
    have hd : s.data.toList = [] := List.length_eq_zero_iff.1 (by rw [len_data, hs])
    simp only [bigint_strip.l0]
    rw [if_pos ((toList_nil s).2 hd)]
    congr 1
    apply bytes_ext
    rw [magOf_strip, hd]; rfl
  | succ n ih =>
    intro s hs k hk
    obtain ⟨k, rfl⟩ : ∃ m, k = m + 1 := ⟨k - 1, by omega⟩
    obtain ⟨c, t, hd⟩ : ∃ c t, s.data.toList = c :: t := by
      cases h : s.data.toList with
      | nil => have := len_data s; rw [h, hs] at this; simp at this
      | cons c t => exact ⟨c, t, rfl⟩
    have h0 : bt s 0 = (c.toNat : Int) := by
      have := bt_nat (s := s) (i := 0) (by rw [hd]; simp)
      simpa [hd] using this
    simp only [bigint_strip.l0]
    rw [if_neg (by rw [toList_nil, hd]; simp), if_pos (by omega)]
    by_cases hc : c = 0
    · subst hc
      rw [if_pos (by rw [h0]; rfl), if_pos (by omega), ih (s.extract 1 s.size) (by rw [← len_data, drop_data, hd]; have := len_data s; rw [hd, hs] at this; simpa using this) k (by omega)]
      congr 1
      apply bytes_ext
      rw [magOf_strip, magOf_strip, drop_data, hd]; rfl
    · rw [if_neg (by
        rw [h0]
        intro e
        exact hc (UInt8.toNat_inj.1 (by have : c.toNat = 0 := by omega
                                        simpa using this)))]
      congr 1
      apply bytes_ext
      rw [magOf_strip, hd, strip0_lead hc]
theorem strip_to (s:ByteArray):To (fun k=>bigint_strip.f k s) (magOf (vS s)):= ⟨s.size+1,strip_l s.size s rfl _ (by omega)⟩
theorem eq_toL {l:List Int} (h:okL l) (ht:l≠ []→4294967296 ^ (l.length - 1)≤vL l):l=toL (vL l):=by
 refine (toL_vL h ?_).symm
 intro hl h0
 have e:=List.dropLast_concat_getLast hl
 have h1:=ht hl
 rw [← e,vL_append,h0] at h1
 have h2:=vL_lt (l:=l.dropLast) (by rw [← e,okL_append] at h;exact h.1)
 simp [vL_cons,vL_nil] at h1 h2
 omega
theorem limb_le {l:List Int} (h:okL l) (i:Nat) (hi:i < l.length):4294967296 ^ i*(l[i]).toNat≤vL l:=by
 have h1:=vL_set l i hi 0
 simp at h1
 omega
theorem pow4 (q r:Nat):(256:Nat) ^ (4*q+r)=4294967296 ^ q*256 ^ r:=by
 rw [Nat.pow_add,Nat.pow_mul]
theorem pow8 (r:Nat):(2:Nat) ^ (8*r)=256 ^ r:=by rw [Nat.pow_mul]
theorem ld1 (n i:Nat) (h:i < n) (hn:n≤140737488355328):wrap64 ((wrap64 ((n:Int) - 1)) - (i:Int))=((n - 1 - i:Nat):Int):=by
 rw [show wrap64 ((n:Int) - 1)=(n:Int) - 1 from w64 (by omega) (by omega)]
 exact (w64 (by omega) (by omega)).trans (by omega)
theorem ld2 (i:Nat):Int.tdiv (i:Int) 4=((i / 4:Nat):Int):=by rw [Int.tdiv_eq_ediv_of_nonneg (by omega)];rfl
theorem ld3 (i:Nat):Int.tmod (i:Int) 4=((i % 4:Nat):Int):=by rw [Int.tmod_eq_emod_of_nonneg (by omega)];rfl
theorem ld4 (i:Nat) (h:i≤140737488355328):wrap64 (((i / 4:Nat):Int))=((i / 4:Nat):Int):=w64 (by omega) (by omega)
theorem ld5 (i:Nat):wrap64 (8*((i % 4:Nat):Int))=((8*(i % 4):Nat):Int):=(w64 (by omega) (by omega)).trans (by omega)
theorem ld6 (i:Nat) (h:i≤140737488355328):wrap64 ((i:Int)+1)=((i+1:Nat):Int):=(w64 (by omega) (by omega)).trans (by omega)
theorem load_l (t:ByteArray) (hsz:t.size≤140737488355328) (d:Nat):∀ (k i:Nat) (out:List Int),i+d=t.size→d < k→okL out→out.length=(t.size+3) / 4→
  vL out=vB (t.data.toList.drop (t.size - i))→∃ r,bigint_load.l0 k t out (t.size:Int) (i:Int)=some r∧okL r∧r.length=(t.size+3) / 4∧vL r=vS t:=by
 induction d with
 | zero=>
  intro k i out hi hk hok hlen hv
  obtain ⟨k,rfl⟩:∃ m,k=m+1:= ⟨k - 1,by omega⟩
  refine ⟨out, ?_,hok,hlen, ?_⟩
  ·simp only [bigint_load.l0];rw [if_neg (by omega)]
  ·rw [hv,show t.size - i=0 by omega];rfl
 | succ d ih=>
  intro k i out hi hk hok hlen hv
  obtain ⟨k,rfl⟩:∃ m,k=m+1:= ⟨k - 1,by omega⟩
  have hqi:i / 4 < out.length:=by omega
  have hbi:t.size - 1 - i < t.data.toList.length:=by rw [len_data];omega
  have hrd:rd out ((i / 4:Nat):Int)=out[i / 4]:=rd_nat hqi
  have hb:=bt_nat (s:=t) hbi
  have ho:=hok _ (List.getElem_mem hqi)
  have hc:=(t.data.toList[t.size - 1 - i]).toNat_lt
  have hdrop:t.data.toList.drop (t.size - (i+1))=t.data.toList[t.size - 1 - i] :: t.data.toList.drop (t.size - i):=by
   rw [show t.size - (i+1)=t.size - 1 - i by omega,List.drop_eq_getElem_cons hbi,show t.size - 1 - i+1=t.size - i by omega]
  generalize t.data.toList[t.size - 1 - i]=c at*
  have hdl:(t.data.toList.drop (t.size - i)).length=i:=by rw [List.length_drop,len_data];omega
  have hpow:(256:Nat) ^ i=4294967296 ^ (i / 4)*256 ^ (i % 4):=by rw [← pow4];congr 1;omega
  have hlow:(out[i / 4]).toNat < 256 ^ (i % 4):=by
   have h1:=limb_le hok (i / 4) hqi
   have h2:=vB_lt (t.data.toList.drop (t.size - i))
   rw [hdl,← hv,hpow] at h2
   exact Nat.lt_of_mul_lt_mul_left (Nat.lt_of_le_of_lt h1 h2)
  have h256:(256:Nat) ^ (i % 4)≤16777216:=by
   have:i % 4≤3:=by omega
   exact Nat.pow_le_pow_right (by decide) this
  have hmul:c.toNat*256 ^ (i % 4)≤255*256 ^ (i % 4):=Nat.mul_le_mul_right _ (by omega)
  have hsh:shl .u32 ((bt t ((t.size - 1 - i:Nat):Int)) % 4294967296) ((8*(i % 4):Nat):Int)=((c.toNat*256 ^ (i % 4):Nat):Int):=by
   unfold shl
   rw [hb,IntKind.wrap_u32,Int.toNat_natCast]
   have h1:min (8*(i % 4)) IntKind.u32.bits=8*(i % 4):=Nat.min_eq_left (by simp [IntKind.bits];omega)
   have h2:((c.toNat:Int) % 4294967296)=(c.toNat:Int):=by omega
   have h3:((2:Int) ^ (8*(i % 4)))=((256 ^ (i % 4):Nat):Int):=by rw [← pow8];norm_cast
   rw [h1,h2,h3,← Int.natCast_mul]
   exact Int.emod_eq_of_lt (by omega) (by omega)
  have hor:Go.bits .or .u32 (out[i / 4]) (((c.toNat*256 ^ (i % 4):Nat):Int))=((out[i / 4].toNat+c.toNat*256 ^ (i % 4):Nat):Int):=by
   obtain ⟨a,ha⟩:=Int.eq_ofNat_of_zero_le ho.1
   rw [ha] at hlow ⊢
   simp only [Int.toNat_natCast] at hlow ⊢
   rw [u32_or_nat _ _ (by omega) (by omega),Nat.or_comm,nat_join (8*(i % 4)) _ _ (by rw [pow8,Nat.mul_mod_left]) (by rw [pow8];exact hlow),Nat.add_comm]
  have hnew:(0:Int)≤((out[i / 4].toNat+c.toNat*256 ^ (i % 4):Nat):Int)∧((out[i / 4].toNat+c.toNat*256 ^ (i % 4):Nat):Int) < 4294967296:=by omega
  obtain ⟨r,hr1,hr2⟩:=ih k (i+1) (out.set (i / 4) ((out[i / 4].toNat+c.toNat*256 ^ (i % 4):Nat):Int)) (by omega) (by omega) (okL_set hok _ _ hnew.1 hnew.2) (by rw [List.length_set];exact hlen) (by
   have h1:=vL_set out (i / 4) hqi ((out[i / 4].toNat+c.toNat*256 ^ (i % 4):Nat):Int)
   rw [Int.toNat_natCast,Nat.mul_add,← Nat.mul_assoc,Nat.mul_right_comm,← hpow,hv] at h1
   rw [hdrop,vB_cons,hdl]
   have e:=Nat.mul_comm (256 ^ i) c.toNat
   omega)
  refine ⟨r, ?_,hr2⟩
  simp only [bigint_load.l0]
  rw [ld2,ld3,ld4 i (by omega),ld1 t.size i (by omega) (by omega),ld5,ld6 i (by omega),hrd,hsh,hor]
  rw [if_pos (by omega),if_pos (by omega),if_pos (by omega),if_pos (by omega),if_pos (by omega),if_pos (by omega)]
  rw [Int.toNat_natCast]
  exact hr1
def cmpN (a b:Nat):Int:=if a < b then -1 else if b < a then 1 else 0
end Go.Proofs.YtamcpiicmfielaaGreat.F
namespace Go.Proofs.YtamcpiicmfielaaGreat.F
open Go.RowKit Go.Proofs.YtamcpiicmfielaaGreat.Sp Go.Proofs.YtamcpiicmfielaaGreatW.PrintWords Go.Proofs.YtamcpiicmfielaaGreatW.PrintMore
theorem vL_take_succ (l:List Int) (i:Nat) (hi:i < l.length):vL (l.take (i+1))=vL (l.take i)+4294967296 ^ i*(l[i]).toNat:=by
 rw [List.take_succ_eq_append_getElem hi,vL_append,List.length_take,Nat.min_eq_left (by omega),vL_cons,vL_nil];simp
theorem vL_snoc (l:List Int) (x:Int):vL (l ++ [x])=vL l+4294967296 ^ l.length*x.toNat:=by rw [vL_append,vL_cons,vL_nil];simp
theorem take_set_succ (l:List Int) (i:Nat) (hi:i < l.length) (x:Int):(l.set i x).take (i+1)=l.take i ++ [x]:=by
 rw [List.take_succ_eq_append_getElem (by simpa using hi),List.getElem_set_self,List.take_set_of_le (Nat.le_refl _)]
theorem nat_of {x:Int} (h:0≤x):∃ a:Nat,x=(a:Int):=Int.eq_ofNat_of_zero_le h
theorem limb_nat {l:List Int} (h:okL l) (i:Nat) (hi:i < l.length):∃ a:Nat,a < 4294967296∧l[i]=(a:Int):=by
 have:=h _ (List.getElem_mem hi)
 obtain ⟨a,ha⟩:=nat_of this.1
 exact ⟨a,by omega,ha⟩
theorem u64n {a:Nat} (h:a < 18446744073709551616):IntKind.u64.wrap (a:Int)=(a:Int):=u64w (by omega) (by omega)
theorem add2 {c a:Nat} (ha:a < 4294967296) (h:c+a < 18446744073709551616):IntKind.u64.wrap ((c:Int)+IntKind.u64.wrap (a:Int))=((c+a:Nat):Int):=by
 rw [u64n (a:=a) (by omega),← Int.natCast_add,u64n h]
theorem limbN (n:Nat):(0:Int)≤((n % 4294967296:Nat):Int)∧((n % 4294967296:Nat):Int) < 4294967296:=by omega
theorem carry_step {p n v c o:Nat} (h:v+p*c=o):v+p*(n % 4294967296)+p*4294967296*(n / 4294967296)+p*c=o+p*n:=by
 have e:p*(n % 4294967296)+p*4294967296*(n / 4294967296)=p*n:=by
  rw [Nat.mul_assoc,← Nat.mul_add,Nat.mod_add_div]
 omega
theorem bit31 (x:Nat) (h:x < 4294967296):x / 2147483648=if 2147483648≤x then 1 else 0:=by split <;> omega
theorem top_and (x y:Nat) (hx:x < 4294967296) (hy:y < 4294967296):(x &&& y) / 2147483648=x / 2147483648*(y / 2147483648):=by
 rw [show (2147483648:Nat)=2 ^ 31 from rfl,Nat.and_div_two_pow,← show (2147483648:Nat)=2 ^ 31 from rfl]
 rcases (show x / 2147483648=0∨x / 2147483648=1 by omega) with h | h <;> rcases (show y / 2147483648=0∨y / 2147483648=1 by omega) with h2 | h2 <;> rw [h,h2] <;> rfl
theorem top_or (x y:Nat) (hx:x < 4294967296) (hy:y < 4294967296):(x ||| y) / 2147483648=max (x / 2147483648) (y / 2147483648):=by
 rw [show (2147483648:Nat)=2 ^ 31 from rfl,Nat.or_div_two_pow,← show (2147483648:Nat)=2 ^ 31 from rfl]
 rcases (show x / 2147483648=0∨x / 2147483648=1 by omega) with h | h <;> rcases (show y / 2147483648=0∨y / 2147483648=1 by omega) with h2 | h2 <;> rw [h,h2] <;> rfl
theorem top_xor (x y:Nat) (hx:x < 4294967296) (hy:y < 4294967296):(x ^^^ y) / 2147483648=(x / 2147483648+y / 2147483648) % 2:=by
 rw [show (2147483648:Nat)=2 ^ 31 from rfl,Nat.xor_div_two_pow,← show (2147483648:Nat)=2 ^ 31 from rfl]
 rcases (show x / 2147483648=0∨x / 2147483648=1 by omega) with h | h <;> rcases (show y / 2147483648=0∨y / 2147483648=1 by omega) with h2 | h2 <;> rw [h,h2] <;> rfl
theorem and_lt32 {x y:Nat} (hy:y < 4294967296):(x &&& y) < 4294967296:=Nat.lt_of_le_of_lt Nat.and_le_right hy
theorem xor_lt32 {x y:Nat} (hx:x < 4294967296) (hy:y < 4294967296):(x ^^^ y) < 4294967296:=Nat.xor_lt_two_pow (n:=32) hx hy
theorem sub32 (x y b:Nat) (hx:x < 4294967296) (hy:y < 4294967296) (hb:b≤1):
  bits_Sub32.f (x:Int) (y:Int) (b:Int)=some ((((x+8589934592 - y - b) % 4294967296:Nat):Int),((if x < y+b then 1 else 0:Nat):Int)):=by
 have hd:((((x:Int) - y) % 4294967296) - b) % 4294967296=(((x+8589934592 - y - b) % 4294967296:Nat):Int):=by omega
 unfold bits_Sub32.f
 rw [hd]
 have hD:(x+8589934592 - y - b) % 4294967296 < 4294967296:=Nat.mod_lt _ (by decide)
 have hDv:(x+8589934592 - y - b) % 4294967296=if x < y+b then x+4294967296 - y - b else x - y - b:=by split <;> omega
 generalize (x+8589934592 - y - b) % 4294967296=D at*
 rw [show (4294967295:Int)=((4294967295:Nat):Int) from rfl,u32_xor_nat _ _ (by decide) hx,u32_xor_nat x y hx hy,u32_xor_nat _ _ (by decide) (xor_lt32 hx hy),u32_and_nat _ _ (xor_lt32 (by decide) hx) hy,
  u32_and_nat _ _ (xor_lt32 (by decide) (xor_lt32 hx hy)) hD,u32_or_nat _ _ (and_lt32 hy) (and_lt32 hD)]
 have hfin:((((4294967295 ^^^ x) &&& y) ||| ((4294967295 ^^^ (x ^^^ y)) &&& D)) / 2147483648:Nat)=if x < y+b then 1 else 0:=by
  rw [top_or _ _ (and_lt32 hy) (and_lt32 hD),top_and _ _ (xor_lt32 (by decide) hx) hy,top_and _ _ (xor_lt32 (by decide) (xor_lt32 hx hy)) hD,top_xor _ _ (by decide) hx,top_xor _ _ (by decide) (xor_lt32 hx hy),top_xor _ _ hx hy]
  have e0:(4294967295:Nat) / 2147483648=1:=rfl
  rw [e0]
  have bx:=bit31 x hx
  have by':=bit31 y hy
  have bD:=bit31 D hD
  rw [bx,by',bD,hDv]
  repeat' split
  all_goals first
   | omega
   | rfl
 congr 2
 rw [show (2147483648:Int)=((2147483648:Nat):Int) from rfl]
 exact_mod_cast hfin
end Go.Proofs.YtamcpiicmfielaaGreat.F
namespace Go.Proofs.YtamcpiicmfielaaGreat.F
open Go.RowKit Go.Proofs.YtamcpiicmfielaaGreat.Sp Go.Proofs.YtamcpiicmfielaaGreatW.PrintWords Go.Proofs.YtamcpiicmfielaaGreatW.PrintMore
def IsLen (n r:Nat):Prop:=n < 2 ^ r∧(0 < r→2 ^ (r - 1)≤n)
theorem IsLen.uniq {n r s:Nat} (h:IsLen n r) (k:IsLen n s):r=s:=by
 rcases Nat.lt_trichotomy r s with h1 | h1 | h1
 ·have:=k.2 (by omega)
  have h2:2 ^ r≤2 ^ (s - 1):=Nat.pow_le_pow_right (by decide) (by omega)
  have:=h.1
  omega
 ·exact h1
 ·have:=h.2 (by omega)
  have h2:2 ^ s≤2 ^ (r - 1):=Nat.pow_le_pow_right (by decide) (by omega)
  have:=k.1
  omega
def blen (n:Nat):Nat:=if n=0 then 0 else n.log2+1
theorem blen_is (n:Nat):IsLen n (blen n):=by
 unfold blen
 split
 ·rename_i h;subst h;exact ⟨by decide,fun h=>absurd h (by decide)⟩
 ·rename_i h
  exact ⟨Nat.lt_log2_self,fun _=>Nat.log2_self_le h⟩
theorem isLen_shift {x q r:Nat} (c:Nat) (hq:q=x / 2 ^ c) (hpos:0 < q) (h:IsLen q r):IsLen x (c+r):=by
 subst hq
 obtain ⟨h1,h2⟩:=h
 have hr:0 < r:=by
  rcases Nat.eq_zero_or_pos r with h0 | h0
  ·rw [h0,Nat.pow_zero] at h1;omega
  ·exact h0
 have h3:=h2 hr
 have hp:0 < 2 ^ c:=Nat.two_pow_pos c
 refine ⟨?_,fun _=> ?_⟩
 ·rw [Nat.pow_add,Nat.mul_comm];exact (Nat.div_lt_iff_lt_mul hp).1 h1
 ·rw [show c+r - 1=c+(r - 1) by omega,Nat.pow_add,Nat.mul_comm];exact (Nat.le_div_iff_mul_le hp).1 h3
theorem blen_le {n m:Nat} (h:n < 2 ^ m):blen n≤m:=by
 rcases Nat.lt_or_ge m (blen n) with h1 | h1
 ·have h2:=(blen_is n).2 (by omega)
  have h3:2 ^ m≤2 ^ (blen n - 1):=Nat.pow_le_pow_right (by decide) (by omega)
  omega
 ·exact h1
theorem blen_cat {a q c:Nat} (hq:0 < q) (ha:a < 4294967296 ^ c):blen (a+4294967296 ^ c*q)=32*c+blen q:=by
 have e:(4294967296:Nat) ^ c=2 ^ (32*c):=by rw [Nat.pow_mul]
 rw [e] at ha ⊢
 have hp:=Nat.two_pow_pos (32*c)
 have hd:q=(a+2 ^ (32*c)*q) / 2 ^ (32*c):=by rw [Nat.add_mul_div_left _ _ hp,Nat.div_eq_of_lt ha,Nat.zero_add]
 exact ((blen_is _).uniq (isLen_shift (32*c) hd hq (blen_is q)))
theorem shl64 (a n:Nat) (ha:a < 4294967296) (hn:n < 32):shl .u64 (IntKind.u64.wrap (a:Int)) (n:Int)=((a*2 ^ n:Nat):Int)∧a*2 ^ n < 4294967296*2 ^ n:=by
 have h2:2 ^ n≤2 ^ 31:=Nat.pow_le_pow_right (by decide) (by omega)
 have hlt:a*2 ^ n < 4294967296*2 ^ n:=Nat.mul_lt_mul_of_pos_right ha (Nat.two_pow_pos n)
 have h64:a*2 ^ n < 18446744073709551616:=by
  have:(2:Nat) ^ 31=2147483648:=rfl
  omega
 refine ⟨?_,hlt⟩
 unfold shl
 rw [u64n (by omega),Int.toNat_natCast]
 have h1:min n IntKind.u64.bits=n:=Nat.min_eq_left (by simp [IntKind.bits];omega)
 rw [h1,show ((2:Int) ^ n)=((2 ^ n:Nat):Int) by norm_cast,← Int.natCast_mul]
 exact u64n h64
theorem shift_or (c a n:Nat) (hc:c < 2 ^ n) (hn:n < 32):Go.bits .or .u32 (c:Int) (((a*2 ^ n % 4294967296:Nat)):Int)=((c+a*2 ^ n % 4294967296:Nat):Int)∧c+a*2 ^ n % 4294967296 < 4294967296:=by
 have e:(4294967296:Nat)=2 ^ (32 - n)*2 ^ n:=by rw [← Nat.pow_add,show 32 - n+n=32 by omega]
 have hm:a*2 ^ n % 4294967296=a % 2 ^ (32 - n)*2 ^ n:=by
  have e':=Nat.mul_mod_mul_right (2 ^ n) a (2 ^ (32 - n))
  rw [← e] at e'
  exact e'
 have hlt:a*2 ^ n % 4294967296 < 4294967296:=Nat.mod_lt _ (by decide)
 have h2:a % 2 ^ (32 - n)+1≤2 ^ (32 - n):=Nat.mod_lt _ (Nat.two_pow_pos _)
 have h3:(a % 2 ^ (32 - n)+1)*2 ^ n≤2 ^ (32 - n)*2 ^ n:=Nat.mul_le_mul_right _ h2
 rw [← e,Nat.add_mul,Nat.one_mul,← hm] at h3
 have hc32:c < 4294967296:=by omega
 refine ⟨?_,by omega⟩
 rw [u32_or_nat _ _ hc32 hlt,Nat.or_comm,nat_join n _ _ (by rw [hm];exact Nat.mul_mod_left _ _) hc,Nat.add_comm]
theorem digit_of (V i n:Nat) (x y Z:Nat) (h:V / 4294967296 ^ i=x+4294967296*(y+4294967296*Z)) (hn:n≤32):(V / 2 ^ n / 4294967296 ^ i) % 4294967296=((x+y*4294967296) / 2 ^ n) % 4294967296:=by
 rw [Nat.div_div_eq_div_mul,Nat.mul_comm,← Nat.div_div_eq_div_mul,h]
 have e:(4294967296:Nat)=2 ^ n*2 ^ (32 - n):=by rw [← Nat.pow_add,show n+(32 - n)=32 by omega]
 have e2:x+4294967296*(y+4294967296*Z)=(x+y*4294967296)+2 ^ n*(2 ^ (32 - n)*4294967296*Z):=by
  have:4294967296*(4294967296*Z)=2 ^ n*(2 ^ (32 - n)*4294967296*Z):=by
   rw [← Nat.mul_assoc (2 ^ n),← Nat.mul_assoc (2 ^ n),← e,Nat.mul_assoc]
  rw [Nat.mul_add,this];omega
 rw [e2,Nat.add_mul_div_left _ _ (Nat.two_pow_pos n),show 2 ^ (32 - n)*4294967296*Z=4294967296*(2 ^ (32 - n)*Z) by grind,Nat.add_mul_mod_self_left]
theorem div_pow_take {l:List Int} (hl:okL l) (i:Nat) (hi:i≤l.length):vL l / 4294967296 ^ i=vL (l.drop i):=by
 have h:=vL_take_add l i hi
 have h2:=vL_lt (okL_take hl i)
 rw [List.length_take,Nat.min_eq_left hi] at h2
 rw [h,Nat.add_mul_div_left _ _ (Nat.pow_pos (by decide)),Nat.div_eq_of_lt h2,Nat.zero_add]
theorem mod_pow_succ (W i:Nat):W % 4294967296 ^ (i+1)=W % 4294967296 ^ i+4294967296 ^ i*((W / 4294967296 ^ i) % 4294967296):=by
 rw [Nat.pow_succ,Nat.mod_mul]
end Go.Proofs.YtamcpiicmfielaaGreat.F
namespace Go.Proofs.YtamcpiicmfielaaGreat.F
open Go.RowKit Go.Proofs.YtamcpiicmfielaaGreat.Sp Go.Proofs.YtamcpiicmfielaaGreatW.PrintWords Go.Proofs.YtamcpiicmfielaaGreatW.PrintMore
theorem g_lt {P X Y u2 v1 v2 top g r:Nat} (hX:X < P) (hg:g*v1+r=top) (h:r*4294967296+u2 < g*v2):
  X+P*(top*4294967296+u2) < g*(Y+P*(v1*4294967296+v2)):=by
 have h1:top*4294967296+u2+1≤g*(v1*4294967296+v2):=by
  rw [← hg]
  have:g*(v1*4294967296+v2)=g*v1*4294967296+g*v2:=by grind
  rw [this]
  omega
 have h2:=Nat.mul_le_mul_left P h1
 have h3:g*(Y+P*(v1*4294967296+v2))=g*Y+P*(g*(v1*4294967296+v2)):=by grind
 rw [h3]
 rw [Nat.mul_add P (top*4294967296+u2) 1,Nat.mul_one] at h2
 exact Nat.lt_of_lt_of_le (by omega) (Nat.le_trans h2 (Nat.le_add_left _ _))
theorem g_ge {P X Y u2 v1 v2 top g r:Nat} (hY:Y < P) (hv1:1≤v1) (hgB:g < 4294967296) (hg:g*v1+r=top) (h:g*v2≤r*4294967296+u2):
  g*(Y+P*(v1*4294967296+v2))≤X+P*(top*4294967296+u2)+(Y+P*(v1*4294967296+v2)):=by
 have h1:g*(v1*4294967296+v2)≤top*4294967296+u2:=by
  rw [← hg]
  have:g*(v1*4294967296+v2)=g*v1*4294967296+g*v2:=by grind
  rw [this]
  omega
 have h2:=Nat.mul_le_mul_left P h1
 have h3:g*(Y+P*(v1*4294967296+v2))=g*Y+P*(g*(v1*4294967296+v2)):=by grind
 have h4:g*Y≤4294967296*P:=Nat.mul_le_mul (by omega) (by omega)
 have h5:4294967296*P≤(v1*4294967296+v2)*P:=Nat.mul_le_mul_right P (by omega)
 rw [Nat.mul_comm (v1*4294967296+v2)] at h5
 rw [h3]
 have h6:=Nat.add_le_add (Nat.le_trans h4 h5) h2
 refine Nat.le_trans h6 ?_
 rw [Nat.add_comm]
 exact Nat.add_le_add (Nat.le_add_left _ _) (Nat.le_add_left _ _)
theorem g_start {P X Y u2 v1 v2 top q:Nat} (hX:X < P) (hu2:u2 < 4294967296) (hv1:1≤v1) (hq:q*(Y+P*(v1*4294967296+v2))≤X+P*(top*4294967296+u2)):q≤top / v1:=by
 rw [Nat.le_div_iff_mul_le hv1]
 rcases Nat.lt_or_ge top (q*v1) with h | h
 ·exfalso
  have h1:top*4294967296+u2+1≤q*(v1*4294967296+v2):=by
   have:q*(v1*4294967296+v2)=q*v1*4294967296+q*v2:=by grind
   rw [this]
   omega
  have h2:=Nat.mul_le_mul_left P h1
  have h3:q*(Y+P*(v1*4294967296+v2))=q*Y+P*(q*(v1*4294967296+v2)):=by grind
  rw [h3] at hq
  rw [Nat.mul_add P (top*4294967296+u2) 1,Nat.mul_one] at h2
  have h4:=Nat.le_trans (Nat.le_trans h2 (Nat.le_add_left _ (q*Y))) hq
  omega
 ·exact h
theorem or64 (r u:Nat) (hr:r < 4294967296) (hu:u < 4294967296):Go.bits .or .u64 (IntKind.u64.wrap ((r:Int)*4294967296)) (IntKind.u64.wrap (u:Int))=((r*4294967296+u:Nat):Int):=by
 rw [u64n (a:=u) (by omega),show (r:Int)*4294967296=((r*4294967296:Nat):Int) from rfl,u64n (by omega),u64_or_nat _ _ (by omega) (by omega),nat_join 32 _ _ (by omega) (by omega)]
end Go.Proofs.YtamcpiicmfielaaGreat.F
namespace Go.Proofs.YtamcpiicmfielaaGreat.F
open Go.RowKit Go.Proofs.YtamcpiicmfielaaGreat.Sp Go.Proofs.YtamcpiicmfielaaGreatW.PrintWords Go.Proofs.YtamcpiicmfielaaGreatW.PrintMore
theorem vL_low {l:List Int} (h:okL l) (i:Nat) (hi:i≤l.length) (hz:vL (l.drop i)=0):vL l < 4294967296 ^ i:=by
 have h1:=vL_take_add l i hi
 have h2:=vL_lt (okL_take h i)
 rw [List.length_take,Nat.min_eq_left hi] at h2
 rw [hz,Nat.mul_zero,Nat.add_zero] at h1
 rw [h1]
 exact h2
theorem vL_high {l:List Int} (i:Nat) (hi:i≤l.length) (h:vL l < 4294967296 ^ i):vL (l.drop i)=0:=by
 have h1:=vL_take_add l i hi
 rcases Nat.eq_zero_or_pos (vL (l.drop i)) with h2 | h2
 ·exact h2
 ·have:=Nat.le_mul_of_pos_right (4294967296 ^ i) h2
  omega
theorem fin_a {A VV y g q:Nat} (h:y+g*VV=A) (hq:A < (q+1)*VV) (hg:q≤g):g=q:=by
 rcases Nat.lt_or_ge q g with h1 | h1
 ·exfalso
  have:=Nat.mul_le_mul_right VV (show q+1≤g from h1)
  omega
 ·omega
theorem fin_b {A VV y g q Q:Nat} (h:y+g*VV=A+Q) (hy:y < Q) (hq:q*VV≤A) (hg:q≤g) (hg2:g≤q+1):g=q+1:=by
 rcases Nat.lt_or_ge q g with h1 | h1
 ·omega
 ·exfalso
  have:g=q:=by omega
  subst this
  omega
theorem sub_fin {T A p G c b x D y0 y1 b2 B:Nat} (h1:y0+G=A+p*(c+b)) (h2:y1+p*x=y0+p*D) (h3:D+c+b=x+B*b2):y1+G=A+p*B*b2:=by
 have h4:=congrArg (p* ·) h3
 simp only [Nat.mul_add] at h4 h1
 rw [← Nat.mul_assoc] at h4
 generalize p*B*b2=a at*
 generalize p*D=d at*
 generalize p*c=e at*
 generalize p*b=f at*
 generalize p*x=k at*
 omega
end Go.Proofs.YtamcpiicmfielaaGreat.F
namespace Go.Proofs.YtamcpiicmfielaaGreat.Sp
def val (n:Bool) (s:ByteArray):Int:=if n=true then -(vS s:Int) else (vS s:Int)
def enc (z:Int):Bool×ByteArray:=(decide (z < 0),magOf z.natAbs)
def cmpZ (a b:Int):Int:=if a < b then -1 else if b < a then 1 else 0
theorem enc_pack (neg:Bool) (n:Nat):(neg&&decide (n≠0),magOf n)=enc (if neg=true then -(n:Int) else (n:Int)):=by
 cases neg
 ·simp [enc]
 ·simp only [Bool.true_and,if_true,enc,Int.natAbs_neg,Int.natAbs_natCast,Prod.mk.injEq,and_true]
  rw [decide_eq_decide]
  omega
theorem val_enc (z:Int):val (enc z).1 (enc z).2=z:=by
 unfold val enc
 simp only [vS_magOf,decide_eq_true_eq]
 split <;> omega
theorem natAbs_val (n:Bool) (s:ByteArray):(val n s).natAbs=vS s:=by
 unfold val
 split <;> omega
end Go.Proofs.YtamcpiicmfielaaGreat.Sp
namespace Go.Proofs.YtamcpiicmfielaaGreat.F
open Go.RowKit Go.Proofs.YtamcpiicmfielaaGreat.Sp Go.Proofs.YtamcpiicmfielaaGreatW.PrintWords Go.Proofs.YtamcpiicmfielaaGreatW.PrintMore
theorem val_not (m:Bool) (t:ByteArray):val (!m) t= -val m t:=by unfold val;cases m <;> simp
end Go.Proofs.YtamcpiicmfielaaGreat.F
namespace Go.Proofs.YtamcpiicmfielaaGreat.Sp
def rootN:Nat→Nat
 | 0=>0
 | n+1=>if (rootN n+1)*(rootN n+1)≤n+1 then rootN n+1 else rootN n
theorem rootN_is (n:Nat):rootN n*rootN n≤n∧n < (rootN n+1)*(rootN n+1):=by
 induction n with
 | zero=>simp [rootN]
 | succ n ih=>
  unfold rootN
  split
  ·rename_i h
   refine ⟨h, ?_⟩
   have e:(rootN n+1+1)*(rootN n+1+1)=(rootN n+1)*(rootN n+1)+2*(rootN n+1)+1:=by grind
   rw [e]
   omega
  ·rename_i h
   exact ⟨by omega,by omega⟩
theorem root_uniq {a r s:Nat} (h1:r*r≤a) (h2:a < (r+1)*(r+1)) (k1:s*s≤a) (k2:a < (s+1)*(s+1)):r=s:=by
 rcases Nat.lt_trichotomy r s with h | h | h
 ·have:=Nat.mul_le_mul (show r+1≤s from h) (show r+1≤s from h)
  omega
 ·exact h
 ·have:=Nat.mul_le_mul (show s+1≤r from h) (show s+1≤r from h)
  omega
theorem amgm (x z:Nat):4*(x*z)≤(x+z)*(x+z):=by
 rcases Nat.le_total x z with h | h
 ·obtain ⟨d,rfl⟩:=Nat.exists_eq_add_of_le h
  have e:(x+(x+d))*(x+(x+d))=4*(x*(x+d))+d*d:=by grind
  omega
 ·obtain ⟨d,rfl⟩:=Nat.exists_eq_add_of_le h
  have e:(z+d+z)*(z+d+z)=4*((z+d)*z)+d*d:=by grind
  omega
theorem newton_ge {a x:Nat} (hx:0 < x):a < ((x+a / x) / 2+1)*((x+a / x) / 2+1):=by
 have h1:a < x*(a / x+1):=by rw [Nat.mul_comm];exact Nat.lt_mul_of_div_lt (Nat.lt_succ_self _) hx
 have h2:=amgm x (a / x+1)
 generalize a / x=q at*
 have h3:x+(q+1)≤2*((x+q) / 2+1):=by omega
 have h4:=Nat.mul_le_mul h3 h3
 have e:2*((x+q) / 2+1)*(2*((x+q) / 2+1))=4*(((x+q) / 2+1)*((x+q) / 2+1)):=by grind
 rw [e] at h4
 omega
theorem newton_stop {a x:Nat} (hx:0 < x) (h:x≤(x+a / x) / 2):x*x≤a:=by
 have h1:x≤a / x:=by omega
 exact (Nat.le_div_iff_mul_le hx).1 h1
end Go.Proofs.YtamcpiicmfielaaGreat.Sp
namespace Go.Proofs.YtamcpiicmfielaaGreat.F
open Go.RowKit Go.Proofs.YtamcpiicmfielaaGreat.Sp Go.Proofs.YtamcpiicmfielaaGreatW.PrintWords Go.Proofs.YtamcpiicmfielaaGreatW.PrintMore
theorem len_le_of_le {a b:Nat} (h:a≤b):(toL a).length≤(toL b).length:=len_toL_le (Nat.lt_of_le_of_lt h (lt_of_len_toL (Nat.le_refl _)))
theorem len_add {x y m:Nat} (h1:(toL x).length≤m) (h2:(toL y).length≤m):(toL (x+y)).length≤m+1:=by
 apply len_toL_le
 have e1:=lt_of_len_toL h1
 have e2:=lt_of_len_toL h2
 rw [Nat.pow_succ]
 generalize 4294967296 ^ m=B at*
 omega
theorem start_list (k:Nat) (h:k≤1099511627776):List.replicate (k / 32) (0:Int) ++ [shl .u32 1 ((k % 32:Nat):Int)]=toL (2 ^ k):=by
 have hs:shl .u32 1 ((k % 32:Nat):Int)=((2 ^ (k % 32):Nat):Int):=by
  unfold shl
  have h1:(2:Nat) ^ (k % 32)≤2 ^ 31:=Nat.pow_le_pow_right (by decide) (by omega)
  have h2:(2:Nat) ^ 31=2147483648:=rfl
  rw [Int.toNat_natCast,show min (k % 32) IntKind.u32.bits=k % 32 from Nat.min_eq_left (by simp [IntKind.bits];omega),Int.one_mul,show ((2:Int) ^ (k % 32))=((2 ^ (k % 32):Nat):Int) by norm_cast,IntKind.wrap_u32]
  have h3:=Nat.two_pow_pos (k % 32)
  generalize 2 ^ (k % 32)=z at*
  omega
 rw [hs]
 have h1:(2:Nat) ^ (k % 32)≤2 ^ 31:=Nat.pow_le_pow_right (by decide) (by omega)
 have h2:(2:Nat) ^ 31=2147483648:=rfl
 have h3:=Nat.two_pow_pos (k % 32)
 have hv:vL (List.replicate (k / 32) (0:Int) ++ [((2 ^ (k % 32):Nat):Int)])=2 ^ k:=by
  rw [vL_append,vL_replicate,Nat.zero_add,List.length_replicate,vL_cons,vL_nil,Int.toNat_natCast,Nat.mul_zero,Nat.add_zero,show (4294967296:Nat)=2 ^ 32 from rfl,← Nat.pow_mul,← Nat.pow_add]
  congr 1
  omega
 have hok:okL (List.replicate (k / 32) (0:Int) ++ [((2 ^ (k % 32):Nat):Int)]):=by
  rw [okL_append,okL_cons]
  exact ⟨okL_replicate _, ⟨Int.natCast_nonneg _,by omega⟩,okL_nil⟩
 have:=eq_toL hok (fun _=>by
  rw [hv,List.length_append,List.length_replicate,List.length_singleton,Nat.add_sub_cancel,show (4294967296:Nat)=2 ^ 32 from rfl,← Nat.pow_mul]
  exact Nat.pow_le_pow_right (by decide) (by omega))
 rw [hv] at this
 exact this
end Go.Proofs.YtamcpiicmfielaaGreat.F
