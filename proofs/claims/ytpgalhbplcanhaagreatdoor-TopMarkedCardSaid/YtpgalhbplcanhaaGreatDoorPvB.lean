/-
 What the interpreter does,operation by operation,the model's machine does too. No condition.
-/
import Derived.Test.YtpgalhbplcanhaaGreatDoorPvA
import Derived.Laws.Sem
import Derived.AtR
import Derived.ChangeKeysEq
import Derived.Laws.BitsLemmas
section
namespace PvL
open Go
section
variable {α β γ:Type}
@[simp] theorem zp3 (f:α->Option β):ob none f=none:=rfl
@[simp] theorem za (a:α) (f:α->Option β):ob (some a) f=f a:=rfl
theorem zb{x:Option α}{f:α->Option β}{y:β}:ob x f=some y ↔ ∃ a,x=some a /\ f a=some y:=by
 cases x<;>simp[zp3,za]
@[simp] theorem z56 (n:β) (f:α->β):oe none n f=n:=rfl
@[simp] theorem z2n (a:α) (n:β) (f:α->β):oe (some a) n f=f a:=rfl
@[simp] theorem z07 (x y:α):ifb true x y=x:=rfl
@[simp] theorem zh (x y:α):ifb false x y=y:=rfl
@[simp] theorem zd (x:Option α):guard' true x=x:=rfl
@[simp] theorem guard'_false (x:Option α):guard' false x=none:=rfl
theorem zc{b:Bool}{x:Option α}{y:α}:guard' b x=some y ↔ b=true /\ x=some y:=by cases b<;>simp
@[simp] theorem nE_zero (z:α) (k:Nat->α):nE 0 z k=z:=rfl
@[simp] theorem nE_succ (m:Nat) (z:α) (k:Nat->α):nE (m+1) z k=k m:=rfl
@[simp] theorem z1m (n:Nat) (k:Nat->α):fN n k=k n:=by cases n<;>rfl
@[simp] theorem iE_nat (n:Nat) (p q:Nat->α):iE (.ofNat n) p q=p n:=rfl
@[simp] theorem iE_neg (n:Nat) (p q:Nat->α):iE (.negSucc n) p q=q n:=rfl
@[simp] theorem zdd (z:Int) (k:Int->α):fI z k=k z:=by
 cases z with
 | ofNat n=>exact z1m n fun n=>k (.ofNat n)
 | negSucc n=>exact z1m n fun n=>k (.negSucc n)
@[simp] theorem zro (a:α) (b:β) (k:α->β->γ):pr (a,b) k=k a b:=rfl
@[simp] theorem lE_nil (n:β) (c:α->List α->β):lE [] n c=n:=rfl
@[simp] theorem lE_cons (a:α) (l:List α) (n:β) (c:α->List α->β):lE (a :: l) n c=c a l:=rfl
end
def Bits.val:Bits->Nat
 | .e=>0
 | .l b=>2*b.val+1
 | .r b=>2*b.val+2
theorem zbk:∀(f n:Nat),n<=f->(bitsF f n).val=n
 | 0,n,h=>by obtain rfl:n=0:=by omega
             rfl
 | f+1,0,_=>rfl
 | f+1,m+1,h=>by
  have ih:=zbk f (Nat.div m 2) (by show m / 2<=f;omega)
  show(ifb (Nat.beq (Nat.mod m 2) 0) (Bits.l (bitsF f (Nat.div m 2))) (Bits.r (bitsF f (Nat.div m 2)))).val=m+1
  have hm:Nat.mod m 2=m % 2:=rfl
  have hd:Nat.div m 2=m / 2:=rfl
  rw[hm]
  rcases Nat.mod_two_eq_zero_or_one m with h2|h2
  ·rw[h2];show 2*(bitsF f (Nat.div m 2)).val+1=m+1;rw[ih,hd];omega
  ·rw[h2];show 2*(bitsF f (Nat.div m 2)).val+2=m+1;rw[ih,hd];omega
theorem zed(n:Nat):(bits n).val=n:=zbk n n (Nat.le_refl _)
theorem zka{m n:Nat}(h:bits m=bits n):m=n:=by rw[<-zed m,<- zed n,h]
namespace PT
variable {α:Type}
@[simp] theorem zl2 (b:Bits):getB b (.nil:PT α)=none:=by
 cases b<;>rfl
theorem zn9(b:Bits)(v:Option α)(l r:PT α):getB (.l b) (.node v l r)=getB b l:=rfl
theorem zna(b:Bits)(v:Option α)(l r:PT α):getB (.r b) (.node v l r)=getB b r:=rfl
theorem z41(x:Option α):∀(b b':Bits) (t:PT α),getB b' (setB x b t)=if b'=b then x else getB b' t
 | .e,b',t=>by
  cases t<;>cases b'<;>first
   | rfl
   |(show getB _ PT.nil=_;simp)
 | .l b,b',t=>by
  cases t with
  | nil =>
   cases b' with
   | e=>rfl
   | l b'=>show getB b' (setB x b .nil)=_;rw[z41 x b b' .nil];simp
   | r b'=>show getB b' .nil=_;simp
  | node v l r =>
   cases b' with
   | e=>rfl
   | l b'=>show getB b' (setB x b l)=_;rw[z41 x b b' l,zn9];simp only[Bits.l.injEq]
   | r b'=>show getB b' r=_;rw[zna];simp
 | .r b,b',t=>by
  cases t with
  | nil =>
   cases b' with
   | e=>rfl
   | r b'=>show getB b' (setB x b .nil)=_;rw[z41 x b b' .nil];simp
   | l b'=>show getB b' .nil=_;simp
  | node v l r =>
   cases b' with
   | e=>rfl
   | r b'=>show getB b' (setB x b r)=_;rw[z41 x b b' r,zna];simp only[Bits.r.injEq]
   | l b'=>show getB b' l=_;rw[zn9];simp
@[simp] theorem get_nil (n:Nat):get (.nil:PT α) n=none:=zl2 _
theorem get_set(t:PT α)(n m:Nat)(x:Option α):get (set t n x) m=if m=n then x else get t m:=by
 unfold get set
 rw[z41]
 by_cases h:m=n
 ·simp[h]
 ·have h':bits m ≠ bits n:=fun e=>h (zka e)
  simp[h,h']
@[simp] theorem get_set_same (t:PT α) (n:Nat) (x:Option α):get (set t n x) n=x:=by simp[get_set]
end PT
section
variable {α:Type} {v:LV} {y:α}
theorem zk{k:IntKind->Int->Option α}:asInt v k=some y ↔ ∃ q n,v=.int q n /\ k q n=some y :=
 ⟨fun h=>(by cases v<;>first|exact⟨_,_,rfl,h⟩|cases h),fun⟨x0,x1,e,h⟩=>by subst e;exact h⟩
theorem z1l{k:Bool->Option α}:asBool v k=some y ↔ ∃ b,v=.bool b /\ k b=some y :=
 ⟨fun h=>(by cases v<;>first|exact⟨_,rfl,h⟩|cases h),fun⟨x0,e,h⟩=>by subst e;exact h⟩
theorem z0t{k:Nat->Nat->Option α}:asPtr v k=some y ↔ ∃ i o,v=.ptr (some (i,o)) /\ k i o=some y :=
 ⟨fun h=>(by
  cases v with
  | ptr a =>
   cases a with
   | none=>cases h
   | some p=>exact⟨p.1,p.2,rfl,h⟩
  | _=>cases h),fun⟨i,o,e,h⟩=>by subst e;exact h⟩
theorem z10{k:List LV->Option α}:asAgg v k=some y ↔ ∃ c,v=.agg c /\ k c=some y :=
 ⟨fun h=>(by cases v<;>first|exact⟨_,rfl,h⟩|cases h),fun⟨x0,e,h⟩=>by subst e;exact h⟩
theorem z0k{k:ByteArray->Option α}:asStr v k=some y ↔ ∃ c,v=.str c /\ k c=some y :=
 ⟨fun h=>(by cases v<;>first|exact⟨_,rfl,h⟩|cases h),fun⟨x0,e,h⟩=>by subst e;exact h⟩
theorem zaa{k:List LV->Option α}:asTup v k=some y ↔ ∃ c,v=.tup c /\ k c=some y :=
 ⟨fun h=>(by cases v<;>first|exact⟨_,rfl,h⟩|cases h),fun⟨x0,e,h⟩=>by subst e;exact h⟩
theorem z0m{k:Option (Nat × Nat)->Nat->Bool->Nat->Option α}:asSlice v k=some y ↔ ∃ a n f e,v=.slice a n f e /\ k a n f e=some y :=
 ⟨fun h=>(by cases v<;>first|exact⟨_,_,_,_,rfl,h⟩|cases h),fun⟨x0,x1,x2,x3,e,h⟩=>by subst e;exact h⟩
theorem z29{k:Option Nat->Option α}:asMap v k=some y ↔ ∃ r,v=.map r /\ k r=some y :=
 ⟨fun h=>(by cases v<;>first|exact⟨_,rfl,h⟩|cases h),fun⟨x0,e,h⟩=>by subst e;exact h⟩
theorem z68{k:TypeId->LV->Option α}:asIface v k=some y ↔ ∃ t x,v=.iface t x /\ k t x=some y :=
 ⟨fun h=>(by cases v<;>first|exact⟨_,_,rfl,h⟩|cases h),fun⟨x0,x1,e,h⟩=>by subst e;exact h⟩
end
@[simp] theorem cells_agg (c:List LV):(LV.agg c).cells=c:=rfl
end PvL
end
section
namespace PvL
open Go
abbrev Rho:=Nat->Option (Nat × Nat × Nat)
def RLe(ρ ρ':Rho):Prop:=∀ i x,ρ i=some x->ρ' i=some x
theorem RLe.refl(ρ:Rho):RLe ρ ρ:=fun _ _ h=>h
theorem RLe.trans{a b c:Rho}(h:RLe a b)(h':RLe b c):RLe a c:=fun i x e=>h' i x (h i x e)
mutual
inductive VR (ρ:Rho):LV->Value->Prop
 | int (k:IntKind) (n:Int):VR ρ (.int k n) (.int k n)
 | bool (b:Bool):VR ρ (.bool b) (.bool b)
 | str (s:ByteArray):VR ρ (.str s) (.string s)
 | ptrNil:VR ρ (.ptr none) (.pointer none)
 | ptr {i o b s c:Nat} (h:ρ i=some (b,s,c)):VR ρ (.ptr (some (i,o))) (.pointer (some ⟨b,s+o,none⟩))
 | sliceNil (f:Bool) (e:Nat):VR ρ (.slice none 0 f e) (.slice none 0 0)
 | slice {i o b s c len cap e:Nat} {f:Bool} (h:ρ i=some (b,s,c)) (hl:len<=cap) (hf:f=true->cap=len) (hc:s+o+cap*e<=c) :
   VR ρ (.slice (some (i,o)) len f e) (.slice (some ⟨b,s+o,none⟩) len cap)
 | sliceZ {i o e:Nat} {a:Addr}:VR ρ (.slice (some (i,o)) 0 true e) (.slice (some a) 0 0)
 | sliceE {i o cap:Nat} {a:Addr}:VR ρ (.slice (some (i,o)) 0 false 0) (.slice (some a) 0 cap)
 | mapNil:VR ρ (.map none) (.map none)
 | map {i b s c:Nat} (h:ρ i=some (b,s,c)):VR ρ (.map (some i)) (.map (some b))
 | func {g:FuncId} {fi ca:List LV} {fi' ca':Array Value} (h1:VRs ρ fi fi'.toList) (h2:VRs ρ ca ca'.toList):VR ρ (.func (.func g) fi ca) (.func (.func g) fi' ca')
 | yield {l b s c:Nat} (h:ρ l=some (b,s,c)):VR ρ (.func (.yield l) [] []) (.func (.yield b) #[] #[])
 | nilFunc:VR ρ .nilFunc .nilFunc
 | nilIface:VR ρ .nilIface .nilIface
 | agg {cs:List LV} {cs':Array Value} (h:VRs ρ cs cs'.toList):VR ρ (.agg cs) (.agg cs')
 | tup {vs:List LV} {vs':Array Value} (h:VRs ρ vs vs'.toList):VR ρ (.tup vs) (.tuple vs')
 | unk (v:Value):VR ρ .unk v
 | iface {t:TypeId} {v:LV} {v':Value} (h:VR ρ v v'):VR ρ (.iface t v) (.iface t v')
inductive VRs (ρ:Rho):List LV->List Value->Prop
 | nil:VRs ρ [] []
 | cons {a:LV} {b:Value} {as:List LV} {bs:List Value} (h:VR ρ a b) (t:VRs ρ as bs):VRs ρ (a :: as) (b :: bs)
end
mutual
theorem VR.mono{ρ ρ':Rho}(hr:RLe ρ ρ'):∀ {v:LV} {v':Value},VR ρ v v'->VR ρ' v v'
 | _,_,.int k n=>.int k n
 | _,_,.bool b=>.bool b
 | _,_,.str s=>.str s
 | _,_,.ptrNil=>.ptrNil
 | _,_,.ptr h=>.ptr (hr _ _ h)
 | _,_,.sliceNil f e=>.sliceNil f e
 | _,_,.slice h hl hf hc=>.slice (hr _ _ h) hl hf hc
 | _,_,.sliceZ=>.sliceZ
 | _,_,.sliceE=>.sliceE
 | _,_,.mapNil=>.mapNil
 | _,_,.map h=>.map (hr _ _ h)
 | _,_,.func h1 h2=>.func (VRs.mono hr h1) (VRs.mono hr h2)
 | _,_,.yield h=>.yield (hr _ _ h)
 | _,_,.nilFunc=>.nilFunc
 | _,_,.nilIface=>.nilIface
 | _,_,.agg h=>.agg (VRs.mono hr h)
 | _,_,.tup h=>.tup (VRs.mono hr h)
 | _,_,.unk v=>.unk v
 | _,_,.iface h=>.iface (VR.mono hr h)
theorem VRs.mono{ρ ρ':Rho}(hr:RLe ρ ρ'):∀ {v:List LV} {v':List Value},VRs ρ v v'->VRs ρ' v v'
 | _,_,.nil=>.nil
 | _,_,.cons h t=>.cons (VR.mono hr h) (VRs.mono hr t)
end
section lists
variable {ρ:Rho}
theorem VRs.length{as:List LV}{bs:List Value}(h:VRs ρ as bs):as.length=bs.length:=by
 induction as generalizing bs with
 | nil=>cases h;rfl
 | cons a as ih=>cases h with|cons h t=>simp[ih t]
theorem VRs.get{as:List LV}{bs:List Value}(h:VRs ρ as bs){k:Nat}{v:LV}(hk:as[k]?=some v):∃ v',bs[k]?=some v' /\ VR ρ v v':=by
 induction as generalizing bs k with
 | nil=>simp at hk
 | cons a as ih =>
  cases h with
  | cons h t =>
   cases k with
   | zero=>simp at hk;subst hk;exact⟨_,rfl,h⟩
   | succ k=>simpa using ih t (by simpa using hk)
theorem VRs.of_get{as:List LV}{bs:List Value}(hl:as.length=bs.length)(h:∀(k:Nat) (v:LV),as[k]?=some v->∃ v',bs[k]?=some v' /\ VR ρ v v'):VRs ρ as bs:=by
 induction as generalizing bs with
 | nil=>cases bs with|nil=>exact .nil|cons b bs=>simp at hl
 | cons a as ih =>
  cases bs with
  | nil=>simp at hl
  | cons b bs =>
   refine .cons ?_ (ih (by simpa using hl) fun k v hk=>by simpa using h (k+1) v (by simpa using hk))
   obtain⟨v',e,hv⟩:=h 0 a rfl
   simp at e;subst e;exact hv
theorem VRs.append{as as':List LV}{bs bs':List Value}(h:VRs ρ as bs)(h':VRs ρ as' bs'):VRs ρ (as ++ as') (bs ++ bs'):=by
 induction as generalizing bs with
 | nil=>cases h;exact h'
 | cons a as ih=>cases h with|cons h t=>exact .cons h (ih t)
theorem z4w(l:List LV)(n:Nat):nth l n=l[n]?:=by
 induction l generalizing n with
 | nil=>simp[nth]
 | cons a l ih=>cases n with
  | zero=>rfl
  | succ n=>show nth l n=_;rw[ih];simp
theorem z1o(n:Nat)(l:List LV):drop' n l=l.drop n:=by
 induction n generalizing l with
 | zero=>rfl
 | succ n ih=>cases l with
  | nil=>rfl
  | cons a l=>show drop' n l=_;rw[ih];rfl
theorem z1z{n:Nat}{l r:List LV}:take' n l=some r ↔ n<=l.length /\ r=l.take n:=by
 induction n generalizing l r with
 | zero=>show some []=some r ↔ _;simp[eq_comm]
 | succ n ih=>cases l with
  | nil=>show none=some r ↔ _;simp
  | cons a l =>
   show ob (take' n l) (fun l=>some (a :: l))=some r ↔ _
   rw[zb]
   constructor
   ·rintro⟨q,hq,e⟩
    obtain⟨h1,rfl⟩:=ih.1 hq
    cases e
    exact⟨by simpa using h1,rfl⟩
   ·rintro⟨h1,rfl⟩
    exact⟨_,ih.2 ⟨by simpa using h1,rfl⟩,rfl⟩
theorem z24:∀(l:List LV) (n:Nat) (vs r:List LV),z0h l n vs=some r ->
  r.length=l.length /\ (vs=[] ∨ n+vs.length<=l.length) /\ ∀ k,r[k]?=if n<=k /\ k < n+vs.length then vs[k - n]? else l[k]?
 | [],n,vs,r,h=>by
  cases vs with
  | nil=>cases h;simp
  | cons v vs=>cases h
 | x :: xs,n,[],r,h=>by cases h;simp;intro k h1 h2;omega
 | x :: xs,0,v :: vs,r,h=>by
  have h':ob (z0h xs 0 vs) (fun l=>some (v :: l))=some r:=h
  obtain⟨q,hq,e⟩:=zb.1 h'
  cases e
  obtain⟨h1,h2,h3⟩:=z24 xs 0 vs q hq
  refine⟨by simp[h1],.inr ?_,fun k=>?_⟩
  ·rcases h2 with rfl|h2
   ·simp
   ·simp at h2 ⊢;omega
  ·cases k with
   | zero=>simp
   | succ k =>
    have:=h3 k
    simp at this ⊢
    rw[this]
 | x :: xs,n+1,v :: vs,r,h=>by
  have h':ob (z0h xs n (v :: vs)) (fun l=>some (x :: l))=some r:=h
  obtain⟨q,hq,e⟩:=zb.1 h'
  cases e
  obtain⟨h1,h2,h3⟩:=z24 xs n (v :: vs) q hq
  refine⟨by simp[h1],.inr ?_,fun k=>?_⟩
  ·rcases h2 with h2|h2
   ·cases h2
   ·simp at h2 ⊢;omega
  ·cases k with
   | zero=>simp
   | succ k =>
    have:=h3 k
    simp at this ⊢
    rw[this]
    by_cases hc:n<=k /\ k < n+(vs.length+1)
    ·rw[if_pos hc,if_pos ⟨hc.1,by omega⟩]
    ·rw[if_neg hc,if_neg (fun h=>hc ⟨h.1,by omega⟩)]
end lists
def GlobOk(ρ:Rho):Prop:=∀ g,g < 64->∃ c,ρ g=some (g,0,c)
theorem GlobOk.mono{ρ ρ':Rho}(hr:RLe ρ ρ')(h:GlobOk ρ):GlobOk ρ':=fun g hg=>let ⟨c,e⟩:=h g hg;⟨c,hr _ _ e⟩
structure TR (ρ:Rho) (T:Tm) (a:Array Value):Prop where
 sz:a.size=T.size
 at_:∀ i,VR ρ (T.get i) (a.getD i undef)
 glob:GlobOk ρ
theorem TR.mono{ρ ρ':Rho}(hr:RLe ρ ρ'){T:Tm}{a:Array Value}(h:TR ρ T a):TR ρ' T a:=⟨h.1,fun i=>(h.2 i).mono hr,h.3.mono hr⟩
theorem Tm.set_eq{T T':Tm}{i:Nat}{v:LV}:T.set i v=some T' ↔ i < T.size /\ T'=⟨T.size,T.tr.set i (some v)⟩:=by
 cases T with
 | mk n t =>
  show guard' (Nat.ble (Nat.succ i) n) (some _)=some T' ↔ _
  rw[zc,Nat.ble_eq]
  simp only[Option.some.injEq]
  exact⟨fun⟨a,b⟩=>⟨a,b.symm⟩,fun⟨a,b⟩=>⟨a,b.symm⟩⟩
theorem Tm.get_set{T T':Tm}{i:Nat}{v:LV}(h:T.set i v=some T')(j:Nat):T'.get j=if j=i then v else T.get j:=by
 obtain⟨_,rfl⟩:=Tm.set_eq.1 h
 unfold Tm.get
 simp only[PT.get_set]
 split<;>rfl
theorem z3r(T:Tm)(t:Tmp):evT T t=some (T.get t):=by
 cases T with
 | mk n tr =>
  show oe (tr.get t) (some .unk) some=_
  unfold Tm.get
  cases tr.get t<;>rfl
theorem TR.set{ρ:Rho}{T T':Tm}{a:Array Value}{i:Nat}{v:LV}{v':Value}(h:TR ρ T a)(hs:T.set i v=some T')(hv:VR ρ v v'):TR ρ T' (a.setIfInBounds i v'):=by
 obtain⟨hi,e⟩:=Tm.set_eq.1 hs
 refine⟨by rw[e];simpa using h.1,fun j=>?_,h.3⟩
 rw[Tm.get_set hs]
 by_cases hj:j=i
 ·subst hj
  rw[if_pos rfl,Array.getD_eq_getD_getElem?,Array.getElem?_setIfInBounds_self_of_lt (by rw[h.1];exact hi)]
  exact hv
 ·rw[if_neg hj,Array.getD_eq_getD_getElem?,Array.getElem?_setIfInBounds_ne (Ne.symm hj),<- Array.getD_eq_getD_getElem?]
  exact h.2 j
theorem TR.put{ρ:Rho}{T T':Tm}{a:Act}{d:Option Tmp}{v:LV}{v':Value}(h:TR ρ T a.tmps)(hs:T.put d v=some T')(hv:VR ρ v v'):TR ρ T' (a.put d v').tmps:=by
 cases d with
 | none=>cases hs;exact h
 | some d=>exact h.set hs hv
theorem z0b(a:Act)(d:Option Tmp)(v:Value):(a.put d v).defers=a.defers:=by cases d<;>rfl
theorem zey{v:Value}{l:LV}(ρ:Rho)(h:ofV0 v=some l):VR ρ l v:=by
 unfold ofV0 at h
 split at h<;>first
  |(cases h;first|exact .int _ _|exact .bool _|exact .str _|exact .ptrNil|exact .sliceNil _ _|exact .mapNil|exact .nilFunc|exact .nilIface|exact .func .nil .nil)
  | cases h
theorem zlc{vs:List Value}{l:List LV}(ρ:Rho)(h:ofVs vs=some l):VRs ρ l vs:=by
 induction vs generalizing l with
 | nil=>cases h;exact .nil
 | cons v vs ih =>
  obtain⟨a,ha,h⟩:=zb.1 h
  obtain⟨b,hb,h⟩:=zb.1 h
  cases h
  exact .cons (zey ρ ha) (ih hb)
theorem ziq{v:Value}{l:LV}(ρ:Rho)(h:ofV v=some l):VR ρ l v:=by
 unfold ofV at h
 split at h
 ·obtain⟨a,ha,h⟩:=zb.1 h
  cases h
  exact .agg (zlc ρ ha)
 ·cases h;exact .tup .nil
 ·exact zey ρ h
theorem zr{ρ:Rho}{T:Tm}{a:Act}(h:TR ρ T a.tmps){x:Operand}{v:LV}(hx:ev T x=some v):VR ρ v (a.eval x):=by
 cases x with
 | tmp t=>have hx:evT T t=some v:=hx;rw[z3r] at hx;cases hx;exact h.2 t
 | const c=>exact ziq ρ hx
 | global g =>
  have hx:ifb (Nat.ble (Nat.succ g) 64) (some (LV.ptr (some (g,0)))) none=some v:=hx
  cases hb:Nat.ble (Nat.succ g) 64 with
  | false=>rw[hb] at hx;cases hx
  | true =>
   rw[hb] at hx;cases hx
   rw[Nat.ble_eq] at hb
   obtain⟨c,hc⟩:=h.3 g hb
   exact .ptr (o:=0) hc
 | func f=>cases hx;exact .func .nil .nil
theorem zat{ρ:Rho}{T:Tm}{a:Act}(h:TR ρ T a.tmps){xs:List Operand}{vs:List LV}(hx:evs T xs=some vs):VRs ρ vs (xs.map a.eval):=by
 induction xs generalizing vs with
 | nil=>cases hx;exact .nil
 | cons x xs ih =>
  obtain⟨v,hv,hx⟩:=zb.1 hx
  obtain⟨vs,hvs,hx⟩:=zb.1 hx
  cases hx
  exact .cons (zr h hv) (ih hvs)
def CellsR(ρ:Rho)(cs:List LV)(C:Array Value)(s:Nat):Prop:=∀ k v,cs[k]?=some v->∃ v',C[s+k]?=some v' /\ VR ρ v v'
def ER(ρ:Rho):List (LV × LV)->List MapEntry->Prop
 | [],[]=>True
 | x :: es,e :: E=>VR ρ x.1 e.key /\ VR ρ x.2 e.val /\ ER ρ es E
 | _,_=>False
def Thaw(fr:Nat × Nat)(c:Nat):Prop:=fr=(0,0) ∨ fr=(c,c+1)
def TyR(ty e s:Nat):Prop:=(ty < 1000000 /\ e=ty /\ s=0) ∨ ty=e+1000000
def BR(ρ:Rho):LB->Obj->Nat->Nat->Prop
 | .cells own cs ty,o,s,c=>∃ C e fr,o=.cells C e fr /\ (own=true->Thaw fr c /\ TyR ty e s) /\ C.size=c /\ CellsR ρ cs C s
 | .map es bs clk,o,_,_=>∃ E,o=.map E clk /\ ER ρ es E.toList /\ bs=E.toList.map (·.born)
 | .loop st pend fn tm ps as bd d,o,_,_=>∃ T' db,o=.loop { state:=st,pending:=pend,fn,tmps:=T',params:=ps.toArray,assign:=as,body:=bd,defers:=db } /\ TR ρ tm T' /\ ∃ s c,ρ d=some (db,s,c)
 | .defr,o,_,_=>o=.deferred (some [])
 | .iter none _ _ _,o,s,_=>s=0 /\ ∃ a b c,o=.mapIter none a b c
 | .iter (some r) since seen last,o,s,_=>s=0 /\ ∃ b s c,ρ r=some (b,s,c) /\ o=.mapIter (some b) since seen.toArray last
def isRo:LB->Bool | .cells false _ _=>true|_=>false
theorem CellsR.mono{ρ ρ':Rho}(hr:RLe ρ ρ'){cs:List LV}{C:Array Value}{s:Nat}(h:CellsR ρ cs C s):CellsR ρ' cs C s:=fun k v hk=>let ⟨v',e,hv⟩:=h k v hk;⟨v',e,hv.mono hr⟩
theorem ER.mono{ρ ρ':Rho}(hr:RLe ρ ρ'):∀ {es:List (LV × LV)} {E:List MapEntry},ER ρ es E->ER ρ' es E
 | [],[],_=>trivial
 | _ :: _,_ :: _,h=>⟨h.1.mono hr,h.2.1.mono hr,ER.mono hr h.2.2⟩
 | [],_ :: _,h=>h.elim
 | _ :: _,[],h=>h.elim
theorem BR.mono{ρ ρ':Rho}(hr:RLe ρ ρ'){lb:LB}{o:Obj}{s c:Nat}(h:BR ρ lb o s c):BR ρ' lb o s c:=by
 cases lb with
 | cells own cs e=>obtain⟨C,e,fr,h1,h2,h3,h4⟩:=h;exact⟨C,e,fr,h1,h2,h3,h4.mono hr⟩
 | map es bs clk=>obtain⟨E,h1,h2,h3⟩:=h;exact⟨E,h1,h2.mono hr,h3⟩
 | iter src a b c =>
  cases src with
  | none=>exact h
  | some r=>obtain⟨h0,b,s,c,h1,h2⟩:=h;exact⟨h0,b,s,c,hr _ _ h1,h2⟩
 | loop st pend fn tm ps a b d=>obtain⟨T',db,h1,h2,s,c,h3⟩:=h;exact⟨T',db,h1,h2.mono hr,s,c,hr _ _ h3⟩
 | defr=>exact h
structure Prot where
 f:Nat->Option Obj
 ro:Nat->Prop
 sub:∀ b,ro b->f b ≠ none
 base:Nat
 os:Os
 out:Array (Nat × ByteArray)
instance:CoeFun Prot (fun _=>Nat->Option Obj):=⟨Prot.f⟩
structure Rel (Pt:Prot) (ρ:Rho) (m:Mem) (w:World):Prop where
 keep:∀ r o,Pt r=some o->w.heap[r]?=some o
 live:∀ i lb,m.get i=some lb->i < m.next /\ ∃ b s c o,ρ i=some (b,s,c) /\ BR ρ lb o s c /\ w.heap[b]?=some o /\ (if isRo lb then Pt b=some o /\ Pt.ro b else Pt b=none)
 inj:∀ i j lb lb' x y,m.get i=some lb->m.get j=some lb'->isRo lb=false->isRo lb'=false->ρ i=some x->ρ j=some y->x.1=y.1->i=j
 still:w.os=Pt.os /\ w.output=Pt.out
theorem Mem.get_mk(n:Nat)(t:PT LB)(i:Nat):(Mem.mk n t).get i=t.get i:=rfl
theorem Mem.get_upd(m:Mem)(i j:Nat)(b:Option LB):(m.upd i b).get j=if j=i then b else m.get j:=by
 cases m with
 | mk n t=>show(t.set i b).get j=_;rw[PT.get_set];rfl
theorem Mem.next_upd(m:Mem)(i:Nat)(b:Option LB):(m.upd i b).next=m.next:=by cases m;rfl
noncomputable def Mem.push(m:Mem)(b:LB):Mem:=⟨m.next+1,m.tr.set m.next (some b)⟩
theorem Mem.new_eq{α:Type}(m:Mem)(b:LB)(k:Nat->Mem->α):m.new b k=k m.next (m.push b):=by
 cases m with
 | mk n t=>exact z1m n fun n=>k n ⟨n+1,t.set n (some b)⟩
theorem Mem.get_push(m:Mem)(b:LB)(j:Nat):(m.push b).get j=if j=m.next then some b else m.get j:=by
 cases m with
 | mk n t=>show(t.set n (some b)).get j=_;rw[PT.get_set];rfl
section rel
variable {Pt:Prot} {ρ:Rho} {m:Mem} {w:World}
theorem Rel.of_heap(h:Rel Pt ρ m w){w':World}(e:w'.heap=w.heap)(hs:w'.os=w.os /\ w'.output=w.output:=by exact⟨rfl,rfl⟩):Rel Pt ρ m w' :=
 ⟨fun r o hr=>e ▸ h.keep r o hr,fun i lb hi=>by rw[e];exact h.live i lb hi,h.inj,by rw[hs.1,hs.2];exact h.still⟩
def upd1(ρ:Rho)(i:Nat)(x:Nat × Nat × Nat):Rho:=fun j=>if j=i then some x else ρ j
theorem RLe.upd1{i:Nat}{x:Nat × Nat × Nat}(h:ρ i=none):RLe ρ (upd1 ρ i x):=fun j y e=>by
 unfold PvL.upd1
 by_cases hj:j=i
 ·subst hj;rw[h] at e;cases e
 ·rw[if_neg hj];exact e
theorem Rel.drop(h:Rel Pt ρ m w)(i:Nat):Rel Pt ρ (m.upd i none) w:=by
 refine⟨h.keep,fun j lb hj=>?_,fun j k lb lb' x y hj hk=>?_,h.still⟩
 ·rw[Mem.get_upd] at hj
  by_cases e:j=i
  ·rw[if_pos e] at hj;cases hj
  ·rw[if_neg e] at hj;rw[Mem.next_upd];exact h.live j lb hj
 ·rw[Mem.get_upd] at hj hk
  by_cases e:j=i
  ·rw[if_pos e] at hj;cases hj
  ·by_cases e':k=i
   ·rw[if_pos e'] at hk;cases hk
   ·rw[if_neg e] at hj;rw[if_neg e'] at hk
    exact h.inj j k lb lb' x y hj hk
theorem Rel.turn(h:Rel Pt ρ m w){i:Nat}{lb lb':LB}(hi:m.get i=some lb)(hro:isRo lb=false)(hro':isRo lb'=false){b s c:Nat}(hρ:ρ i=some (b,s,c))
  {w':World} {o':Obj} (hb:BR ρ lb' o' s c) (ho:w'.heap[b]?=some o') (hoth:∀ r,r ≠ b->w'.heap[r]?=w.heap[r]?) (hs:w'.os=w.os /\ w'.output=w.output:=by exact⟨rfl,rfl⟩):Rel Pt ρ (m.upd i (some lb')) w':=by
 obtain⟨hlt,b0,s0,c0,o0,e0,_,_,hp⟩:=h.live i lb hi
 rw[hρ] at e0;cases e0
 rw[hro] at hp
 have hp:Pt b=none:=hp
 refine⟨fun r o hr=>?_,fun j l hj=>?_,fun j k l l' x y hj hk=>?_,by rw[hs.1,hs.2];exact h.still⟩
 ·have:r ≠ b:=fun e=>by subst e;rw[hp] at hr;cases hr
  rw[hoth r this];exact h.keep r o hr
 ·rw[Mem.get_upd] at hj
  by_cases e:j=i
  ·rw[if_pos e] at hj;cases hj;subst e
   exact⟨by rw[Mem.next_upd];exact hlt,b,s,c,o',hρ,hb,ho,by rw[hro'];exact hp⟩
  ·rw[if_neg e] at hj
   obtain⟨hl,b1,s1,c1,o1,e1,h1,h2,h3⟩:=h.live j l hj
   have hne:b1 ≠ b:=fun eb=>by
    subst eb
    by_cases hr:isRo l=true
    ·rw[if_pos hr,hp] at h3;cases h3.1
    ·exact e (h.inj j i l lb _ _ hj hi (by simpa using hr) hro e1 hρ rfl)
   exact⟨by rw[Mem.next_upd];exact hl,b1,s1,c1,o1,e1,h1,by rw[hoth b1 hne];exact h2,h3⟩
 ·rw[Mem.get_upd] at hj hk
  intro h1 h2
  by_cases e:j=i
  ·by_cases e':k=i
   ·intro _ _ _;rw[e,e']
   ·rw[if_pos e] at hj;rw[if_neg e'] at hk;subst e
    exact h.inj j k lb l' x y hi hk hro h2
  ·by_cases e':k=i
   ·rw[if_neg e] at hj;subst e'
    exact h.inj j k l lb x y hj hi h1 hro
   ·rw[if_neg e] at hj;rw[if_neg e'] at hk
    exact h.inj j k l l' x y hj hk h1 h2
theorem z5m{o:Obj}{r:Nat}(hr:r < w.heap.size):({ w with heap:=w.heap.push o }:World).heap[r]?=w.heap[r]?:=by
 simp[Array.getElem?_push,Nat.ne_of_lt hr]
theorem Rel.alloc(h:Rel Pt ρ m w)(hf:ρ m.next=none){lb:LB}{o:Obj}{c:Nat}(hro:isRo lb=false)(hb:BR ρ lb o 0 c) :
  Rel Pt (upd1 ρ m.next (w.heap.size,0,c)) (m.push lb) { w with heap:=w.heap.push o }:=by
 have hle:=RLe.upd1 (ρ:=ρ) (i:=m.next) (x:=(w.heap.size,0,c)) hf
 have hnew:∀ r o',w.heap[r]?=some o'->r < w.heap.size:=fun r o' e=>(Array.getElem?_eq_some_iff.1 e).1
 refine⟨fun r o' hr=>?_,fun j l hj=>?_,fun j k l l' x y hj hk h1 h2 hx hy he=>?_,h.still⟩
 ·have:=h.keep r o' hr
  rw[z5m (hnew r o' this)];exact this
 ·rw[Mem.get_push] at hj
  by_cases e:j=m.next
  ·rw[if_pos e] at hj;cases hj
   refine⟨by show j < m.next+1;omega,w.heap.size,0,c,o,by unfold upd1;rw[if_pos e],hb.mono hle,by simp,?_⟩
   rw[hro]
   show Pt w.heap.size=none
   cases hp:Pt w.heap.size with
   | none=>rfl
   | some o'=>exact absurd (hnew _ _ (h.keep _ _ hp)) (Nat.lt_irrefl _)
  ·rw[if_neg e] at hj
   obtain⟨hl,b1,s1,c1,o1,e1,h1,h2,h3⟩:=h.live j l hj
   exact⟨Nat.lt_succ_of_lt hl,b1,s1,c1,o1,hle _ _ e1,h1.mono hle,by rw[z5m (hnew _ _ h2)];exact h2,h3⟩
 ·rw[Mem.get_push] at hj hk
  by_cases e:j=m.next
  ·by_cases e':k=m.next
   ·rw[e,e']
   ·rw[if_neg e'] at hk
    obtain⟨hl,b1,s1,c1,o1,e1,_,g2,_⟩:=h.live k l' hk
    rw[hle _ _ e1] at hy;cases hy
    unfold upd1 at hx;rw[if_pos e] at hx;cases hx
    exact absurd (hnew _ _ g2) (by simp at he;omega)
  ·rw[if_neg e] at hj
   obtain⟨hl,b1,s1,c1,o1,e1,_,g2,_⟩:=h.live j l hj
   rw[hle _ _ e1] at hx;cases hx
   by_cases e':k=m.next
   ·unfold upd1 at hy;rw[if_pos e'] at hy;cases hy
    exact absurd (hnew _ _ g2) (by simp at he;omega)
   ·rw[if_neg e'] at hk
    obtain⟨_,b2,s2,c2,o2,e2,_,_,_⟩:=h.live k l' hk
    rw[hle _ _ e2] at hy;cases hy
    exact h.inj j k l l' _ _ hj hk h1 h2 e1 e2 he
end rel
end PvL
end
section
namespace PvL
open Go
section words
variable {P:Program} {w:World}
theorem run_typeInfo{t:TypeId}{i:TypeInfo}(h:P.info? t=some i):(typeInfo t).run P w=.ok i w:=by
 simp[typeInfo,h]
theorem run_underlying{t:TypeId}{d:TypeDesc}(h:P.underlying t=some d):(underlying t).run P w=.ok d w:=by
 simp[underlying,h]
theorem zy{t:TypeId}{n:Nat}(h:szOf P t=some n):(Go.sizeOf t).run P w=.ok n w:=by
 unfold szOf at h
 cases hi:P.info? t with
 | none=>rw[hi] at h;cases h
 | some i=>rw[hi] at h;cases h;simp[Go.sizeOf,run_typeInfo hi]
theorem zco{t:TypeId}{n:Nat}(h:bytesOfT P t=some n):∃ i,(typeInfo t).run P w=.ok i w /\ i.bytes=n:=by
 unfold bytesOfT at h
 cases hi:P.info? t with
 | none=>rw[hi] at h;cases h
 | some i=>rw[hi] at h;cases h;exact⟨i,run_typeInfo hi,rfl⟩
theorem z5v{t:TypeId}{b:Bool}(h:isAggT P t=some b):(isAgg t).run P w=.ok b w:=by
 unfold isAggT at h
 cases hu:P.underlying t with
 | none=>rw[hu] at h;cases h
 | some d =>
  rw[hu] at h;cases h
  unfold isAgg
  rw[Sem.run_bind,run_underlying hu]
  cases d<;>rfl
theorem zb5{t:TypeId}{z:LV}(ρ:Rho)(h:zeroL P t=some z):∃ v,(zeroValue t).run P w=.ok v w /\ VR ρ z v /\ zl z.cells=true:=by
 obtain⟨i,hi,h⟩:=zb.1 h
 obtain⟨v,hv,h⟩:=zb.1 h
 obtain⟨z',hz,h⟩:=zb.1 h
 obtain⟨hf,h⟩:=zc.1 h
 cases h
 exact⟨v,by simp[zeroValue,run_typeInfo hi,hv],ziq ρ hz,hf⟩
theorem ze9{t:TypeId}{s:Option Nat}(h:aggSz P t=some s):(s=none /\ isAggT P t=some false) ∨ ∃ n,s=some n /\ isAggT P t=some true /\ szOf P t=some n:=by
 obtain⟨b,hb,h⟩:=zb.1 h
 cases b with
 | false=>cases h;exact .inl ⟨rfl,hb⟩
 | true =>
  obtain⟨n,hn,h⟩:=zb.1 (show ob (szOf P t) (fun n=>some (some n))=some s from h)
  cases h;exact .inr ⟨n,rfl,hb,hn⟩
theorem z28(b o k:Nat):(⟨b,o,none⟩:Addr).add k=⟨b,o+k,none⟩:=by
 unfold Addr.add
 split
 ·subst_vars;rfl
 ·rfl
theorem z6b{b k:Nat}{C:Array Value}{e:TypeId}{fr:Nat × Nat}(h:w.heap[b]?=some (.cells C e fr)):w.cell? ⟨b,k,none⟩=C[k]?:=by
 simp[World.cell?,h]
theorem zhz{b k:Nat}{C:Array Value}{e:TypeId}{fr:Nat × Nat}(hf:Thaw fr C.size)(hk:k < C.size)(h:w.heap[b]?=some (.cells C e fr)):w.frozen? ⟨b,k,none⟩=false:=by
 rcases hf with rfl|rfl
 ·simp[World.frozen?,h]
 ·simp[World.frozen?,h];omega
theorem z8u{a:Addr}{v:Value}(h:w.cell? a=some v):(load a).run P w=.ok v w:=by simp[h]
theorem z6k{b o:Nat}(n:Nat):∀(i:Nat) (acc:Array Value) (vs:List Value),vs.length=n->(∀ k,k < n->w.cell? ⟨b,o+i+k,none⟩=vs[k]?) ->
  (loadCellsFrom ⟨b,o,none⟩ i n acc).run P w=.ok (acc ++ vs.toArray) w:=by
 induction n with
 | zero=>intro i acc vs hl _;obtain rfl:vs=[]:=by simpa using hl
         simp[loadCellsFrom]
 | succ n ih =>
  intro i acc vs hl hc
  cases vs with
  | nil=>simp at hl
  | cons v vs =>
   have h0:w.cell? ⟨b,o+i,none⟩=some v:=by simpa using hc 0 (by omega)
   unfold loadCellsFrom
   rw[Sem.run_bind,z28,z8u h0,Result.andThen_ok]
   rw[ih (i+1) (acc.push v) vs (by simpa using hl) (fun k hk=>?_)]
   ·simp
   ·have:=hc (k+1) (by omega)
    rw[show o+(i+1)+k=o+i+(k+1) from by omega,this]
    simp
theorem z3q{b o n:Nat}{vs:List Value}(hl:vs.length=n)(hc:∀ k,k < n->w.cell? ⟨b,o+k,none⟩=vs[k]?) :
  (loadCells ⟨b,o,none⟩ n).run P w=.ok vs.toArray w:=by
 unfold loadCells
 rw[z6k n 0 #[] vs hl (by simpa using hc)]
 simp
end words
theorem zc1{ρ:Rho}{v:LV}{v':Value}(h:VR ρ v v')(hf:v.flat=true):v'.oneCell'=true:=by
 cases h<;>first|rfl|cases hf
theorem z3u{v:LV}{vs:List LV}:zl (v :: vs)=true ↔ v.flat=true /\ zl vs=true:=by
 show ifb v.flat (zl vs) false=true ↔ _
 cases v.flat<;>simp
theorem VRs.oneCells{ρ:Rho}{vs:List LV}{vs':List Value}(h:VRs ρ vs vs')(hf:zl vs=true):∀ x ∈ vs',x.oneCell'=true:=by
 induction vs generalizing vs' with
 | nil=>cases h;simp
 | cons v vs ih =>
  obtain⟨h1,h2⟩:=z3u.1 hf
  cases h with
  | cons h t =>
   intro x hx
   cases hx with
   | head=>exact zc1 h h1
   | tail _ hx=>exact ih t h2 x hx
theorem VR.cells{ρ:Rho}{v:LV}{v':Value}(h:VR ρ v v')(hf:zl v.cells=true):VRs ρ v.cells v'.cells.toList:=by
 cases h with
 | agg h=>exact h
 | unk v =>
  have:zl [LV.unk]=true:=hf
  have:=(z3u.1 this).1
  cases this
 | tup h =>
  have:zl [LV.tup _]=true:=hf
  have:=(z3u.1 this).1
  cases this
 | _=>exact .cons (by constructor<;>assumption) .nil
theorem z4y(P:Program)(b o:Nat)(e:TypeId)(fr:Nat × Nat):∀(vs:List Value) (i:Nat) (w:World) (C:Array Value),Thaw fr C.size ->
  w.heap[b]?=some (.cells C e fr)->(∀ x ∈ vs,x.oneCell'=true)->(vs=[] ∨ o+i+vs.length<=C.size) ->
  ∃ w' C',(storeCells ⟨b,o,none⟩ vs i).run P w=.ok () w' /\ w'.heap[b]?=some (.cells C' e fr) /\ C'.size=C.size /\
   (∀ k,C'[k]?=if o+i<=k /\ k < o+i+vs.length then vs[k - (o+i)]? else C[k]?) /\ (∀ r,r ≠ b->w'.heap[r]?=w.heap[r]?) /\ (w'.os=w.os /\ w'.output=w.output):=by
 intro vs
 induction vs with
 | nil =>
  intro i w C _ h _ _
  refine⟨w,C,rfl,h,rfl,fun k=>?_,fun _ _=>rfl,rfl,rfl⟩
  rw[if_neg (fun hh=>by simp at hh;omega)]
 | cons v vs ih =>
  intro i w C hfr h h1 hsz
  have hsz:o+i+(vs.length+1)<=C.size:=by
   rcases hsz with hsz|hsz
   ·cases hsz
   ·simpa using hsz
  have hc:w.cell? ⟨b,o+i,none⟩=some (C[o+i]'(by omega)):=by rw[z6b h];exact Array.getElem?_eq_getElem (by omega)
  have hb:b < w.heap.size:=(Array.getElem?_eq_some_iff.1 h).1
  let w1:=w.setCell ⟨b,o+i,none⟩ v
  have hw1:w1.heap[b]?=some (.cells (C.setIfInBounds (o+i) v) e fr):=by
   have hx:w.heap[b]=.cells C e fr:=by
    have:=Array.getElem?_eq_some_iff.1 h
    exact this.2
   simp[w1,World.setCell,Array.getElem?_modify,h]
  have hoth:∀ r,r ≠ b->w1.heap[r]?=w.heap[r]?:=by
   intro r hr
   simp[w1,World.setCell,Array.getElem?_modify,Ne.symm hr]
  obtain⟨w',C',hrun,hh,hs,hk,ho,hos⟩:=ih (i+1) w1 _ (by simpa using hfr) hw1 (fun x hx=>h1 x (.tail _ hx)) (.inr (by simp;omega))
  refine⟨w',C',?_,hh,by simpa using hs,fun k=>?_,fun r hr=>by rw[ho r hr,hoth r hr],hos⟩
  ·unfold storeCells
   rw[Sem.run_bind,z28,run_store _ _ _ _ _ (h1 v (.head _))]
   simp only[hc,zhz hfr (show o+i < C.size by omega) h,Bool.false_eq_true,if_false,Result.andThen_ok]
   exact hrun
  ·rw[hk k]
   by_cases hk1:k=o+i
   ·subst hk1
    rw[if_neg (by omega),if_pos (by simp)]
    simp[Array.getElem?_setIfInBounds];omega
   ·by_cases hk2:o+(i+1)<=k /\ k < o+(i+1)+vs.length
    ·rw[if_pos hk2,if_pos (by simp;omega)]
     rw[show k - (o+i)=(k - (o+(i+1)))+1 from by omega,List.getElem?_cons_succ]
    ·rw[if_neg hk2,if_neg (by simp;omega)]
     simp[Ne.symm hk1]
section mem
variable {Pt:Prot} {ρ:Rho} {m:Mem} {w:World} {P:Program}
theorem z1g{α:Type}{i:Nat}{k:Bool->List LV->TypeId->Option α}{y:α}:atCells m i k=some y ↔ ∃ own c e,m.get i=some (.cells own c e) /\ k own c e=some y:=by
 unfold atCells
 rw[zb]
 constructor
 ·rintro⟨lb,h1,h2⟩
  cases lb with
  | cells own c e=>exact⟨own,c,e,h1,h2⟩
  | _=>cases h2
 ·rintro⟨own,c,e,h1,h2⟩;exact⟨_,h1,h2⟩
theorem z3c{α:Type}{i:Nat}{k:List (LV × LV)->List Nat->Nat->Option α}{y:α}:atMap m i k=some y ↔ ∃ es bs clk,m.get i=some (.map es bs clk) /\ k es bs clk=some y:=by
 unfold atMap
 rw[zb]
 constructor
 ·rintro⟨lb,h1,h2⟩
  cases lb with
  | map es bs clk=>exact⟨es,bs,clk,h1,h2⟩
  | _=>cases h2
 ·rintro⟨es,bs,clk,h1,h2⟩;exact⟨_,h1,h2⟩
theorem zbi{α:Type}{i:Nat}{k:Option Nat->Nat->List Nat->Nat->Option α}{y:α}:atIter m i k=some y ↔ ∃ a b c d,m.get i=some (.iter a b c d) /\ k a b c d=some y:=by
 unfold atIter
 rw[zb]
 constructor
 ·rintro⟨lb,h1,h2⟩
  cases lb with
  | iter a b c d=>exact⟨a,b,c,d,h1,h2⟩
  | _=>cases h2
 ·rintro⟨a,b,c,d,h1,h2⟩;exact⟨_,h1,h2⟩
theorem z7n{α:Type}{i:Nat}{k:Option α}{y:α}:atDefr m i k=some y ↔ m.get i=some .defr /\ k=some y:=by
 unfold atDefr
 rw[zb]
 constructor
 ·rintro⟨lb,h1,h2⟩
  cases lb with
  | defr=>exact⟨h1,h2⟩
  | _=>cases h2
 ·rintro⟨h1,h2⟩;exact⟨_,h1,h2⟩
theorem Rel.cells(h:Rel Pt ρ m w){i:Nat}{own:Bool}{cs:List LV}{e:TypeId}(hi:m.get i=some (.cells own cs e)){b s c:Nat}(hρ:ρ i=some (b,s,c)) :
  ∃ C e' fr,w.heap[b]?=some (.cells C e' fr) /\ (own=true->Thaw fr c /\ TyR e e' s) /\ C.size=c /\ CellsR ρ cs C s:=by
 obtain⟨_,b0,s0,c0,o,e0,⟨C,e',fr,rfl,h2,h3,h4⟩,h5,_⟩:=h.live i _ hi
 rw[hρ] at e0;cases e0
 exact⟨C,e',fr,h5,h2,h3,h4⟩
theorem zic(h:Rel Pt ρ m w){i off:Nat}{v:LV}(hl:load1 m i off=some v){b s c:Nat}(hρ:ρ i=some (b,s,c)):∃ v',w.cell? ⟨b,s+off,none⟩=some v' /\ VR ρ v v':=by
 obtain⟨own,cs,e,hi,hn⟩:=z1g.1 hl
 obtain⟨C,e',fr,hh,_,_,hC⟩:=h.cells hi hρ
 rw[z4w] at hn
 obtain⟨v',h1,h2⟩:=hC off v hn
 exact⟨v',by rw[z6b hh];exact h1,h2⟩
theorem z46(h:Rel Pt ρ m w){i off n:Nat}{l:List LV}(hl:loadN m i off n=some l){b s c:Nat}(hρ:ρ i=some (b,s,c)) :
  ∃ vs:List Value,vs.length=n /\ (∀ k,k < n->w.cell? ⟨b,s+off+k,none⟩=vs[k]?) /\ VRs ρ l vs:=by
 obtain⟨own,cs,e,hi,hn⟩:=z1g.1 hl
 obtain⟨C,e',fr,hh,_,_,hC⟩:=h.cells hi hρ
 rw[z1o] at hn
 obtain⟨hlen,rfl⟩:=z1z.1 hn
 simp only[List.length_drop] at hlen
 have hget:∀ k,k < n->∃ v',C[s+off+k]?=some v':=fun k hk=>by
  obtain⟨v',h1,_⟩:=hC (off+k) (cs[off+k]'(by omega)) (List.getElem?_eq_getElem _)
  exact⟨v',by rw[<-h1];congr 1;omega⟩
 have hsz:n=0 ∨ s+off+n<=C.size:=by
  rcases Nat.eq_zero_or_pos n with h0|h0
  ·exact .inl h0
  ·obtain⟨v',h1⟩:=hget (n - 1) (by omega)
   have:=(Array.getElem?_eq_some_iff.1 h1).1
   exact .inr (by omega)
 refine⟨(C.toList.drop (s+off)).take n,?_,fun k hk=>?_,VRs.of_get ?_ fun k v hk=>?_⟩
 ·simp;omega
 ·rw[z6b hh,List.getElem?_take]
  simp[hk]
 ·simp;omega
 ·have hkn:k < n:=by
   have:=(List.getElem?_eq_some_iff.1 hk).1
   simp at this;omega
  rw[List.getElem?_take,if_pos hkn,List.getElem?_drop] at hk
  obtain⟨v',h1,h2⟩:=hC (off+k) v hk
  refine⟨v',?_,h2⟩
  rw[List.getElem?_take,if_pos hkn,List.getElem?_drop]
  simp only[Array.getElem?_toList]
  rw[<-h1];congr 1;omega
theorem zcb(h:Rel Pt ρ m w){t:TypeId}{x v:LV}{x':Value}(hx:VR ρ x x')(hl:loadT P t m x=some v) :
  ∃ a v',x'=.pointer (some a) /\ (loadVar t a).run P w=.ok v' w /\ VR ρ v v':=by
 obtain⟨i,o,rfl,hl⟩:=z0t.1 hl
 obtain⟨s,hs,hl⟩:=zb.1 hl
 cases hx with
 | ptr hρ =>
  rename_i b sh c
  rcases ze9 hs with⟨rfl,hag⟩|⟨n,rfl,hag,hsz⟩
  ·obtain⟨v',h1,h2⟩:=zic h (v:=v) hl hρ
   refine⟨_,v',rfl,?_,h2⟩
   unfold loadVar
   rw[Sem.run_bind,z5v hag,Result.andThen_ok]
   exact z8u h1
  ·obtain⟨l,hl1,hl2⟩:=zb.1 (show ob (loadN m i o n) (fun l=>some (.agg l))=some v from hl)
   cases hl2
   obtain⟨vs,h1,h2,h3⟩:=z46 h hl1 hρ
   refine⟨_,.agg vs.toArray,rfl,?_,.agg (by simpa using h3)⟩
   unfold loadVar
   rw[Sem.run_bind,z5v hag,Result.andThen_ok]
   simp only[if_true,Sem.run_bind,zy hsz,Result.andThen_ok,z3q h1 h2]
   rfl
theorem z91(h:Rel Pt ρ m w){i off:Nat}{vs:List LV}{vs':List Value}{m':Mem}(hs:storeCs m i off vs=some m')(hv:VRs ρ vs vs')(hf:zl vs=true)
  {b s c:Nat} (hρ:ρ i=some (b,s,c)):∃ w',(storeCells ⟨b,s+off,none⟩ vs').run P w=.ok () w' /\ Rel Pt ρ m' w' /\ m'.next=m.next:=by
 obtain⟨own,cs,e,hi,hs⟩:=z1g.1 hs
 obtain⟨hown,hs⟩:=zc.1 hs
 subst hown
 obtain⟨cs',hset,hs⟩:=zb.1 hs
 cases hs
 obtain⟨C,e',fr,hh,hfr,hsz,hC⟩:=h.cells hi hρ
 obtain⟨hfr,hty⟩:=hfr rfl
 obtain⟨g1,g2,g3⟩:=z24 _ _ _ _ hset
 have hlen:=hv.length
 have hbound:vs'=[] ∨ s+off+0+vs'.length<=C.size:=by
  rcases g2 with rfl|g2
  ·cases hv;exact .inl rfl
  ·rcases Nat.eq_zero_or_pos vs.length with h0|h0
   ·exact .inl (by apply List.eq_nil_of_length_eq_zero;omega)
   ·obtain⟨v',h1,_⟩:=hC (off+vs.length - 1) (cs[off+vs.length - 1]'(by omega)) (List.getElem?_eq_getElem _)
    have:=(Array.getElem?_eq_some_iff.1 h1).1
    exact .inr (by omega)
 obtain⟨w',C',hrun,hh',hsz',hk,hoth,hos⟩:=z4y P b (s+off) e' fr vs' 0 w C (by rw[hsz];exact hfr) hh (hv.oneCells hf) hbound
 refine⟨w',hrun,h.turn hi rfl rfl hρ (o':=.cells C' e' fr) ⟨C',e',fr,rfl,fun _=>⟨hfr,hty⟩,by omega,fun k v hkv=>?_⟩ hh' hoth hos,Mem.next_upd _ _ _⟩
 rw[g3 k] at hkv
 rw[hk]
 by_cases hc:off<=k /\ k < off+vs.length
 ·rw[if_pos hc] at hkv
  rw[if_pos (by omega)]
  obtain⟨v',e1,e2⟩:=hv.get hkv
  exact⟨v',by rw[<-e1];congr 1;omega,e2⟩
 ·rw[if_neg hc] at hkv
  rw[if_neg (by omega)]
  exact hC k v hkv
theorem zgr(h:Rel Pt ρ m w){t:TypeId}{x v:LV}{x' v':Value}{m':Mem}(hx:VR ρ x x')(hv:VR ρ v v')(hs:storeT P t m x v=some m') :
  ∃ w',(Instr.storeAt t x' v').run P w=.ok () w' /\ Rel Pt ρ m' w' /\ m'.next=m.next:=by
 obtain⟨i,o,rfl,hs⟩:=z0t.1 hs
 obtain⟨n,hn,hs⟩:=zb.1 hs
 obtain⟨hlen,hs⟩:=zc.1 hs
 obtain⟨hfl,hs⟩:=zc.1 hs
 cases hx with
 | ptr hρ =>
  have hc:=hv.cells hfl
  obtain⟨w',h1,h2,h3⟩:=z91 (P:=P) h hs hc hfl hρ
  refine⟨w',?_,h2,h3⟩
  have hl:v'.cells.size=n:=by
   have:=hc.length
   rw[Nat.beq_eq] at hlen
   simp at this;omega
  unfold Instr.storeAt Instr.sureAddr storeVar
  simp only[Sem.run_bind,Sem.run_pure,Result.andThen_ok,zy hn,hl,ne_eq,not_true_eq_false,if_false]
  exact h1
end mem
end PvL
end
section
namespace PvL
open Go
theorem z3i{a b:IntKind}:kEq a b=true ↔ a=b:=by cases a<;>cases b<;>first|exact⟨fun _=>rfl,fun _=>rfl⟩|exact⟨fun h=>(by cases h),fun h=>(by cases h)⟩
theorem z3s(a b:Int):ilt a b=decide (a < b):=by
 cases a with
 | ofNat a=>cases b with
  | ofNat b =>
   show Nat.ble (Nat.succ a) b=_
   rw[Bool.eq_iff_iff,Nat.ble_eq];simp;omega
  | negSucc b=>show false=_;symm;simp;omega
 | negSucc a=>cases b with
  | ofNat b=>show true=_;symm;simp;omega
  | negSucc b =>
   show Nat.ble (Nat.succ b) a=_
   rw[Bool.eq_iff_iff,Nat.ble_eq];simp;omega
theorem z4u(a b:Int):ieq a b=(a == b):=by
 cases a with
 | ofNat a=>cases b with
  | ofNat b =>
   show Nat.beq a b=_
   rw[Bool.eq_iff_iff,Nat.beq_eq];simp;omega
  | negSucc b=>show false=_;symm;simp
 | negSucc a=>cases b with
  | ofNat b=>show false=_;symm;simp
  | negSucc b =>
   show Nat.beq a b=_
   rw[Bool.eq_iff_iff,Nat.beq_eq];simp
theorem zc7{z:Int}:izero z=true ↔ z=0:=by unfold izero;rw[z4u];simp
theorem z2v(k:IntKind)(n:Int):wr k n=k.wrap n:=by
 unfold wr
 cases k<;>first|rfl|skip
 show ifb (inI64 n) n _=_
 cases h:inI64 n with
 | false=>rfl
 | true =>
  show n=_
  rw[IntKind.wrap_i64]
  cases n with
  | ofNat m =>
   have h:Nat.ble m 9223372036854775807=true:=h
   rw[Nat.ble_eq] at h
   rw[show Int.ofNat m=(m:Int) from rfl]
   omega
  | negSucc m =>
   have h:Nat.ble m 9223372036854775807=true:=h
   rw[Nat.ble_eq] at h
   omega
theorem nat?_eq{α:Type}{z:Int}{k:Nat->Option α}{y:α}:nat? z k=some y ↔ ∃ n:Nat,z=n /\ k n=some y:=by
 cases z with
 | ofNat n =>
  show k n=some y ↔ _
  constructor
  ·intro h;exact⟨n,rfl,h⟩
  ·rintro⟨m,h1,h2⟩
   have h1:(n:Int)=m:=h1
   have:n=m:=by omega
   subst this;exact h2
 | negSucc n =>
  show none=some y ↔ _
  simp
theorem zrh{k:IntKind}{z:Int}{v:LV}:mkI k z=some v ↔ v=.int k z:=by unfold mkI;rw[zdd];simp[eq_comm]
theorem z9t{b:Bool}{v:LV}:mkB b=some v ↔ v=.bool b:=by cases b<;>simp[mkB,eq_comm]
theorem zev{n:Nat}{v:LV}:mkN n=some v ↔ v=.int .i64 n:=by unfold mkN;rw[z1m];simp[eq_comm]
theorem zbj(a b:Bool):bEq a b=(a == b):=by cases a<;>cases b<;>rfl
section ops
variable {P:Program} {ρ:Rho} {w:World}
theorem VR.int_inv{k:IntKind}{n:Int}{v':Value}(h:VR ρ (.int k n) v'):v'=.int k n:=by cases h;rfl
theorem VR.bool_inv{b:Bool}{v':Value}(h:VR ρ (.bool b) v'):v'=.bool b:=by cases h;rfl
theorem VR.str_inv{s:ByteArray}{v':Value}(h:VR ρ (.str s) v'):v'=.string s:=by cases h;rfl
theorem VR.agg_inv{c:List LV}{v':Value}(h:VR ρ (.agg c) v'):∃ c',v'=.agg c' /\ VRs ρ c c'.toList:=by cases h with|agg h=>exact⟨_,rfl,h⟩
theorem zog{f:Int->Int->Bool}{x y v:LV}(h:cmpI f x y=some v):∃ k a b,x=.int k a /\ y=.int k b /\ v=.bool (f a b):=by
 obtain⟨k,a,rfl,h1⟩:=zk.1 h
 obtain⟨k',b,rfl,h2⟩:=(zk (v:=y)).1 h1
 obtain⟨hk,h3⟩:=zc.1 h2
 obtain rfl:=z3i.1 hk
 exact⟨k,a,b,rfl,rfl,z9t.1 h3⟩
theorem zq6{f:IntKind->Int->Int->Option LV}{x y v:LV}(h:arI f x y=some v):∃ k a b,x=.int k a /\ y=.int k b /\ f k a b=some v:=by
 obtain⟨k,a,rfl,h1⟩:=zk.1 h
 obtain⟨k',b,rfl,h2⟩:=(zk (v:=y)).1 h1
 obtain⟨hk,h3⟩:=zc.1 h2
 obtain rfl:=z3i.1 hk
 exact⟨k,a,b,rfl,rfl,h3⟩
theorem z30{t:TypeId}{off:Nat}{xs:List LV}{xs':Array Value}(h:VRs ρ xs xs'.toList){s:Option Nat}(hs:aggSz P t=some s){v:LV}
  (hv:oe s (nth xs off) (fun n=>ob (take' n (drop' off xs)) fun a=>some (.agg a))=some v):∃ v',(part t xs' off).run P w=.ok v' w /\ VR ρ v v':=by
 rcases ze9 hs with⟨rfl,hag⟩|⟨n,rfl,hag,hsz⟩
 ·have hv:nth xs off=some v:=hv
  rw[z4w] at hv
  obtain⟨v',h1,h2⟩:=h.get hv
  refine⟨v',?_,h2⟩
  unfold part
  rw[Sem.run_bind,z5v hag,Result.andThen_ok]
  simp at h1
  simp[h1]
 ·obtain⟨a,ha,hv⟩:=zb.1 (show ob (take' n (drop' off xs)) (fun a=>some (.agg a))=some v from hv)
  cases hv
  rw[z1o] at ha
  obtain⟨h1,rfl⟩:=z1z.1 ha
  refine⟨.agg (xs'.extract off (off+n)),?_,.agg ?_⟩
  ·unfold part
   rw[Sem.run_bind,z5v hag,Result.andThen_ok]
   simp[zy hsz]
  ·have hl:=h.length
   simp only[List.length_drop] at h1
   refine VRs.of_get ?_ fun k v hk=>?_
   ·simp at hl ⊢;omega
   ·have hkn:k < n:=by
     have:=(List.getElem?_eq_some_iff.1 hk).1
     simp at this;omega
    rw[List.getElem?_take,if_pos hkn,List.getElem?_drop] at hk
    obtain⟨v',h2,h3⟩:=h.get hk
    refine⟨v',?_,h3⟩
    simp only[Array.getElem?_toList] at h2
    have hb:=(Array.getElem?_eq_some_iff.1 h2).1
    simp only[Array.getElem?_toList,Array.getElem?_extract]
    rw[if_pos (by omega)]
    exact h2
theorem z4e{rec:TypeId->LV->LV->Option Bool}{d:Nat}
  (ih:∀ t x y r x' y',rec t x y=some r->VR ρ x x'->VR ρ y y'->(Op.equalIn d t x' y').run P w=.ok r w)
  {t:TypeId} {off:Nat} {xs ys:List LV} {xs' ys':Array Value} (hx:VRs ρ xs xs'.toList) (hy:VRs ρ ys ys'.toList) {r:Bool} (h:eqPart P rec t off xs ys=some r) :
  ∃ a b,(part t xs' off).run P w=.ok a w /\ (part t ys' off).run P w=.ok b w /\ (Op.equalIn d t a b).run P w=.ok r w:=by
 obtain⟨s,hs,h⟩:=zb.1 h
 cases s with
 | none =>
  have h:ob (nth xs off) (fun a=>ob (nth ys off) fun b=>rec t a b)=some r:=h
  obtain⟨a,ha,h⟩:=zb.1 h
  obtain⟨b,hb,h⟩:=zb.1 h
  obtain⟨a',h1,h2⟩:=z30 (w:=w) hx hs (v:=a) ha
  obtain⟨b',h3,h4⟩:=z30 (w:=w) hy hs (v:=b) hb
  exact⟨a',b',h1,h3,ih _ _ _ _ _ _ h h2 h4⟩
 | some n =>
  have h:ob (take' n (drop' off xs)) (fun a=>ob (take' n (drop' off ys)) fun b=>rec t (.agg a) (.agg b))=some r:=h
  obtain⟨a,ha,h⟩:=zb.1 h
  obtain⟨b,hb,h⟩:=zb.1 h
  obtain⟨a',h1,h2⟩:=z30 (w:=w) hx hs (v:=.agg a) (by show ob (take' n (drop' off xs)) _=_;rw[ha];rfl)
  obtain⟨b',h3,h4⟩:=z30 (w:=w) hy hs (v:=.agg b) (by show ob (take' n (drop' off ys)) _=_;rw[hb];rfl)
  exact⟨a',b',h1,h3,ih _ _ _ _ _ _ h h2 h4⟩
theorem zgz{x y:Option Bool}{r:Bool}(h:andO x y=some r):(x=some false /\ r=false) ∨(x=some true /\ y=some r):=by
 obtain⟨b,hb,h⟩:=zb.1 h
 cases b with
 | false=>cases h;exact .inl ⟨hb,rfl⟩
 | true=>exact .inr ⟨hb,h⟩
theorem z3z{rec:TypeId->LV->LV->Option Bool}{d:Nat}
  (ih:∀ t x y r x' y',rec t x y=some r->VR ρ x x'->VR ρ y y'->(Op.equalIn d t x' y').run P w=.ok r w)
  {xs ys:List LV} {xs' ys':Array Value} (hx:VRs ρ xs xs'.toList) (hy:VRs ρ ys ys'.toList) :
  ∀(fs:List Field) (r:Bool),fieldsEq P rec xs ys fs=some r->(Op.eqFields d xs' ys' fs).run P w=.ok r w
 | [],r,h=>by cases h;rfl
 | f :: fs,r,h=>by
  have h:ifb (f.name == "_") (fieldsEq P rec xs ys fs) (andO (eqPart P rec f.type f.offset xs ys) (fieldsEq P rec xs ys fs))=some r:=h
  cases hn:f.name == "_" with
  | true =>
   rw[hn] at h
   have hn':f.name="_":=by simpa using hn
   unfold Op.eqFields
   rw[if_neg (by simp[hn'])]
   exact z3z ih hx hy fs r h
  | false =>
   rw[hn] at h
   have hn':f.name ≠ "_":=by simpa using hn
   unfold Op.eqFields
   rw[if_pos hn']
   rcases zgz (show andO _ _=some r from h) with⟨h1,rfl⟩|⟨h1,h2⟩
   ·obtain⟨a,b,p1,p2,p3⟩:=z4e ih hx hy h1
    simp[p1,p2,p3]
   ·obtain⟨a,b,p1,p2,p3⟩:=z4e ih hx hy h1
    have:=z3z ih hx hy fs r h2
    simp[p1,p2,p3,this]
theorem zbg{rec:TypeId->LV->LV->Option Bool}{d:Nat}
  (ih:∀ t x y r x' y',rec t x y=some r->VR ρ x x'->VR ρ y y'->(Op.equalIn d t x' y').run P w=.ok r w)
  {xs ys:List LV} {xs' ys':Array Value} (hx:VRs ρ xs xs'.toList) (hy:VRs ρ ys ys'.toList) (e:TypeId) (n:Nat) :
  ∀(is:List Nat) (r:Bool),arrEq P rec e n xs ys is=some r->(Op.eqItems d e n xs' ys' is).run P w=.ok r w
 | [],r,h=>by cases h;rfl
 | i :: is,r,h=>by
  unfold Op.eqItems
  rcases zgz (show andO (eqPart P rec e (i*n) xs ys) (arrEq P rec e n xs ys is)=some r from h) with⟨h1,rfl⟩|⟨h1,h2⟩
  ·obtain⟨a,b,p1,p2,p3⟩:=z4e ih hx hy h1
   simp[p1,p2,p3]
  ·obtain⟨a,b,p1,p2,p3⟩:=z4e ih hx hy h1
   have:=zbg ih hx hy e n is r h2
   simp[p1,p2,p3,this]
theorem zc5{t:TypeId}{n:Nat}(h:szOf P t=some n):∃ i,P.info? t=some i /\ P.cellsOf t=n:=by
 unfold szOf at h
 cases hi:P.info? t with
 | none=>rw[hi] at h;cases h
 | some i=>rw[hi] at h;cases h;exact⟨i,rfl,by simp[Program.cellsOf,hi]⟩
set_option maxHeartbeats 1000000 in
theorem z80:∀(d:Nat) (t:TypeId) (x y:LV) (r:Bool) (x' y':Value),eqL P d t x y=some r->VR ρ x x'->VR ρ y y'->(Op.equalIn d t x' y').run P w=.ok r w
 | 0,_,_,_,_,_,_,h,_,_=>by cases h
 | d+1,t,x,y,r,x',y',h,hx,hy=>by
  unfold eqL at h
  cases hu:P.underlying t with
  | none=>rw[hu] at h;cases h
  | some D =>
   rw[hu] at h
   cases D with
   | bool =>
    obtain⟨a,rfl,h⟩:=z1l.1 h
    obtain⟨b,rfl,h⟩:=(z1l (v:=y)).1 h
    cases h
    rw[hx.bool_inv,hy.bool_inv,zbj]
    exact run_equalIn_bool w d t a b hu
   | int q =>
    obtain⟨k,a,rfl,h1⟩:=zk.1 h
    obtain⟨k',b,rfl,h2⟩:=(zk (v:=y)).1 h1
    obtain⟨hk,h3⟩:=zc.1 h2
    obtain rfl:=z3i.1 hk
    cases h3
    rw[hx.int_inv,hy.int_inv,z4u]
    exact run_equalIn_int w d t k q a b hu
   | string =>
    obtain⟨a,rfl,h⟩:=z0k.1 h
    obtain⟨b,rfl,h⟩:=(z0k (v:=y)).1 h
    cases h
    rw[hx.str_inv,hy.str_inv]
    simp[Op.equalIn,Go.run_underlying hu]
   | pointer e =>
    simp only at h
    split at h
    ·rename_i b
     cases h
     cases hx
     cases hy<;>simp[Op.equalIn,Go.run_underlying hu]
    ·cases h
     cases hx;cases hy
     simp[Op.equalIn,Go.run_underlying hu]
    ·rename_i i o j q
     obtain⟨n,hn,h⟩:=zb.1 h
     obtain⟨hb,h'⟩:=zc.1 h
     clear h
     simp only[Bool.and_eq_true,Nat.ble_eq] at hb
     obtain rfl:=Nat.eq_of_beq_eq_true hb.2
     cases h'
     cases hx with
     | ptr hρ =>
      cases hy with
      | ptr hρ' =>
       rw[hρ] at hρ';cases hρ'
       rename_i b s c
       have hn0:n ≠ 0:=by omega
       simp only[Op.equalIn,Sem.run_bind,Go.run_underlying hu,Result.andThen_ok,zy hn,ne_eq,hn0,not_false_eq_true,if_true,sameAddr,beq_self_eq_true]
       show Result.ok ((⟨b,s+o,none⟩:Addr) ==⟨b,s+q,none⟩) w=_
       congr 1
       rw[Bool.eq_iff_iff]
       simp
    ·cases h
   | interface ms =>
    simp only at h
    split at h
    ·cases h;cases hx;cases hy;simp[Op.equalIn,Go.run_underlying hu]
    ·rename_i t1 v1 u1 w1
     obtain⟨hb,h2⟩:=zc.1 h
     clear h
     rw[Bool.and_eq_true] at hb
     obtain rfl:=Nat.eq_of_beq_eq_true hb.1
     have hc:=hb.2
     unfold cmpT at hc
     cases hi:P.info? t1 with
     | none=>rw[hi] at hc;cases hc
     | some inf =>
      rw[hi] at hc
      have hc:inf.comparable=true:=hc
      cases hx with
      | iface hx =>
       cases hy with
       | iface hy =>
        have ih:=z80 d t1 v1 w1 r _ _ h2 hx hy
        simp only[Op.equalIn,Sem.run_bind,Go.run_underlying hu,Result.andThen_ok,ne_eq,not_true_eq_false,if_false,run_typeInfo (P:=P) (w:=w) hi,hc,Bool.not_true,Bool.false_eq_true,ih]
    ·cases h
   | slice e =>
    simp only at h
    split at h
    ·cases h
     cases hx
     cases hy<;>simp[Op.equalIn,Go.run_underlying hu]
    ·cases h
     cases hx<;>cases hy<;>simp[Op.equalIn,Go.run_underlying hu]
    ·cases h
   | map k e =>
    simp only at h
    split at h
    ·cases h
     cases hx
     cases hy<;>simp[Op.equalIn,Go.run_underlying hu]
    ·cases h
     cases hx;cases hy
     simp[Op.equalIn,Go.run_underlying hu]
    ·cases h
   | func a b c =>
    simp only at h
    split at h
    ·cases h;cases hx;cases hy;simp[Op.equalIn,Go.run_underlying hu]
    ·cases h;cases hx;cases hy<;>simp[Op.equalIn,Go.run_underlying hu]
    ·cases h;cases hx<;>cases hy<;>simp[Op.equalIn,Go.run_underlying hu]
    ·cases h
   | struct fs =>
    obtain⟨xs,rfl,h⟩:=z10.1 h
    obtain⟨ys,rfl,h⟩:=(z10 (v:=y)).1 h
    obtain⟨xs',rfl,hx1⟩:=hx.agg_inv
    obtain⟨ys',rfl,hy1⟩:=hy.agg_inv
    cases hp:P.stoodInHeld t with
    | true=>rw[hp] at h;cases h
    | false =>
     rw[hp] at h
     have hf:P.fieldsOf t=fs:=by simp[Program.fieldsOf,hu]
     rw[run_equalIn_struct w d t xs' ys' (by rw[hf];exact hu) hp,hf]
     exact z3z (z80 d) hx1 hy1 fs.toList r h
   | array len e =>
    obtain⟨xs,rfl,h⟩:=z10.1 h
    obtain⟨ys,rfl,h⟩:=(z10 (v:=y)).1 h
    obtain⟨n,hn,h⟩:=zb.1 h
    obtain⟨xs',rfl,hx1⟩:=hx.agg_inv
    obtain⟨ys',rfl,hy1⟩:=hy.agg_inv
    obtain⟨i,hi,hc⟩:=zc5 hn
    rw[run_equalIn_array w d xs' ys' hu hi,hc]
    exact zbg (z80 d) hx1 hy1 e n _ r h
   | _=>cases h
end ops
end PvL
end
section
namespace PvL
open Go
section ops
variable {P:Program} {ρ:Rho} {w:World}
theorem z6w(d:Nat)(t:TypeId)(y:LV):eqL P d t .nilIface y=none:=by
 cases d with
 | zero=>rfl
 | succ d=>unfold eqL;cases P.underlying t with
  | none=>rfl
  | some D=>cases D<;>first|rfl|(cases y<;>rfl)
theorem zhs(d:Nat)(t:TypeId)(c:List LV)(y:LV):eqL P d t (.tup c) y=none:=by
 cases d with
 | zero=>rfl
 | succ d=>unfold eqL;cases P.underlying t with
  | none=>rfl
  | some D=>cases D<;>first|rfl|(cases y<;>rfl)
theorem zas(d:Nat)(t:TypeId)(y:LV):eqL P d t .unk y=none:=by
 cases d with
 | zero=>rfl
 | succ d=>unfold eqL;cases P.underlying t with
  | none=>rfl
  | some D=>cases D<;>first|rfl|(cases y<;>rfl)
theorem z1d{op:BinOp}{t:TypeId}{ox oy:Operand}{a b:Value}(h1:a ≠ .nilIface)(h2:∀ xs ys,a=.agg xs->b=.agg ys->P.eqGuardType P.depth t=false) :
  (eqGuard op t ox oy a b).run P w=.ok () w:=by
 have key:∀ op,op=BinOp.eql ∨ op=BinOp.neq->(eqGuard op t ox oy a b).run P w=.ok () w:=by
  intro op ho
  unfold eqGuard
  rcases ho with rfl|rfl<;>simp only[Bool.not_true,Bool.false_eq_true,if_false]
  all_goals
   cases a<;>first
    | exact absurd rfl h1
    | skip
   all_goals cases b<;>first
    | rfl
    | skip
   all_goals simp[h2 _ _ rfl rfl]
 cases op<;>first|exact key _ (.inl rfl)|exact key _ (.inr rfl)|rfl
theorem zht{t:TypeId}{x y:LV}{r:Bool}{x' y':Value}(h:eqV P t x y=some r)(hx:VR ρ x x')(hy:VR ρ y y') :
  (Op.equal t x' y').run P w=.ok r w /\ x' ≠ .nilIface /\ ∀ xs ys,x'=.agg xs->y'=.agg ys->P.eqGuardType P.depth t=false:=by
 have h':ifb (ifb (isAggL x) (P.eqGuardType P.depth t) false) none (eqL P Op.maxDepth t x y)=some r:=h
 cases hg:ifb (isAggL x) (P.eqGuardType P.depth t) false with
 | true=>rw[hg] at h';cases h'
 | false =>
  rw[hg] at h'
  have h'':eqL P Op.maxDepth t x y=some r:=h'
  refine⟨z80 _ _ _ _ _ _ _ h'' hx hy,fun e=>?_,fun xs ys e _=>?_⟩
  ·subst e
   cases hx with
   | nilIface=>rw[z6w] at h'';cases h''
   | unk=>rw[zas] at h'';cases h''
  ·subst e
   cases hx with
   | agg _=>exact hg
   | unk=>rw[zas] at h'';cases h''
def Bin(P:Program)(ρ:Rho)(w:World)(op:BinOp)(t:TypeId)(x' y':Value)(v:LV):Prop :=
 ∀ ox oy:Operand,∃ v',(do eqGuard op t ox oy x' y';binOp op t x' y':Sem Value).run P w=.ok v' w /\ VR ρ v v'
theorem zh2{op:BinOp}{t:TypeId}{k:IntKind}{a b:Int}{v:LV}{v':Value}(h:(binOp op t (.int k a) (.int k b)).run P w=.ok v' w)(hv:VR ρ v v') :
  Bin P ρ w op t (.int k a) (.int k b) v:=fun ox oy=>⟨v',by
 rw[Sem.run_bind,z1d (by simp) (by simp)];exact h,hv⟩
theorem z1t{op:BinOp}{t:TypeId}{f:IntKind->Int->Int->Option LV}{x y v:LV}{x' y':Value}(h:arI f x y=some v)(hx:VR ρ x x')(hy:VR ρ y y')
  (hf:∀ k a b v,f k a b=some v->∃ v',(binOp op t (.int k a) (.int k b)).run P w=.ok v' w /\ VR ρ v v'):Bin P ρ w op t x' y' v:=by
 obtain⟨k,a,b,rfl,rfl,h0⟩:=zq6 h
 rw[hx.int_inv,hy.int_inv]
 obtain⟨v',h1,h2⟩:=hf k a b v h0
 exact zh2 h1 h2
theorem z6c{op:BinOp}{t:TypeId}{f:Int->Int->Bool}{x y v:LV}{x' y':Value}(h:cmpI f x y=some v)(hx:VR ρ x x')(hy:VR ρ y y')
  (hf:∀ k a b,(binOp op t (.int k a) (.int k b)).run P w=.ok (.bool (f a b)) w):Bin P ρ w op t x' y' v:=by
 obtain⟨k,a,b,rfl,rfl,rfl⟩:=zog h
 rw[hx.int_inv,hy.int_inv]
 exact zh2 (hf k a b) (.bool _)
theorem z2z{k:IntKind}{z:Int}{v:LV}(h:mkI k z=some v):VR ρ v (.int k z):=by rw[zrh.1 h];exact .int _ _
theorem zky{t:TypeId}{x y v:LV}{x' y':Value}(h:eqOp P t x y=some v)(hx:VR ρ x x')(hy:VR ρ y y'):Bin P ρ w .eql t x' y' v:=by
 unfold eqOp at h
 cases hi:isIntL x with
 | true =>
  rw[hi] at h
  exact z6c (show cmpI ieq x y=some v from h) hx hy fun k a b=>by simp[binOp,Op.intCmp,z4u]
 | false =>
  rw[hi] at h
  cases hs:isStrL x with
  | true =>
   rw[hs] at h
   obtain⟨a,rfl,h1⟩:=z0k.1 (show asStr x (fun a=>asStr y fun b=>mkB (a == b))=some v from h)
   obtain⟨b,rfl,h2⟩:=(z0k (v:=y)).1 h1
   rw[hx.str_inv,hy.str_inv,z9t.1 h2]
   intro ox oy
   exact⟨.bool (a == b),by rw[Sem.run_bind,z1d (by simp) (by simp)];simp[binOp,Op.stringOp];exact(beq_toListBytes a b).symm,.bool _⟩
  | false =>
   rw[hs] at h
   obtain⟨r,hr,h1⟩:=zb.1 (show ob (eqV P t x y) mkB=some v from h)
   rw[z9t.1 h1]
   obtain⟨g1,g2,g3⟩:=zht (w:=w) hr hx hy
   intro ox oy
   refine⟨.bool r,?_,.bool _⟩
   rw[Sem.run_bind,z1d g2 g3,Result.andThen_ok]
   have key:∀ z:Value,(∀ k n,z ≠ .int k n)->(∀ s,z ≠ .string s)->(∀ k b,z ≠ .float k b)->(∀ k a b,z ≠ .complex k a b)->(Op.equal t z y').run P w=.ok r w->(binOp .eql t z y').run P w=.ok (.bool r) w:=by
    intro z a1 a2 a3 a4 hz
    cases z<;>first
     | exact absurd rfl (a1 _ _)
     | exact absurd rfl (a2 _)
     | exact absurd rfl (a3 _ _)
     | exact absurd rfl (a4 _ _ _)
     |(simp only[binOp];simp[hz])
   have hnu:x ≠ .unk:=fun e=>by
    subst e
    rw[show eqV P t .unk y=none from by unfold eqV;rw[zas];cases(ifb (isAggL LV.unk) (P.eqGuardType P.depth t) false)<;>rfl] at hr;cases hr
   have hnt:∀ c,x ≠ .tup c:=fun c e=>by
    subst e
    rw[show eqV P t (.tup c) y=none from by unfold eqV;rw[zhs];cases(ifb (isAggL (LV.tup c)) (P.eqGuardType P.depth t) false)<;>rfl] at hr;cases hr
   cases hx<;>first
    |(cases hi;done)
    |(cases hs;done)
    | exact absurd rfl (hnt _)
    | exact absurd rfl hnu
    |(exact key _ (by intros;simp) (by intros;simp) (by intros;simp) (by intros;simp) g1)
theorem zl9{t:TypeId}{x y v:LV}{x' y':Value}(h:neOp P t x y=some v)(hx:VR ρ x x')(hy:VR ρ y y'):Bin P ρ w .neq t x' y' v:=by
 unfold neOp at h
 cases hi:isIntL x with
 | true =>
  rw[hi] at h
  exact z6c (show cmpI (fun a b=>!(ieq a b)) x y=some v from h) hx hy fun k a b=>by simp[binOp,Op.intCmp,z4u,bne]
 | false =>
  rw[hi] at h
  cases hs:isStrL x with
  | true =>
   rw[hs] at h
   obtain⟨a,rfl,h1⟩:=z0k.1 (show asStr x (fun a=>asStr y fun b=>mkB (!(a == b)))=some v from h)
   obtain⟨b,rfl,h2⟩:=(z0k (v:=y)).1 h1
   rw[hx.str_inv,hy.str_inv,z9t.1 h2]
   intro ox oy
   exact⟨.bool (!(a == b)),by rw[Sem.run_bind,z1d (by simp) (by simp)];simp[binOp,Op.stringOp];exact(beq_toListBytes a b).symm,.bool _⟩
  | false =>
   rw[hs] at h
   obtain⟨r,hr,h1⟩:=zb.1 (show ob (eqV P t x y) (fun b=>mkB (!b))=some v from h)
   rw[z9t.1 h1]
   obtain⟨g1,g2,g3⟩:=zht (w:=w) hr hx hy
   intro ox oy
   refine⟨.bool (!r),?_,.bool _⟩
   rw[Sem.run_bind,z1d g2 g3,Result.andThen_ok]
   have key:∀ z:Value,(∀ k n,z ≠ .int k n)->(∀ s,z ≠ .string s)->(∀ k b,z ≠ .float k b)->(∀ k a b,z ≠ .complex k a b)->(Op.equal t z y').run P w=.ok r w->(binOp .neq t z y').run P w=.ok (.bool (!r)) w:=by
    intro z a1 a2 a3 a4 hz
    cases z<;>first
     | exact absurd rfl (a1 _ _)
     | exact absurd rfl (a2 _)
     | exact absurd rfl (a3 _ _)
     | exact absurd rfl (a4 _ _ _)
     |(simp only[binOp];simp[hz])
   have hnu:x ≠ .unk:=fun e=>by
    subst e
    rw[show eqV P t .unk y=none from by unfold eqV;rw[zas];cases(ifb (isAggL LV.unk) (P.eqGuardType P.depth t) false)<;>rfl] at hr;cases hr
   have hnt:∀ c,x ≠ .tup c:=fun c e=>by
    subst e
    rw[show eqV P t (.tup c) y=none from by unfold eqV;rw[zhs];cases(ifb (isAggL (LV.tup c)) (P.eqGuardType P.depth t) false)<;>rfl] at hr;cases hr
   cases hx<;>first
    |(cases hi;done)
    |(cases hs;done)
    | exact absurd rfl (hnt _)
    | exact absurd rfl hnu
    |(exact key _ (by intros;simp) (by intros;simp) (by intros;simp) (by intros;simp) g1)
theorem zcq(n:Nat):(((2 ^ n:Nat):Int))=(2:Int) ^ n:=by simp
theorem zk9{op:BinOp}{t:TypeId}{x y v:LV}{x' y':Value}(h:binL P op t x y=some v)(hx:VR ρ x x')(hy:VR ρ y y'):Bin P ρ w op t x' y' v:=by
 cases op with
 | add =>
  have h:addV x y=some v:=h
  unfold addV at h
  cases hi:isIntL x with
  | true =>
   rw[hi] at h
   exact z1t (show arI (fun k a b=>mkI k (wr k (a+b))) x y=some v from h) hx hy fun k a b v hv=>⟨_,by simp[binOp,Op.intArith];rfl,by rw[z2v] at hv;exact z2z hv⟩
  | false =>
   rw[hi] at h
   obtain⟨a,rfl,h1⟩:=z0k.1 (show asStr x (fun a=>asStr y fun b=>guard' (Nat.ble (a.size+b.size) 140737488355328) (some (.str (a ++ b))))=some v from h)
   obtain⟨b,rfl,h2⟩:=(z0k (v:=y)).1 h1
   obtain⟨hsz,h3⟩:=zc.1 h2
   cases h3
   rw[Nat.ble_eq] at hsz
   rw[hx.str_inv,hy.str_inv]
   intro ox oy
   exact⟨.string (a ++ b),by rw[Sem.run_bind,z1d (by simp) (by simp)];simp[binOp,Op.stringOp];omega,.str _⟩
 | sub=>exact z1t (f:=fun k a b=>mkI k (wr k (a - b))) h hx hy fun k a b v hv=>⟨_,by simp[binOp,Op.intArith];rfl,by rw[z2v] at hv;exact z2z hv⟩
 | mul=>exact z1t (f:=fun k a b=>mkI k (wr k (a*b))) h hx hy fun k a b v hv=>⟨_,by simp[binOp,Op.intArith];rfl,by rw[z2v] at hv;exact z2z hv⟩
 | quo =>
  refine z1t (f:=fun k a b=>ifb (izero b) none (mkI k (wr k (a.tdiv b)))) h hx hy fun k a b v hv=>?_
  cases hz:izero b with
  | true=>rw[hz] at hv;cases hv
  | false =>
   rw[hz] at hv
   have hb:b ≠ 0:=fun e=>by rw[zc7.2 e] at hz;cases hz
   exact⟨_,by simp[binOp,Op.intDiv,hb];rfl,by rw[z2v] at hv;exact z2z hv⟩
 | rem =>
  refine z1t (f:=fun k a b=>ifb (izero b) none (mkI k (a.tmod b))) h hx hy fun k a b v hv=>?_
  cases hz:izero b with
  | true=>rw[hz] at hv;cases hv
  | false =>
   rw[hz] at hv
   have hb:b ≠ 0:=fun e=>by rw[zc7.2 e] at hz;cases hz
   exact⟨_,by simp[binOp,Op.intDiv,hb],z2z hv⟩
 | and=>exact z1t (f:=bAnd) h hx hy fun k a b v hv=>⟨_,by simp only[binOp,Op.intBits,ne_eq,not_true_eq_false,if_false];rfl,by unfold bAnd at hv;rw[z2v] at hv;exact z2z hv⟩
 | or=>exact z1t (f:=bOr) h hx hy fun k a b v hv=>⟨_,by simp only[binOp,Op.intBits,ne_eq,not_true_eq_false,if_false];rfl,by unfold bOr at hv;rw[z2v] at hv;exact z2z hv⟩
 | xor=>exact z1t (f:=bXor) h hx hy fun k a b v hv=>⟨_,by simp only[binOp,Op.intBits,ne_eq,not_true_eq_false,if_false];rfl,by unfold bXor at hv;rw[z2v] at hv;exact z2z hv⟩
 | andNot=>exact z1t (f:=bAndNot) h hx hy fun k a b v hv=>⟨_,by simp only[binOp,Op.intBits,ne_eq,not_true_eq_false,if_false];rfl,by unfold bAndNot at hv;rw[z2v] at hv;exact z2z hv⟩
 | shl =>
  obtain⟨k,a,rfl,h1⟩:=zk.1 (show shlI x y=some v from h)
  obtain⟨k',b,rfl,h2⟩:=(zk (v:=y)).1 h1
  obtain⟨n,rfl,h3⟩:=nat?_eq.1 h2
  rw[hx.int_inv,hy.int_inv]
  intro ox oy
  rw[z2v,zcq] at h3
  refine⟨_,?_,z2z h3⟩
  rw[Sem.run_bind,z1d (by simp) (by simp)]
  rw[Result.andThen_ok]
  simp only[binOp,Op.shift]
  rw[if_neg (by omega)]
  rfl
 | shr =>
  obtain⟨k,a,rfl,h1⟩:=zk.1 (show shrI x y=some v from h)
  obtain⟨k',b,rfl,h2⟩:=(zk (v:=y)).1 h1
  obtain⟨n,rfl,h3⟩:=nat?_eq.1 h2
  rw[hx.int_inv,hy.int_inv]
  intro ox oy
  rw[zcq] at h3
  refine⟨_,?_,z2z h3⟩
  rw[Sem.run_bind,z1d (by simp) (by simp)]
  rw[Result.andThen_ok]
  simp only[binOp,Op.shift]
  rw[if_neg (by omega)]
  rfl
 | eql=>exact zky h hx hy
 | neq=>exact zl9 h hx hy
 | lss=>exact z6c (f:=ilt) h hx hy fun k a b=>by simp[binOp,Op.intCmp,z3s]
 | leq =>
  exact z6c (f:=fun a b=>!(ilt b a)) h hx hy fun k a b=>by
   simp only[binOp,Op.intCmp,z3s,ne_eq,not_true_eq_false,if_false]
   show Result.ok (Value.bool (decide (a<=b))) w=_
   congr 2;rw[Bool.eq_iff_iff];simp
 | gtr=>exact z6c (f:=fun a b=>ilt b a) h hx hy fun k a b=>by simp[binOp,Op.intCmp,z3s]
 | geq =>
  exact z6c (f:=fun a b=>!(ilt a b)) h hx hy fun k a b=>by
   simp only[binOp,Op.intCmp,z3s,ne_eq,not_true_eq_false,if_false]
   show Result.ok (Value.bool (decide (a>=b))) w=_
   congr 2;rw[Bool.eq_iff_iff];simp
theorem zph{op:UnOp}{x v:LV}{x':Value}(h:unL op x=some v)(hx:VR ρ x x'):∃ v',(Op.unary op x').run P w=.ok v' w /\ VR ρ v v':=by
 cases op with
 | neg =>
  obtain⟨k,a,rfl,h1⟩:=zk.1 (show asInt x (fun k n=>mkI k (wr k (0 - n)))=some v from h)
  rw[hx.int_inv]
  rw[z2v] at h1
  exact⟨_,by simp only[Op.unary,Op.intArith];rfl,z2z h1⟩
 | xor =>
  obtain⟨k,a,rfl,h1⟩:=zk.1 (show asInt x (fun k n=>bXor k (if k.signed then -1 else k.max) n)=some v from h)
  rw[hx.int_inv]
  unfold bXor at h1
  rw[z2v] at h1
  exact⟨_,by simp only[Op.unary,Op.intBits];rfl,z2z h1⟩
 | not =>
  obtain⟨b,rfl,h1⟩:=z1l.1 (show asBool x (fun b=>mkB (!b))=some v from h)
  rw[hx.bool_inv,z9t.1 h1]
  exact⟨_,rfl,.bool _⟩
 | plus=>cases h
theorem z7x{s d:TypeId}{x v:LV}{x':Value}(h:convL P s d x=some v)(hx:VR ρ x x'):∃ v',(convert s d x').run P w=.ok v' w /\ VR ρ v v':=by
 unfold convL at h
 split at h
 ·rename_i S k hs hd
  obtain⟨q,n,rfl,h1⟩:=zk.1 h
  rw[hx.int_inv]
  rw[z2v] at h1
  refine⟨_,?_,z2z h1⟩
  unfold convert
  simp only[Sem.run_bind,Go.run_underlying hs,Go.run_underlying hd,Result.andThen_ok]
  rfl
 ·cases h
 ·rename_i S _ hs hd
  obtain⟨q,rfl,h1⟩:=z0k.1 h
  cases h1
  rw[hx.str_inv]
  refine⟨_,?_,.str _⟩
  unfold convert
  simp only[Sem.run_bind,Go.run_underlying hs,Go.run_underlying hd,Result.andThen_ok]
  rfl
 ·cases h
end ops
end PvL
end
section
namespace PvL
open Go
section aggs
variable {P:Program} {ρ:Rho} {w:World}
def PR(ρ:Rho):List (Nat × LV)->List (Nat × Value)->Prop
 | [],[]=>True
 | x :: xs,y :: ys=>x.1=y.1 /\ VR ρ x.2 y.2 /\ PR ρ xs ys
 | _,_=>False
theorem z83{T:Tm}{a:Act}(h:TR ρ T a.tmps){xs:List (Nat × Operand)}{vs:List (Nat × LV)}(hx:evParts T xs=some vs):PR ρ vs (xs.map fun x=>(x.1,a.eval x.2)):=by
 induction xs generalizing vs with
 | nil=>cases hx;trivial
 | cons x xs ih =>
  obtain⟨i,x⟩:=x
  obtain⟨v,hv,hx⟩:=zb.1 (show ob (ev T x) _=some vs from hx)
  obtain⟨vs',hvs,hx⟩:=zb.1 hx
  cases hx
  exact⟨rfl,zr h hv,ih hvs⟩
theorem zhy(off:Nat):∀(vs:List Value) (j:Nat) (C:Array Value),
  ((vs.zipIdx j).foldl (fun cs (x:Value × Nat)=>cs.setIfInBounds (off+x.2) x.1) C).size=C.size /\
  ∀ k,((vs.zipIdx j).foldl (fun cs (x:Value × Nat)=>cs.setIfInBounds (off+x.2) x.1) C)[k]? =
   if off+j<=k /\ k < off+j+vs.length /\ k < C.size then vs[k - (off+j)]? else C[k]?:=by
 intro vs
 induction vs with
 | nil=>intro j C;exact⟨rfl,fun k=>by rw[if_neg (fun h=>by simp at h;omega)];rfl⟩
 | cons v vs ih =>
  intro j C
  simp only[List.zipIdx_cons,List.foldl_cons]
  obtain⟨h1,h2⟩:=ih (j+1) (C.setIfInBounds (off+j) v)
  refine⟨by rw[h1];simp,fun k=>?_⟩
  rw[h2 k]
  simp only[Array.size_setIfInBounds,List.length_cons]
  by_cases hk:k=off+j
  ·subst hk
   rw[if_neg (by omega)]
   by_cases hs:off+j < C.size
   ·rw[if_pos (by omega),Array.getElem?_setIfInBounds_self_of_lt hs];simp
   ·rw[if_neg (by omega)]
    rw[Array.getElem?_eq_none (by simpa using Nat.le_of_not_lt hs),Array.getElem?_eq_none (Nat.le_of_not_lt hs)]
  ·rw[Array.getElem?_setIfInBounds_ne (Ne.symm hk)]
   by_cases hc:off+(j+1)<=k /\ k < off+(j+1)+vs.length /\ k < C.size
   ·rw[if_pos hc,if_pos (by omega),show k - (off+j)=(k - (off+(j+1)))+1 from by omega,List.getElem?_cons_succ]
   ·rw[if_neg hc,if_neg (by omega)]
theorem z7e{pl pl':Nat->Option (Nat × Nat)}(hpl:∀ i p,pl i=some p->pl' i=some p) :
  ∀(ps:List (Nat × LV)) (ps':List (Nat × Value)) (cs r:List LV) (C:Array Value),PR ρ ps ps'->VRs ρ cs C.toList->fillL pl ps cs=some r ->
   ∃ C',Instr.fill pl' C ps'=some C' /\ VRs ρ r C'.toList
 | [],[],cs,r,C,_,hC,h=>by cases h;exact⟨C,rfl,hC⟩
 |(i,v) :: ps,(i',v') :: ps',cs,r,C,hp,hC,h=>by
  obtain⟨hi,hv,hp⟩:=hp
  have hi:i=i':=hi
  subst hi
  obtain⟨⟨off,size⟩,hpl1,h1⟩:=zb.1 (show ob (pl i) _=some r from h)
  obtain⟨hlen,h2⟩:=zc.1 (show guard' (Nat.beq v.cells.length size && Nat.ble 1 size) _=some r from h1)
  obtain⟨hfl,h3⟩:=zc.1 h2
  obtain⟨c,hset,h4⟩:=zb.1 h3
  rw[Bool.and_eq_true,Nat.beq_eq,Nat.ble_eq] at hlen
  obtain⟨hlen,hpos⟩:=hlen
  have hvc:=VR.cells hv hfl
  have hl:=hvc.length
  obtain⟨g1,g2,g3⟩:=z24 _ _ _ _ hset
  have hCl:=hC.length
  have hsz:v'.cells.size=size:=by simp at hl;omega
  have hcsz:cs.length=C.size:=by simpa using hCl
  have hbound:off+v'.cells.size<=C.size:=by
   rcases g2 with g2|g2
   ·rw[g2] at hlen;simp at hlen;omega
   ·omega
  unfold Instr.fill
  rw[hpl i _ hpl1]
  simp only
  ·rw[if_neg (by simp[hsz];omega)]
   obtain⟨f1,f2⟩:=zhy off v'.cells.toList 0 C
   refine z7e hpl ps ps' c r _ hp ?_ h4
   rw[<-Array.foldl_toList]
   refine VRs.of_get ?_ fun k x hk=>?_
   ·simp only[Array.length_toList,Array.toList_zipIdx];rw[f1];omega
   ·rw[g3 k] at hk
    simp only[Array.getElem?_toList,Array.toList_zipIdx]
    rw[f2 k]
    by_cases hc:off<=k /\ k < off+v.cells.length
    ·rw[if_pos hc] at hk
     rw[if_pos (by simp at hl ⊢;omega)]
     exact hvc.get hk
    ·rw[if_neg hc] at hk
     rw[if_neg (by simp at hl ⊢;omega)]
     have:=hC.get hk
     simpa using this
 | [],_ :: _,_,_,_,hp,_,_=>hp.elim
 | _ :: _,[],_,_,_,hp,_,_=>hp.elim
theorem z6x{pl:Nat->Option (Nat × Nat)}:∀(ps:List (Nat × LV)) (cs c:List LV),fillL pl ps cs=some c->c.length=cs.length
 | [],cs,c,h=>by cases h;rfl
 |(i,v) :: ps,cs,c,h=>by
  obtain⟨⟨off,size⟩,hpl1,h1⟩:=zb.1 (show ob (pl i) _=some c from h)
  obtain⟨hlen,h2⟩:=zc.1 (show guard' (Nat.beq v.cells.length size && Nat.ble 1 size) _=some c from h1)
  obtain⟨hfl,h3⟩:=zc.1 h2
  obtain⟨c',hset,h4⟩:=zb.1 h3
  rw[z6x ps _ _ h4,(z24 _ _ _ _ hset).1]
theorem zp1(l:List (Nat × Nat))(n:Nat):nthP l n=l[n]?:=by
 induction l generalizing n with
 | nil=>simp[nthP]
 | cons a l ih=>cases n with
  | zero=>rfl
  | succ n=>show nthP l n=_;rw[ih];simp
theorem zdt{fs:List Field}{l:List (Nat × Nat)}(h:placesL P fs=some l):(fs.mapM (fun f=>do pure (f.offset,<- Go.sizeOf f.type):Field->Sem (Nat × Nat))).run P w=.ok l w:=by
 induction fs generalizing l with
 | nil=>cases h;rfl
 | cons f fs ih =>
  obtain⟨n,hn,h⟩:=zb.1 (show ob (szOf P f.type) _=some l from h)
  obtain⟨l',hl',h⟩:=zb.1 h
  cases h
  rw[List.mapM_cons]
  have ih':=ih hl'
  simp[zy hn]
  simp at ih'
  rw[ih'];rfl
theorem z31{t:TypeId}{z:LV}(h:zeroL P t=some z):∃ v,(zeroValue t).run P w=.ok v w /\ VR ρ z v /\ VRs ρ z.cells v.cells.toList /\ zl z.cells=true:=by
 obtain⟨v,h1,h2,h3⟩:=zb5 (w:=w) ρ h
 exact⟨v,h1,h2,h2.cells h3,h3⟩
theorem zfo{t:TypeId}{ps:List (Nat × LV)}{ps':List (Nat × Value)}{v:LV}(hp:PR ρ ps ps')(h:buildL P t ps=some v) :
  ∃ v',(Instr.build t ps'.toArray).run P w=.ok v' w /\ VR ρ v v':=by
 obtain⟨z,hz,h1⟩:=zb.1 h
 obtain⟨pl,hpl,h2⟩:=zb.1 h1
 obtain⟨c,hc,h3⟩:=zb.1 h2
 cases h3
 obtain⟨zv,hz1,hz2,hzc,hzf⟩:=z31 (w:=w) (ρ:=ρ) hz
 unfold partPl at hpl
 split at hpl
 ·rename_i fs hu
  obtain⟨l,hl,hpl⟩:=zb.1 hpl
  cases hpl
  ·obtain⟨C',hf,hv⟩:=z7e (ρ:=ρ) (pl:=nthP l) (pl':=(l.toArray[·]?)) (fun i p hp=>by rw[zp1] at hp;simpa using hp) ps ps' _ _ _ hp hzc hc
   refine⟨.agg C',?_,.agg hv⟩
   unfold Instr.build
   have hm:=zdt (w:=w) hl
   simp only[Sem.run_bind,hz1,Result.andThen_ok,Go.run_underlying hu]
   rw[show(fs.mapM (fun f=>do pure (f.offset,<- Go.sizeOf f.type):Field->Sem (Nat × Nat))).run P w=.ok l.toArray w from by
    rw[Array.mapM_eq_mapM_toList,Sem.run_map,hm];rfl]
   simp only[Result.andThen_ok]
   rw[hf];rfl
 ·rename_i len e hu
  obtain⟨n,hn,hpl⟩:=zb.1 hpl
  cases hpl
  ·obtain⟨C',hf,hv⟩:=z7e (ρ:=ρ) (pl:=fun i=>some (i*n,n)) (pl':=fun i=>some (i*n,n)) (fun i p hp=>hp) ps ps' _ _ _ hp hzc hc
   refine⟨.agg C',?_,.agg hv⟩
   unfold Instr.build
   simp only[Sem.run_bind,hz1,Result.andThen_ok,Go.run_underlying hu,zy hn]
   rw[hf];rfl
 ·cases hpl
end aggs
end PvL
end
section
namespace PvL
open Go
def Same(ρ ρ':Rho)(lo hi:Nat):Prop:=RLe ρ ρ' /\ ∀ i,(i < lo ∨ hi<=i)->ρ' i=ρ i
def Fresh(ρ:Rho)(lo hi:Nat):Prop:=∀ i,lo<=i->i < hi->ρ i=none
theorem Same.refl(ρ:Rho)(lo hi:Nat):Same ρ ρ lo hi:=⟨RLe.refl ρ,fun _ _=>rfl⟩
theorem Same.upd1{ρ:Rho}{i:Nat}{x:Nat × Nat × Nat}(h:ρ i=none):Same ρ (upd1 ρ i x) i (i+1) :=
 ⟨RLe.upd1 h,fun j hj=>by unfold PvL.upd1;rw[if_neg (by omega)]⟩
def Gives(P:Program)(Pt:Prot)(ρ:Rho)(m:Mem)(w:World)(s:Sem Value)(v:LV)(m':Mem):Prop :=
 ∃ ρ' v' w',s.run P w=.ok v' w' /\ Same ρ ρ' m.next m'.next /\ VR ρ' v v' /\ Rel Pt ρ' m' w'
section mem
variable {P:Program} {Pt:Prot} {ρ:Rho} {m:Mem} {w:World}
theorem Gives.pure{s:Sem Value}{v:LV}{v':Value}(h:Rel Pt ρ m w)(hr:s.run P w=.ok v' w)(hv:VR ρ v v'):Gives P Pt ρ m w s v m :=
 ⟨ρ,v',w,hr,Same.refl _ _ _,hv,h⟩
theorem z06(ρ:Rho)(i:Nat)(x:Nat × Nat × Nat):upd1 ρ i x i=some x:=by unfold upd1;rw[if_pos rfl]
theorem z8p{t:TypeId}(h:plainT t=true):TyR t t 0:=.inl ⟨by unfold plainT at h;rw[Nat.ble_eq] at h;exact h,rfl,rfl⟩
theorem zh0{t s:Nat}:TyR (apE t) t s:=.inr rfl
theorem z5p(h:Rel Pt ρ m w)(hf:ρ m.next=none){cs:List LV}{C:Array Value}{e e':TypeId}(hc:CellsR ρ cs C 0)(ht:TyR e e' 0) :
  Rel Pt (upd1 ρ m.next (w.heap.size,0,C.size)) (m.push (.cells true cs e)) { w with heap:=w.heap.push (.cells C e') } :=
 h.alloc hf rfl ⟨C,e',(0,0),rfl,fun _=>⟨.inl rfl,ht⟩,rfl,hc⟩
theorem VRs.cellsR{cs:List LV}{C:Array Value}(h:VRs ρ cs C.toList):CellsR ρ cs C 0:=fun k v hk=>by
 obtain⟨v',e,hv⟩:=h.get hk
 exact⟨v',by simpa using e,hv⟩
theorem VRs.cellsR_append{cs:List LV}{C D:Array Value}(h:VRs ρ cs C.toList):CellsR ρ cs (C ++ D) 0:=fun k v hk=>by
 obtain⟨v',e,hv⟩:=h.get hk
 refine⟨v',?_,hv⟩
 simp only[Array.getElem?_toList] at e
 have:=(Array.getElem?_eq_some_iff.1 e).1
 rw[Nat.zero_add,Array.getElem?_append_left this];exact e
theorem z9u{t:TypeId}{v:LV}{v':Value}(h:Rel Pt ρ m w)(hf:ρ m.next=none)(hv:VRs ρ v.cells v'.cells.toList)(ht:plainT t=true) :
  Gives P Pt ρ m w (do pure (.pointer (some (<- newVar t v'))):Sem Value) (.ptr (some (m.next,0))) (m.push (.cells true v.cells t)):=by
 refine⟨_,.pointer (some ⟨w.heap.size,0+0,none⟩),_,?_,Same.upd1 hf,.ptr (z06 _ _ _),z5p h hf (e':=t) (C:=v'.cells) hv.cellsR (z8p ht)⟩
 simp[newVar,newRow]
theorem z2g(n:Nat)(z:List LV):(rep n z).length=n*z.length:=by
 induction n with
 | zero=>show([]:List LV).length=_;simp
 | succ n ih=>show(z ++ rep n z).length=_;rw[List.length_append,ih,Nat.succ_mul];omega
theorem zj6(z:List LV)(hz:0 < z.length):∀(n k:Nat),k < n*z.length->(rep n z)[k]?=z[k % z.length]?
 | 0,k,h=>by simp at h
 | n+1,k,h=>by
  show(z ++ rep n z)[k]?=_
  by_cases hk:k < z.length
  ·rw[List.getElem?_append_left hk,Nat.mod_eq_of_lt hk]
  ·rw[List.getElem?_append_right (by omega),zj6 z hz n (k - z.length) (by rw[Nat.succ_mul] at h;omega)]
   conv=>rhs;rw[show k=(k - z.length)+z.length from by omega,Nat.add_mod_right]
theorem zj8{z:List LV}{Z:Array Value}(h:VRs ρ z Z.toList)(hz:0 < z.length)(n N:Nat)(hn:n<=N) :
  VRs ρ (rep n z) (((Array.range (N*Z.size)).map (Z[· % Z.size]!)).toList.take (n*z.length)):=by
 have hl:z.length=Z.size:=by simpa using h.length
 have hle:n*z.length<=N*Z.size:=by rw[<-hl];exact Nat.mul_le_mul_right _ hn
 refine VRs.of_get ?_ fun k v hk=>?_
 ·rw[z2g];simp;omega
 ·have hkl:=(List.getElem?_eq_some_iff.1 hk).1
  rw[z2g] at hkl
  rw[zj6 z hz n k hkl] at hk
  obtain⟨v',e,hv⟩:=h.get hk
  refine⟨v',?_,hv⟩
  rw[List.getElem?_take,if_pos hkl]
  simp only[Array.toList_map,Array.toList_range,List.getElem?_map,List.getElem?_range (show k < N*Z.size by omega),Option.map_some]
  rw[hl] at e
  simp only[Array.getElem?_toList] at e
  rw[getElem!_def,e]
theorem zlr{z:List LV}{Z:Array Value}(h:VRs ρ z Z.toList)(hz:0 < z.length)(n:Nat):VRs ρ (rep n z) ((Array.range (n*Z.size)).map (Z[· % Z.size]!)).toList:=by
 have:=zj8 h hz n n (Nat.le_refl _)
 rw[List.take_of_length_le] at this
 ·exact this
 ·have hl:z.length=Z.size:=by simpa using h.length
  simp[hl]
theorem z25{t e:TypeId}(h:z13 P t=some e):P.underlying t=some (.slice e):=by
 unfold z13 at h
 split at h
 ·cases h;assumption
 ·cases h
theorem z7o{t:TypeId}{len:Nat}{ps:List (Nat × LV)}{r:R1}(h:buildSliceL P t len ps m rvm=some r) :
  ∃ v b,r=.val v (m.push b) /\ ∀(Pt:Prot) (ρ:Rho) (w:World) (ps':List (Nat × Value)),PR ρ ps ps'->Rel Pt ρ m w->ρ m.next=none ->
   Gives P Pt ρ m w (Instr.buildSlice t len ps'.toArray) v (m.push b):=by
 obtain⟨e,he,h1⟩:=zb.1 h
 obtain⟨n,hn,h2⟩:=zb.1 h1
 obtain⟨z,hz,h3⟩:=zb.1 h2
 obtain⟨hg,h4⟩:=zc.1 h3
 obtain⟨c,hc,h5⟩:=zb.1 h4
 rw[Mem.new_eq] at h5
 cases h5
 simp only[Bool.and_eq_true,Nat.ble_eq,Nat.beq_eq] at hg
 obtain⟨hgt,hg1,hg2,hg3⟩:=hg
 refine⟨_,_,rfl,fun Pt ρ w ps' hp hrel hf=>?_⟩
 have hu:=z25 he
 obtain⟨zv,hz1,hz2,hzc,hzf⟩:=z31 (w:=w) (ρ:=ρ) hz
 have hzl:z.cells.length=zv.cells.size:=by simpa using hzc.length
 have hr:=zlr hzc (by omega) len
 obtain⟨C',hfill,hv⟩:=z7e (ρ:=ρ) (pl:=fun i=>some (i*n,n)) (pl':=fun i=>some (i*n,n)) (fun i p hp=>hp) ps ps' _ _ _ hp hr hc
 have hlen:C'.size=len*n:=by
  have h1:=hv.length
  have:c.length=(rep len z.cells).length:=z6x _ _ _ hc
  rw[z2g] at this
  simp at h1;rw[hg3] at this;omega
 refine⟨_,.slice (some ⟨w.heap.size,0+0,none⟩) len len,_,?_,Same.upd1 hf,.slice (z06 _ _ _) (Nat.le_refl _) (fun _=>rfl) (by rw[hlen];omega),z5p hrel hf (e':=e) hv.cellsR (z8p hgt)⟩
 unfold Instr.buildSlice
 simp only[Sem.run_bind,Go.run_underlying hu,Result.andThen_ok,zy hn]
 rw[if_neg (by omega)]
 rw[<-hzl,hg3] at hfill
 have hrow:∀ w,(do pure (.slice (some (<- newRow e C')) len len):Sem Value).run P w=.ok (.slice (some ⟨w.heap.size,0,none⟩) len len) { w with heap:=w.heap.push (.cells C' e) }:=fun w=>by
  simp[newRow]
 by_cases h0:len*n=0
 ·rw[if_pos h0]
  simp only[Sem.run_pure,Result.andThen_ok,Sem.run_bind]
  rw[h0] at hfill ⊢
  have e0:∀ Z:Array Value,(Array.range 0).map (fun x=>Z[x % n]!)=#[]:=fun Z=>by simp
  have e1:∀ Z:Array Value,(Array.range 0).map (fun x=>Z[x % Z.size]!)=#[]:=fun Z=>by simp
  rw[e0] at hfill
  rw[e1,hfill]
  exact hrow w
 ·rw[if_neg h0]
  simp only[Sem.run_bind,hz1,Sem.run_pure,Result.andThen_ok]
  rw[<-hzl,hg3,hfill]
  exact hrow w
theorem z9c{t:TypeId}{l c:LV}{r:R1}(h:makeSliceL P t l c m rvm=some r) :
  ∃ v b,r=.val v (m.push b) /\ ∀(Pt:Prot) (ρ:Rho) (w:World) (l' c':Value),VR ρ l l'->VR ρ c c'->Rel Pt ρ m w->ρ m.next=none ->
   Gives P Pt ρ m w (Instr.makeSlice t l' c') v (m.push b):=by
 obtain⟨e,he,h1⟩:=zb.1 h
 obtain⟨k1,li,rfl,h2⟩:=zk.1 h1
 obtain⟨k2,ci,rfl,h3⟩:=(zk (v:=c)).1 h2
 obtain⟨ln,rfl,h4⟩:=nat?_eq.1 h3
 obtain⟨cn,rfl,h5⟩:=nat?_eq.1 h4
 obtain⟨n,hn,h6⟩:=zb.1 h5
 obtain⟨z,hz,h7⟩:=zb.1 h6
 obtain⟨by',hby,h8⟩:=zb.1 h7
 obtain⟨hg,h9⟩:=zc.1 h8
 rw[Mem.new_eq] at h9
 cases h9
 simp only[Bool.and_eq_true,Nat.ble_eq,Nat.beq_eq] at hg
 obtain⟨⟨hgt,hg1⟩,hg2,hg3,hg4,hg5⟩:=hg
 refine⟨_,_,rfl,fun Pt ρ w l' c' hl hc hrel hf=>?_⟩
 have hu:=z25 he
 obtain⟨i,hi,hib⟩:=zco (w:=w) hby
 obtain⟨zv,hz1,hz2,hzc,hzf⟩:=z31 (w:=w) (ρ:=ρ) hz
 have hzl:z.cells.length=zv.cells.size:=by simpa using hzc.length
 rw[hl.int_inv,hc.int_inv]
 let C:Array Value:=if cn*n=0 then #[] else(Array.range (cn*n)).map (zv.cells[· % zv.cells.size]!)
 have hC:C.size=cn*n:=by
  show(if cn*n=0 then #[] else _).size=_
  split
  ·simp;omega
  ·simp
 have hcells:CellsR ρ (rep ln z.cells) C 0:=by
  intro k v hk
  have hkl:=(List.getElem?_eq_some_iff.1 hk).1
  rw[z2g,hg5] at hkl
  have hr:=zj8 hzc (by omega) ln cn hg1
  obtain⟨v',e1,hv⟩:=hr.get hk
  refine⟨v',?_,hv⟩
  rw[List.getElem?_take,if_pos (by rw[hg5];exact hkl)] at e1
  have hne:cn*n ≠ 0:=by
   have:ln*n<=cn*n:=Nat.mul_le_mul_right _ hg1
   omega
  show(if cn*n=0 then #[] else _)[0+k]?=_
  rw[if_neg hne,Nat.zero_add]
  rw[<-hzl,hg5] at e1
  rw[<-hzl,hg5]
  simp only[Array.getElem?_map,Array.getElem?_range,List.getElem?_map,Array.toList_map,Array.toList_range] at e1 ⊢
  have hkc:k < cn*n:=by have:ln*n<=cn*n:=Nat.mul_le_mul_right _ hg1;omega
  rw[<-e1,if_pos hkc,List.getElem?_range hkc]
 refine⟨_,.slice (some ⟨w.heap.size,0+0,none⟩) ln cn,_,?_,Same.upd1 hf,
  .slice (z06 _ _ _) hg1 (fun hb=>by rw[Nat.beq_eq] at hb;exact hb.symm) (by rw[hC];omega),z5p hrel hf (e':=e) (C:=C) hcells (z8p hgt)⟩
 have hw1:IntKind.i64.wrap (ln:Int)=ln:=by rw[IntKind.wrap_i64];omega
 have hw2:IntKind.i64.wrap (cn:Int)=cn:=by rw[IntKind.wrap_i64];omega
 have hb:(i.bytes:Int)*(cn:Int)<=140737488355328:=by
  rw[hib];have h1:=Int.ofNat_le.2 hg2;rw[Int.natCast_mul] at h1;omega
 unfold Instr.makeSlice
 simp only[Sem.run_bind,Go.run_underlying hu,Result.andThen_ok,Go.asInt,Go.asIntOf,Sem.run_pure,hi,hw1,hw2]
 have hcond:((decide ((cn:Int) < 0) || decide ((i.bytes:Int)*(cn:Int) > 2 ^ 48)) || decide ((ln:Int) < 0) || decide ((ln:Int) >(cn:Int)))=false:=by
  simp;omega
 simp only[hcond,Bool.false_eq_true,if_false]
 simp only[run_askRoom,Result.andThen_ok,zy hn,Sem.run_bind,Int.toNat_natCast]
 by_cases h0:cn*n=0
 ·have hCe:C=#[]:=by show(if cn*n=0 then #[] else _)=_;rw[if_pos h0]
  have e0:∀ f:Nat->Value,(Array.range 0).map f=#[]:=fun f=>by simp
  simp[h0,hCe,newRow,e0]
 ·have hCe:C=(Array.range (cn*n)).map (zv.cells[· % zv.cells.size]!):=by show(if cn*n=0 then #[] else _)=_;rw[if_neg h0]
  simp[h0,hCe,newRow,hz1]
end mem
end PvL
end
section
namespace PvL
open Go
section pure1
variable {P:Program} {ρ:Rho} {w:World}
theorem z0v{α:Type}{x:LV}{most most':Nat}{k:Nat->Option α}{y:α}(h:boundL x most k=some y)(hm:most<=most') :
  ∃ n:Nat,n<=most /\ k n=some y /\ ∀(code:BoundsCode) (x':Value),VR ρ x x'->(Instr.sliceBound x' most' code).run P w=.ok n w:=by
 obtain⟨q,i,rfl,h1⟩:=zk.1 h
 obtain⟨n,rfl,h2⟩:=nat?_eq.1 h1
 obtain⟨hn,h3⟩:=zc.1 h2
 rw[Nat.ble_eq] at hn
 refine⟨n,hn,h3,fun code x' hx=>?_⟩
 rw[hx.int_inv]
 unfold Instr.sliceBound
 simp only[Go.asIntOf,Sem.run_bind,Sem.run_pure,Result.andThen_ok]
 rw[if_pos ⟨by omega,by omega⟩]
 simp
def OR(ρ:Rho):Option LV->Option Value->Prop
 | none,none=>True
 | some v,some v'=>VR ρ v v'
 | _,_=>False
theorem z1u{α:Type}(most d:Nat)(k:Nat->Option α):z08 none most d k=k d:=rfl
theorem z09{α:Type}(v:LV)(most d:Nat)(k:Nat->Option α):z08 (some v) most d k=boundL v most k:=rfl
theorem ze2{t e:TypeId}{n:Nat}(hu:P.underlying t=some (.slice e))(hn:szOf P e=some n){a:Option (Nat × Nat)}{len es:Nat}{full:Bool}{lo hi mx:Option LV}{v:LV}
  (h:sliceSl n a len full es lo hi mx=some v) {x':Value} {lo' hi' mx':Option Value} (hx:VR ρ (.slice a len full es) x') (hlo:OR ρ lo lo') (hhi:OR ρ hi hi') (hmx:OR ρ mx mx') :
  ∃ v',(Instr.slice t x' lo' hi' mx').run P w=.ok v' w /\ VR ρ v v':=by
 unfold sliceSl at h
 obtain⟨hg,h⟩:=zc.1 h
 have fin:∀(m M hh l:Nat) (cap:Nat) (A:Option Addr),len<=cap->(mx.isSome=true->M=m)->(mx=none->M=cap /\ m=len)->m<=len->hh<=m->l<=hh ->
   x'=.slice A len cap ->
   (oe a (some (.slice none 0 true 0)) fun p=>pr p fun id off =>
    guard' (Nat.beq es n) (ifb (mx.isSome ||(full ||(Nat.ble (l+1) len || Nat.beq l 0))) (fN (ifb (Nat.beq m l && (full || mx.isSome)) off (off+l*n)) fun off'=>fN (hh - l) fun len' =>
     some (.slice (some (id,off')) len' (ifb mx.isSome (Nat.beq hh m) (full && Nat.beq hh len)) es)) (some (.slice (some (id,off)) 0 false 0))))=some v ->
   VR ρ v (.slice (if M=l then A else A.map (·.add (l*n))) (hh - l) (M - l)):=by
  intro m M hh l cap A hcap hM1 hM2 hm hhm hl hA hv
  subst hA
  cases a with
  | none =>
   cases hv
   cases hx
   have:M - l=0:=by
    cases mx with
    | none=>have:=hM2 rfl;omega
    | some _=>have:=hM1 rfl;omega
   have h0:hh - l=0:=by omega
   rw[this,h0]
   split<;>exact .sliceNil _ _
  | some p =>
   obtain⟨id,off⟩:=p
   obtain⟨hg2,hv2⟩:=zc.1 (show guard' (Nat.beq es n) _=some v from hv)
   obtain rfl:=Nat.eq_of_beq_eq_true hg2
   cases hgq:(mx.isSome ||(full ||(Nat.ble (l+1) len || Nat.beq l 0))) with
   | false =>
    rw[hgq,zh] at hv2
    cases hv2
    simp only[Bool.or_eq_false_iff] at hgq
    obtain⟨q1,rfl,q3,q4⟩:=hgq
    have hll:l=len:=by
     have:¬ l+1<=len:=fun h=>by rw[Nat.ble_eq_true_of_le h] at q3;cases q3
     omega
    have h0:hh - l=0:=by omega
    rw[h0]
    cases hx with
    | slice hρ hle hf hc =>
     split
     ·exact .sliceE
     ·exact .sliceE
    | sliceE =>
     split
     ·exact .sliceE
     ·exact .sliceE
   | true =>
   rw[hgq,z07,z1m,z1m] at hv2
   cases hv2
   have hg3:mx.isSome=true ∨ full=true ∨ l+1<=len ∨ l=0:=by
    simp only[Bool.or_eq_true,Nat.beq_eq,Nat.ble_eq] at hgq
    exact hgq
   cases hx with
   | sliceE =>
    have e1:m=0:=by omega
    have e2:hh=0:=by omega
    have e3:l=0:=by omega
    subst e1;subst e2;subst e3
    cases mx with
    | none =>
     show VR ρ (.slice (some (id,_)) 0 false 0) _
     split
     ·exact .sliceE
     ·exact .sliceE
    | some _ =>
     have e4:M=0:=hM1 rfl
     subst e4
     rw[if_pos rfl]
     exact .sliceZ
   | sliceZ =>
    have e1:m=0:=by omega
    have e2:hh=0:=by omega
    have e3:l=0:=by omega
    have e4:M=0:=by
     cases mx with
     | none=>exact(hM2 rfl).1
     | some _=>rw[hM1 rfl,e1]
    subst e1;subst e2;subst e3;subst e4
    have hflag:ifb mx.isSome (Nat.beq 0 0) (true && Nat.beq 0 0)=true:=by cases mx<;>rfl
    rw[hflag,if_pos rfl]
    exact .sliceZ
   | slice hρ hle hf hc =>
    rename_i b s c
    have haddr:(if M=l then some (⟨b,s+off,none⟩:Addr) else(some (⟨b,s+off,none⟩:Addr)).map (·.add (l*es))) =
      some ⟨b,s+(ifb (Nat.beq m l && (full || mx.isSome)) off (off+l*es)),none⟩ /\
      s+(ifb (Nat.beq m l && (full || mx.isSome)) off (off+l*es))+(M - l)*es<=c:=by
     have hMc:M<=cap:=by
      cases mx with
      | none=>have:=hM2 rfl;omega
      | some _=>have:=hM1 rfl;omega
     have hmul:l*es+(M - l)*es<=cap*es ∨ M < l:=by
      by_cases hlt:M < l
      ·exact .inr hlt
      ·left;rw[<-Nat.add_mul];exact Nat.mul_le_mul_right _ (by omega)
     have hML:l<=M:=by
      cases mx with
      | none=>have:=hM2 rfl;omega
      | some _=>have:=hM1 rfl;omega
     cases hb:Nat.beq m l && (full || mx.isSome) with
     | true =>
      simp only[Bool.and_eq_true,Nat.beq_eq,Bool.or_eq_true] at hb
      have hMl:M=l:=by
       cases mx with
       | none =>
        have h2:=hM2 rfl
        rcases hb.2 with hb2|hb2
        ·have:=hf hb2;omega
        ·cases hb2
       | some _=>have:=hM1 rfl;omega
      rw[if_pos hMl,hMl]
      refine⟨rfl,?_⟩
      simp
      have:0<=cap*es:=Nat.zero_le _
      omega
     | false =>
      by_cases hMl:M=l
      ·-- at the very end of a slice that may have room: only from 0
       have:l=0:=by
        simp only[Bool.and_eq_false_iff,Bool.or_eq_false_iff] at hb
        cases mx with
        | none =>
         have h2:=hM2 rfl
         rcases hg3 with hg3|hg3|hg3|hg3
         ·cases hg3
         ·rcases hb with hb|hb
          ·have:=hf hg3
           have:m=l:=by omega
           rw[this] at hb;simp at hb
          ·rw[hg3] at hb;cases hb.1
         ·omega
         ·exact hg3
        | some _ =>
         have h1:=hM1 rfl
         rcases hb with hb|hb
         ·have:m=l:=by omega
          rw[this] at hb;simp at hb
         ·cases hb.2
       subst this
       rw[if_pos hMl]
       refine⟨by simp,?_⟩
       rw[hMl];simp
       have:0<=cap*es:=Nat.zero_le _
       omega
      ·rw[if_neg hMl]
       refine⟨by simp only[Option.map_some,z28];simp[Nat.add_assoc],?_⟩
       simp only[zh]
       rcases hmul with hmul|hmul
       ·omega
       ·omega
    rw[haddr.1]
    have hmM:m<=M:=by
     cases mx with
     | none=>have:=hM2 rfl;omega
     | some _=>have:=hM1 rfl;omega
    refine .slice hρ (by omega) ?_ haddr.2
    intro hfl
    cases mx with
    | none =>
     have h2:=hM2 rfl
     simp only[Option.isSome_none,zh,Bool.and_eq_true,Nat.beq_eq] at hfl
     have:=hf hfl.1
     omega
    | some _ =>
     have h1:=hM1 rfl
     simp only[Option.isSome_some,z07,Nat.beq_eq] at hfl
     omega
 have hxs:∃ A cap,x'=.slice A len cap /\ len<=cap:=by
  cases hx with
  | sliceNil=>exact⟨none,0,rfl,Nat.le_refl _⟩
  | slice hρ hle hf hc=>exact⟨_,_,rfl,hle⟩
  | sliceZ=>exact⟨_,_,rfl,Nat.le_refl _⟩
  | sliceE=>exact⟨_,_,rfl,Nat.zero_le _⟩
 obtain⟨A,cap,hA,hcap⟩:=hxs
 have run0:∀ l h m:Nat,(Instr.sliceBounds true len cap lo' hi' mx').run P w=.ok (l,h,m) w ->
   (Instr.slice t x' lo' hi' mx').run P w=.ok (.slice (if m=l then A else A.map (·.add (l*n))) (h - l) (m - l)) w:=by
  intro l h m hb
  unfold Instr.slice
  simp only[Sem.run_bind,Go.run_underlying hu,Result.andThen_ok]
  rw[hA]
  simp only[Sem.run_bind,hb,Result.andThen_ok,zy hn]
  rfl
 cases mx with
 | none =>
  cases mx' with
  | some _=>exact hmx.elim
  | none =>
   rw[z1u] at h
   cases hi with
   | none =>
    cases hi' with
    | some _=>exact hhi.elim
    | none =>
     rw[z1u] at h
     cases lo with
     | none =>
      cases lo' with
      | some _=>exact hlo.elim
      | none =>
       exact⟨_,run0 0 len cap (by simp[Instr.sliceBounds]),fin len cap len 0 cap A hcap (by simp) (by simp) (Nat.le_refl _) (Nat.le_refl _) (Nat.zero_le _) hA h⟩
     | some lv =>
      cases lo' with
      | none=>exact hlo.elim
      | some lv' =>
       obtain⟨l,hl,hk,hb⟩:=z0v (P:=P) (ρ:=ρ) (w:=w) (z09 _ _ _ _ ▸ h) (Nat.le_refl _)
       exact⟨_,run0 l len cap (by simp[Instr.sliceBounds,hb _ _ hlo]),fin len cap len l cap A hcap (by simp) (by simp) (Nat.le_refl _) (Nat.le_refl _) hl hA hk⟩
   | some hv =>
    cases hi' with
    | none=>exact hhi.elim
    | some hv' =>
     obtain⟨hh,hle,hk,hb⟩:=z0v (P:=P) (ρ:=ρ) (w:=w) (z09 _ _ _ _ ▸ h) hcap
     cases lo with
     | none =>
      cases lo' with
      | some _=>exact hlo.elim
      | none =>
       exact⟨_,run0 0 hh cap (by simp[Instr.sliceBounds,hb _ _ hhi]),fin len cap hh 0 cap A hcap (by simp) (by simp) (Nat.le_refl _) hle (Nat.zero_le _) hA hk⟩
     | some lv =>
      cases lo' with
      | none=>exact hlo.elim
      | some lv' =>
       obtain⟨l,hl,hk2,hb2⟩:=z0v (P:=P) (ρ:=ρ) (w:=w) (z09 _ _ _ _ ▸ hk) (Nat.le_refl _)
       exact⟨_,run0 l hh cap (by simp[Instr.sliceBounds,hb _ _ hhi,hb2 _ _ hlo]),fin len cap hh l cap A hcap (by simp) (by simp) (Nat.le_refl _) hle hl hA hk2⟩
 | some mv =>
  cases mx' with
  | none=>exact hmx.elim
  | some mv' =>
   obtain⟨mm,hmle,hk0,hb0⟩:=z0v (P:=P) (ρ:=ρ) (w:=w) (z09 _ _ _ _ ▸ h) hcap
   cases hi with
   | none=>cases hg
   | some hv =>
    cases hi' with
    | none=>exact hhi.elim
    | some hv' =>
     obtain⟨hh,hle,hk,hb⟩:=z0v (P:=P) (ρ:=ρ) (w:=w) (z09 _ _ _ _ ▸ hk0) (Nat.le_refl _)
     cases lo with
     | none =>
      cases lo' with
      | some _=>exact hlo.elim
      | none =>
       exact⟨_,run0 0 hh mm (by simp[Instr.sliceBounds,hb0 _ _ hmx,hb _ _ hhi]),fin mm mm hh 0 cap A hcap (fun _=>rfl) (by simp) hmle hle (Nat.zero_le _) hA hk⟩
     | some lv =>
      cases lo' with
      | none=>exact hlo.elim
      | some lv' =>
       obtain⟨l,hl,hk2,hb2⟩:=z0v (P:=P) (ρ:=ρ) (w:=w) (z09 _ _ _ _ ▸ hk) (Nat.le_refl _)
       exact⟨_,run0 l hh mm (by simp[Instr.sliceBounds,hb0 _ _ hmx,hb _ _ hhi,hb2 _ _ hlo]),fin mm mm hh l cap A hcap (fun _=>rfl) (by simp) hmle hle hl hA hk2⟩
end pure1
end PvL
end
section
namespace PvL
open Go
section pure2
variable {P:Program} {ρ:Rho} {w:World}
theorem zfn{α:Type}{len:Nat}{lo hi mx:Option LV}{lo' hi' mx':Option Value}{k:Nat->Nat->Nat->Option α}{y:α}(hg:(mx.isNone || hi.isSome)=true)
  (h:z08 mx len len (fun m=>z08 hi m len fun h=>z08 lo h 0 fun l=>k m h l)=some y) (hlo:OR ρ lo lo') (hhi:OR ρ hi hi') (hmx:OR ρ mx mx') :
  ∃ m hh l,k m hh l=some y /\ l<=hh /\ hh<=m /\ m<=len /\ (Instr.sliceBounds false len len lo' hi' mx').run P w=.ok (l,hh,m) w:=by
 have hm:∃ m,m<=len /\ (z08 hi m len fun h=>z08 lo h 0 fun l=>k m h l)=some y /\ (mx=none->m=len) /\ ∀ x,mx'=some x->∀ code,(Instr.sliceBound x len code).run P w=.ok m w:=by
  cases mx with
  | none=>cases mx' with
   | none=>exact⟨len,Nat.le_refl _,h,fun _=>rfl,fun x e=>by cases e⟩
   | some _=>exact hmx.elim
  | some v=>cases mx' with
   | none=>exact hmx.elim
   | some v' =>
    rw[z09] at h
    obtain⟨m,h1,h2,h3⟩:=z0v (P:=P) (ρ:=ρ) (w:=w) h (Nat.le_refl _)
    exact⟨m,h1,h2,fun e=>by(cases e),fun x e code=>by cases e;exact h3 code v' hmx⟩
 obtain⟨m,hm1,hm2,hm3,hm4⟩:=hm
 have hh:∃ hh,hh<=m /\ (z08 lo hh 0 fun l=>k m hh l)=some y /\ (hi=none->hh=len) /\ ∀ x,hi'=some x->∀ code,(Instr.sliceBound x m code).run P w=.ok hh w:=by
  cases hi with
  | none=>cases hi' with
   | none =>
    cases mx with
    | none=>exact⟨len,by have:=hm3 rfl;omega,hm2,fun _=>rfl,fun x e=>by cases e⟩
    | some _=>cases hg
   | some _=>exact hhi.elim
  | some v=>cases hi' with
   | none=>exact hhi.elim
   | some v' =>
    rw[z09] at hm2
    obtain⟨q,h1,h2,h3⟩:=z0v (P:=P) (ρ:=ρ) (w:=w) hm2 (Nat.le_refl _)
    exact⟨q,h1,h2,fun e=>by(cases e),fun x e code=>by cases e;exact h3 code v' hhi⟩
 obtain⟨hh,hh1,hh2,hh3,hh4⟩:=hh
 have hl:∃ l,l<=hh /\ k m hh l=some y /\ (lo=none->l=0) /\ ∀ x,lo'=some x->∀ code,(Instr.sliceBound x hh code).run P w=.ok l w:=by
  cases lo with
  | none=>cases lo' with
   | none=>exact⟨0,Nat.zero_le _,hh2,fun _=>rfl,fun x e=>by cases e⟩
   | some _=>exact hlo.elim
  | some v=>cases lo' with
   | none=>exact hlo.elim
   | some v' =>
    rw[z09] at hh2
    obtain⟨q,h1,h2,h3⟩:=z0v (P:=P) (ρ:=ρ) (w:=w) hh2 (Nat.le_refl _)
    exact⟨q,h1,h2,fun e=>by(cases e),fun x e code=>by cases e;exact h3 code v' hlo⟩
 obtain⟨l,hl1,hl2,hl3,hl4⟩:=hl
 refine⟨m,hh,l,hl2,hl1,hh1,hm1,?_⟩
 unfold Instr.sliceBounds
 have key:∀ {a:Option LV} {b:Option Value},OR ρ a b->b=none->a=none:=fun {a b} h e=>by subst e;cases a with
  | none=>rfl
  | some _=>exact h.elim
 cases mx' with
 | none =>
  obtain rfl:=hm3 (key hmx rfl)
  cases hi' with
  | none =>
   obtain rfl:=hh3 (key hhi rfl)
   cases lo' with
   | none=>obtain rfl:=hl3 (key hlo rfl);rfl
   | some x=>simp[hl4 x rfl]
  | some x =>
   cases lo' with
   | none=>obtain rfl:=hl3 (key hlo rfl);simp[hh4 x rfl]
   | some z=>simp[hh4 x rfl,hl4 z rfl]
 | some q =>
  cases hi' with
  | none =>
   have:=key hhi rfl
   subst this
   cases mx with
   | none=>exact hmx.elim
   | some _=>cases hg
  | some x =>
   cases lo' with
   | none=>obtain rfl:=hl3 (key hlo rfl);simp[hm4 q rfl,hh4 x rfl]
   | some z=>simp[hm4 q rfl,hh4 x rfl,hl4 z rfl]
theorem zgq{Pt:Prot}{m:Mem}(hrel:Rel Pt ρ m w){t:TypeId}{x v:LV}{lo hi mx:Option LV}(h:sliceL P t x lo hi mx m=some v){x':Value}{lo' hi' mx':Option Value}(hx:VR ρ x x')(hlo:OR ρ lo lo')(hhi:OR ρ hi hi')(hmx:OR ρ mx mx') :
  ∃ v',(Instr.sliceAt t x' lo' hi' mx').run P w=.ok v' w /\ VR ρ v v':=by
 have at_slice:∀ d,P.underlying t=some d->(∀ n e,d ≠ .array n e)->(Instr.sliceAt t x' lo' hi' mx').run P w=(Instr.slice t x' lo' hi' mx').run P w:=by
  intro d hu hd
  unfold Instr.sliceAt
  rw[Sem.run_bind,Go.run_underlying hu,Result.andThen_ok]
  cases d<;>first|rfl|exact absurd rfl (hd _ _)
 unfold sliceL at h
 split at h
 ·rename_i e hu
  obtain⟨a,len,full,es,rfl,h1⟩:=z0m.1 h
  obtain⟨n,hn,h2⟩:=zb.1 h1
  obtain⟨v',hr,hv⟩:=ze2 (P:=P) (w:=w) hu hn h2 hx hlo hhi hmx
  exact⟨v',by rw[at_slice _ hu (by simp)];exact hr,hv⟩
 ·rename_i len e hu
  obtain⟨hg,h1⟩:=zc.1 h
  obtain⟨n,hn,h2⟩:=zb.1 h1
  obtain⟨i,o,rfl,h3⟩:=z0t.1 h2
  obtain⟨own,cs,ty,hi_,h4⟩:=z1g.1 h3
  obtain⟨hle,h5⟩:=zc.1 h4
  simp only[Bool.and_eq_true,Nat.ble_eq] at hle
  obtain⟨hle1,hle⟩:=hle
  obtain⟨mm,hh,l,h6,hl,hhm,hml,hrun⟩:=zfn (P:=P) (w:=w) hg h5 hlo hhi hmx
  rw[z1m,z1m] at h6
  cases h6
  cases hx with
  | ptr hρ =>
   rename_i b s c
   obtain⟨C,e',fr,hhp,_,hsz,hC⟩:=hrel.cells hi_ hρ
   have hsc:s+cs.length<=c:=by
    obtain⟨v',h1,_⟩:=hC (cs.length - 1) (cs[cs.length - 1]'(by omega)) (List.getElem?_eq_getElem _)
    have:=(Array.getElem?_eq_some_iff.1 h1).1
    omega
   have hln:l*n<=len*n:=Nat.mul_le_mul_right _ (by omega)
   have hmn:mm*n<=len*n:=Nat.mul_le_mul_right _ hml
   have hsub:(mm - l)*n=mm*n - l*n:=Nat.sub_mul _ _ _
   have hlm:l*n<=mm*n:=Nat.mul_le_mul_right _ (by omega)
   refine⟨.slice (some (if mm=l then⟨b,s+o,none⟩ else(⟨b,s+o,none⟩:Addr).add (l*n))) (hh - l) (mm - l),?_,?_⟩
   ·unfold Instr.sliceAt
    simp only[Sem.run_bind,Go.run_underlying hu,Result.andThen_ok,Instr.sureAddr,Sem.run_pure,hrun,zy hn]
   ·by_cases hb:mm=l
    ·rw[if_pos hb,show Nat.beq mm l=true by simp[hb],z07]
     exact .slice hρ (by omega) (fun he=>by have:=Nat.eq_of_beq_eq_true he;omega) (by rw[hsub];omega)
    ·rw[if_neg hb,show Nat.beq mm l=false by
      cases h:Nat.beq mm l with
      | false=>rfl
      | true=>exact absurd (Nat.eq_of_beq_eq_true h) hb,zh,z28,Nat.add_assoc]
     exact .slice hρ (by omega) (fun he=>by have:=Nat.eq_of_beq_eq_true he;omega) (by rw[hsub];omega)
 ·rename_i hu
  obtain⟨s,rfl,h1⟩:=z0k.1 h
  obtain⟨hg,h2⟩:=zc.1 h1
  rw[hx.str_inv]
  rw[hx.str_inv] at at_slice
  cases mx with
  | some _=>cases hg
  | none =>
   cases mx' with
   | some _=>exact hmx.elim
   | none =>
    have run0:∀ l hh:Nat,(Instr.sliceBounds false s.size s.size lo' hi' none).run P w=.ok (l,hh,s.size) w ->
      (Instr.sliceAt t (.string s) lo' hi' none).run P w=.ok (.string (s.extract l hh)) w:=by
     intro l hh hb
     rw[at_slice _ hu (by simp)]
     unfold Instr.slice
     simp only[Sem.run_bind,Go.run_underlying hu,Result.andThen_ok,Option.isSome_none,Bool.false_eq_true,if_false,hb,Sem.run_pure]
    cases hi with
    | none =>
     cases hi' with
     | some _=>exact hhi.elim
     | none =>
      rw[z1u] at h2
      cases lo with
      | none =>
       cases lo' with
       | some _=>exact hlo.elim
       | none =>
        rw[z1u] at h2
        cases h2
        exact⟨_,run0 0 s.size (by simp[Instr.sliceBounds]),.str _⟩
      | some lv =>
       cases lo' with
       | none=>exact hlo.elim
       | some lv' =>
        obtain⟨l,hl,hk,hb⟩:=z0v (P:=P) (ρ:=ρ) (w:=w) (z09 _ _ _ _ ▸ h2) (Nat.le_refl _)
        cases hk
        exact⟨_,run0 l s.size (by simp[Instr.sliceBounds,hb _ _ hlo]),.str _⟩
    | some hv =>
     cases hi' with
     | none=>exact hhi.elim
     | some hv' =>
      obtain⟨hh,hle,hk,hb⟩:=z0v (P:=P) (ρ:=ρ) (w:=w) (z09 _ _ _ _ ▸ h2) (Nat.le_refl _)
      cases lo with
      | none =>
       cases lo' with
       | some _=>exact hlo.elim
       | none =>
        rw[z1u] at hk
        cases hk
        exact⟨_,run0 0 hh (by simp[Instr.sliceBounds,hb _ _ hhi]),.str _⟩
      | some lv =>
       cases lo' with
       | none=>exact hlo.elim
       | some lv' =>
        obtain⟨l,hl,hk2,hb2⟩:=z0v (P:=P) (ρ:=ρ) (w:=w) (z09 _ _ _ _ ▸ hk) (Nat.le_refl _)
        cases hk2
        exact⟨_,run0 l hh (by simp[Instr.sliceBounds,hb _ _ hhi,hb2 _ _ hlo]),.str _⟩
 ·cases h
theorem zre{t:TypeId}{q:Option Nat × Nat}(h:ixK P t=some q):(∃ e,P.underlying t=some (.slice e) /\ szOf P e=some q.2 /\ q.1=none) ∨ ∃ len e,P.underlying t=some (.array len e) /\ szOf P e=some q.2 /\ q.1=some len:=by
 unfold ixK at h
 split at h
 ·rename_i e hu
  obtain⟨n,hn,h⟩:=zb.1 h
  cases h
  exact .inl ⟨e,hu,hn,rfl⟩
 ·rename_i len e hu
  obtain⟨n,hn,h⟩:=zb.1 h
  cases h
  exact .inr ⟨len,e,hu,hn,rfl⟩
 ·cases h
theorem zel{id off i n len:Nat}{v:LV}(h:idxAt id off i n len=some v):i < len /\ v=.ptr (some (id,off+i*n)):=by
 obtain⟨hg,h⟩:=zc.1 h
 rw[z1m] at h
 cases h
 exact⟨Nat.le_of_ble_eq_true hg,rfl⟩
theorem z9b{t:TypeId}{x i v:LV}(h:indexAddrL P t x i=some v){x' i':Value}(hx:VR ρ x x')(hi:VR ρ i i') :
  ∃ v',(Instr.indexAt t x' i').run P w=.ok v' w /\ VR ρ v v':=by
 obtain⟨q,hq,h1⟩:=zb.1 h
 obtain⟨len,n⟩:=q
 obtain⟨k,z,rfl,h2⟩:=zk.1 (show asInt i _=some v from h1)
 obtain⟨j,rfl,h3⟩:=nat?_eq.1 h2
 rw[hi.int_inv]
 rcases zre hq with⟨e,hu,hn,hl⟩|⟨l,e,hu,hn,hl⟩
 ·have hl:len=none:=hl
  subst hl
  obtain⟨a,ln,full,es,rfl,h4⟩:=z0m.1 (show asSlice x _=some v from h3)
  obtain⟨⟨id,off⟩,rfl,h5⟩:=zb.1 h4
  obtain⟨hlt,rfl⟩:=zel h5
  cases hx with
  | sliceZ=>exact absurd hlt (Nat.not_lt_zero _)
  | sliceE=>exact absurd hlt (Nat.not_lt_zero _)
  | slice hρ hle hf hc =>
   rename_i b s c cap
   refine⟨.pointer (some ⟨b,s+(off+j*n),none⟩),?_,.ptr hρ⟩
   unfold Instr.indexAt
   simp only[Go.asIntOf,Sem.run_bind,Sem.run_pure,Result.andThen_ok,Go.run_underlying hu]
   rw[if_pos ⟨by omega,by omega⟩]
   simp[zy hn,z28,Nat.add_assoc]
 ·have hl:len=some l:=hl
  subst hl
  obtain⟨id,off,rfl,h4⟩:=z0t.1 (show asPtr x _=some v from h3)
  obtain⟨hlt,rfl⟩:=zel h4
  cases hx with
  | ptr hρ =>
   rename_i b s c
   refine⟨.pointer (some ⟨b,s+(off+j*n),none⟩),?_,.ptr hρ⟩
   unfold Instr.indexAt Instr.sureAddr
   simp only[Go.asIntOf,Sem.run_bind,Sem.run_pure,Result.andThen_ok,Go.run_underlying hu]
   rw[if_pos ⟨by omega,by omega⟩]
   simp[zy hn,z28,Nat.add_assoc]
theorem z8m{t:TypeId}{ag:Bool}{n off:Nat}{cs:List LV}{v:LV}(h:partL ag n off cs=some v)(hag:isAggT P t=some ag)(hn:szOf P t=some n){cs':Array Value}(hc:VRs ρ cs cs'.toList) :
  ∃ v',(part t cs' off).run P w=.ok v' w /\ VR ρ v v':=by
 cases ag with
 | false=>exact z30 hc (s:=none) (by unfold aggSz;rw[hag];rfl) h
 | true=>exact z30 hc (s:=some n) (by unfold aggSz;rw[hag];show ob (szOf P t) _=_;rw[hn];rfl) h
theorem zg3{t:TypeId}{x i v:LV}(h:indexL P t x i=some v){x' i':Value}(hx:VR ρ x x')(hi:VR ρ i i') :
  ∃ v',(Instr.index t x' i').run P w=.ok v' w /\ VR ρ v v':=by
 unfold indexL at h
 split at h
 ·rename_i len e hu
  obtain⟨cs,rfl,h1⟩:=z10.1 h
  obtain⟨k,z,rfl,h2⟩:=(zk (v:=i)).1 h1
  obtain⟨j,rfl,h3⟩:=nat?_eq.1 h2
  obtain⟨n,hn,h4⟩:=zb.1 h3
  obtain⟨ag,hag,h5⟩:=zb.1 h4
  obtain⟨hlt,h6⟩:=zc.1 h5
  rw[Nat.ble_eq] at hlt
  rw[hi.int_inv]
  obtain⟨cs',rfl,hc⟩:=hx.agg_inv
  obtain⟨v',hr,hv⟩:=z8m (P:=P) (w:=w) h6 hag hn hc
  refine⟨v',?_,hv⟩
  unfold Instr.index
  simp only[Go.asIntOf,Sem.run_bind,Sem.run_pure,Result.andThen_ok,Go.run_underlying hu]
  rw[if_pos ⟨by omega,by omega⟩]
  simp[zy hn,hr]
 ·rename_i hu
  obtain⟨s,rfl,h1⟩:=z0k.1 h
  obtain⟨k,z,rfl,h2⟩:=(zk (v:=i)).1 h1
  obtain⟨j,rfl,h3⟩:=nat?_eq.1 h2
  obtain⟨b,hb,h4⟩:=zb.1 h3
  cases h4
  rw[hi.int_inv,hx.str_inv]
  refine⟨_,?_,.int _ _⟩
  unfold Instr.index
  simp only[Go.asIntOf,Sem.run_bind,Sem.run_pure,Result.andThen_ok,Go.run_underlying hu]
  rw[if_pos (by omega)]
  simp[hb]
 ·cases h
theorem z6e{t:TypeId}{f:Nat}{q:Nat × Nat × Bool}(h:fieldPl P t f=some q):∃ fs F,P.underlying t=some (.struct fs) /\ fs[f]?=some F /\ q.1=F.offset /\ szOf P F.type=some q.2.1 /\ isAggT P F.type=some q.2.2:=by
 obtain⟨F,hF,h1⟩:=zb.1 h
 obtain⟨n,hn,h2⟩:=zb.1 h1
 obtain⟨b,hb,h3⟩:=zb.1 h2
 cases h3
 unfold fieldOf at hF
 split at hF
 ·rename_i fs hu
  exact⟨fs,F,hu,hF,rfl,hn,hb⟩
 ·cases hF
theorem zfy{t:TypeId}{x v:LV}{f:Nat}(h:fieldL P t x f=some v){x':Value}(hx:VR ρ x x'):∃ v',(Instr.field t x' f).run P w=.ok v' w /\ VR ρ v v':=by
 obtain⟨⟨off,n,ag⟩,hq,h1⟩:=zb.1 h
 obtain⟨cs,rfl,h2⟩:=z10.1 (show asAgg x _=some v from h1)
 obtain⟨fs,F,hu,hF,ho,hn,hag⟩:=z6e hq
 have ho:off=F.offset:=ho
 subst ho
 obtain⟨cs',rfl,hc⟩:=hx.agg_inv
 obtain⟨v',hr,hv⟩:=z8m (P:=P) (w:=w) h2 hag hn hc
 refine⟨v',?_,hv⟩
 unfold Instr.field
 simp only[Sem.run_bind,Go.run_underlying hu,Result.andThen_ok,hF]
 simp[Go.asAgg,hr]
theorem z9a{t:TypeId}{x v:LV}{f:Nat}(h:fieldAddrL P t x f=some v){x':Value}(hx:VR ρ x x'):∃ v',(Instr.fieldAt t x' f).run P w=.ok v' w /\ VR ρ v v':=by
 obtain⟨⟨off,n,ag⟩,hq,h1⟩:=zb.1 h
 obtain⟨id,o,rfl,h2⟩:=z0t.1 (show asPtr x _=some v from h1)
 obtain⟨hg,h3⟩:=zc.1 h2
 rw[z1m] at h3
 cases h3
 rw[Nat.ble_eq] at hg
 obtain⟨fs,F,hu,hF,ho,hn,hag⟩:=z6e hq
 have ho:off=F.offset:=ho
 subst ho
 cases hx with
 | ptr hρ =>
  rename_i b s c
  refine⟨.pointer (some ⟨b,s+(o+F.offset),none⟩),?_,.ptr hρ⟩
  unfold Instr.fieldAt Instr.sureAddr fieldPlace
  simp only[Sem.run_bind,Go.run_underlying hu,Result.andThen_ok,hF,Sem.run_pure]
  have hn:szOf P F.type=some n:=hn
  simp only[zy hn,Result.andThen_ok]
  rw[if_neg (by omega)]
  simp[z28,Nat.add_assoc]
theorem zaz{x v:LV}(h:nilCheckL x=some v){x':Value}(hx:VR ρ x x'):∃ a,x'=.pointer (some a) /\ VR ρ v x':=by
 unfold nilCheckL at h
 split at h
 ·cases h
  cases hx with
  | ptr hρ=>exact⟨_,rfl,.ptr hρ⟩
 ·cases h
theorem zdc{vs:List LV}{i:Nat}{v:LV}(h:nth vs i=some v){x':Value}(hx:VR ρ (.tup vs) x'):∃ v',(Instr.extract x' i).run P w=.ok v' w /\ VR ρ v v':=by
 cases hx with
 | tup hvs =>
  rw[z4w] at h
  obtain⟨v',e,hv⟩:=hvs.get h
  simp only[Array.getElem?_toList] at e
  exact⟨v',by simp[Instr.extract,e],hv⟩
theorem zie{a b v:LV}(h:max2L a b=some v){a' b':Value}(ha:VR ρ a a')(hb:VR ρ b b'):∃ v',(Builtin.max2 a' b').run P w=.ok v' w /\ VR ρ v v':=by
 obtain⟨k,x,rfl,h1⟩:=zk.1 h
 obtain⟨k',y,rfl,h2⟩:=(zk (v:=b)).1 h1
 cases h2
 rw[ha.int_inv,hb.int_inv,z3s]
 refine⟨_,by simp only[Builtin.max2];rfl,?_⟩
 by_cases hc:x < y
 ·simp only[hc,decide_true,z07,if_true];exact .int _ _
 ·simp only[hc,decide_false,zh,if_false];exact .int _ _
theorem zig{a b v:LV}(h:min2L a b=some v){a' b':Value}(ha:VR ρ a a')(hb:VR ρ b b'):∃ v',(Builtin.min2 a' b').run P w=.ok v' w /\ VR ρ v v':=by
 obtain⟨k,x,rfl,h1⟩:=zk.1 h
 obtain⟨k',y,rfl,h2⟩:=(zk (v:=b)).1 h1
 cases h2
 rw[ha.int_inv,hb.int_inv,z3s]
 refine⟨_,by simp only[Builtin.min2];rfl,?_⟩
 by_cases hc:y < x
 ·simp only[hc,decide_true,z07,if_true];exact .int _ _
 ·simp only[hc,decide_false,zh,if_false];exact .int _ _
theorem z86{f:LV->LV->Option LV}{g:Value->Value->Sem Value}(hfg:∀ a b v a' b',f a b=some v->VR ρ a a'->VR ρ b b'->∃ v',(g a' b').run P w=.ok v' w /\ VR ρ v v') :
  ∀(ys:List LV) (ys':List Value) (x v:LV) (x':Value),foldL f ys x=some v->VR ρ x x'->VRs ρ ys ys'->∃ v',(ys'.foldlM g x').run P w=.ok v' w /\ VR ρ v v'
 | [],_,x,v,x',h,hx,hy=>by cases hy;cases h;exact⟨x',rfl,hx⟩
 | y :: ys,_,x,v,x',h,hx,hy=>by
  cases hy with
  | cons hy hys =>
   obtain⟨z,hz,h1⟩:=zb.1 (show ob (f x y) _=some v from h)
   obtain⟨z',hr,hzv⟩:=hfg _ _ _ _ _ hz hx hy
   obtain⟨v',hr2,hv⟩:=z86 hfg ys _ z v z' h1 hzv hys
   exact⟨v',by rw[List.foldlM_cons,Sem.run_bind,hr];exact hr2,hv⟩
