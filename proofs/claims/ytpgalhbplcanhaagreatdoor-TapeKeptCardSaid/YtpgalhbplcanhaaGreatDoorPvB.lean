/-
 What the interpreter does,operation by operation,the model's machine does too. No condition.
-/
import Derived.Test.YtpgalhbplcanhaaGreatDoorPvA
import Derived.Laws.Sem
import Derived.AtR
import Derived.ChangeKeysEq
import Derived.Laws.BitsLemmas
section
namespace PvL
open Go
section
variable {α β γ:Type}
@[simp] theorem zsm (f:α->Option β):ob none f=none:=rfl
@[simp] theorem z8 (a:α) (f:α->Option β):ob (some a) f=f a:=rfl
theorem z9{x:Option α}{f:α->Option β}{y:β}:ob x f=some y ↔ ∃ a,x=some a/\f a=some y:=by
 cases x<;>simp[zsm,z8]
@[simp] theorem z47 (n:β) (f:α->β):oe none n f=n:=rfl
@[simp] theorem z2j (a:α) (n:β) (f:α->β):oe (some a) n f=f a:=rfl
@[simp] theorem zq (x y:α):ifb true x y=x:=rfl
@[simp] theorem ze (x y:α):ifb false x y=y:=rfl
@[simp] theorem zb (x:Option α):guard' true x=x:=rfl
@[simp] theorem guard'_false (x:Option α):guard' false x=none:=rfl
theorem za{b:Bool}{x:Option α}{y:α}:guard' b x=some y↔b=true/\x=some y:=by cases b<;>simp
@[simp] theorem zll (z:α) (k:Nat->α):nE 0 z k=z:=rfl
@[simp] theorem zfl (m:Nat) (z:α) (k:Nat->α):nE (m+1) z k=k m:=rfl
@[simp] theorem z19 (n:Nat) (k:Nat->α):fN n k=k n:=by cases n<;>rfl
@[simp] theorem iE_nat (n:Nat) (p q:Nat->α):iE (.ofNat n) p q=p n:=rfl
@[simp] theorem iE_neg (n:Nat) (p q:Nat->α):iE (.negSucc n) p q=q n:=rfl
@[simp] theorem zfc (z:Int) (k:Int->α):fI z k=k z:=by
 cases z with
 | ofNat n=>exact z19 n fun n=>k (.ofNat n)
 | negSucc n=>exact z19 n fun n=>k (.negSucc n)
@[simp] theorem zss (a:α) (b:β) (k:α->β->γ):pr (a,b) k=k a b:=rfl
@[simp] theorem lE_nil (n:β) (c:α->List α->β):lE [] n c=n:=rfl
@[simp] theorem lE_cons (a:α) (l:List α) (n:β) (c:α->List α->β):lE (a::l) n c=c a l:=rfl
end
def Bits.val:Bits->Nat
 | .e=>0
 | .l b=>2*b.val+1
 | .r b=>2*b.val+2
theorem zd0:∀(f n:Nat),n<=f->(bitsF f n).val=n
 | 0,n,h=>by obtain rfl:n=0:=by omega
             rfl
 | f+1,0,_=>rfl
 | f+1,m+1,h=>by
  have p:=zd0 f (Nat.div m 2) (by show m/2<=f;omega)
  show(ifb (Nat.beq (Nat.mod m 2) 0) (Bits.l (bitsF f (Nat.div m 2))) (Bits.r (bitsF f (Nat.div m 2)))).val=m+1
  have q:Nat.mod m 2=m%2:=rfl
  have j:Nat.div m 2=m/2:=rfl
  rw[q]
  rcases Nat.mod_two_eq_zero_or_one m with g|g
  ·rw[g];show 2*(bitsF f (Nat.div m 2)).val+1=m+1;rw[p,j];omega
  ·rw[g];show 2*(bitsF f (Nat.div m 2)).val+2=m+1;rw[p,j];omega
theorem zge(n:Nat):(bits n).val=n:=zd0 n n (Nat.le_refl _)
theorem zn2{m n:Nat}(h:bits m=bits n):m=n:=by rw[<-zge m,<- zge n,h]
namespace PT
variable {α:Type}
@[simp] theorem zo2 (b:Bits):getB b (.nil:PT α)=none:=by
 cases b<;>rfl
theorem zq4(b:Bits)(v:Option α)(l r:PT α):getB (.l b) (.node v l r)=getB b l:=rfl
theorem zq5(b:Bits)(v:Option α)(l r:PT α):getB (.r b) (.node v l r)=getB b r:=rfl
theorem z4p(x:Option α):∀(b b':Bits) (t:PT α),getB b' (setB x b t)=if b'=b then x else getB b' t
 | .e,b',t=>by
  cases t<;>cases b'<;>first
   | rfl
   |(show getB _ PT.nil=_;simp)
 | .l b,b',t=>by
  cases t with
  | nil=>
   cases b' with
   | e=>rfl
   | l b'=>show getB b' (setB x b .nil)=_;rw[z4p x b b' .nil];simp
   | r b'=>show getB b' .nil=_;simp
  | node v l r=>
   cases b' with
   | e=>rfl
   | l b'=>show getB b' (setB x b l)=_;rw[z4p x b b' l,zq4];simp only[Bits.l.injEq]
   | r b'=>show getB b' r=_;rw[zq5];simp
 | .r b,b',t=>by
  cases t with
  | nil=>
   cases b' with
   | e=>rfl
   | r b'=>show getB b' (setB x b .nil)=_;rw[z4p x b b' .nil];simp
   | l b'=>show getB b' .nil=_;simp
  | node v l r=>
   cases b' with
   | e=>rfl
   | r b'=>show getB b' (setB x b r)=_;rw[z4p x b b' r,zq5];simp only[Bits.r.injEq]
   | l b'=>show getB b' l=_;rw[zq4];simp
@[simp] theorem get_nil (n:Nat):get (.nil:PT α) n=none:=zo2 _
theorem get_set(t:PT α)(n m:Nat)(x:Option α):get (set t n x) m=if m=n then x else get t m:=by
 unfold get set
 rw[z4p]
 by_cases h:m=n
 ·simp[h]
 ·have f:bits m≠bits n:=fun e=>h (zn2 e)
  simp[h,f]
@[simp] theorem get_set_same (t:PT α) (n:Nat) (x:Option α):get (set t n x) n=x:=by simp[get_set]
end PT
section
variable {α:Type} {v:LV} {y:α}
theorem zj{k:IntKind->Int->Option α}:asInt v k=some y ↔ ∃ q n,v=.int q n/\k q n=some y :=
 ⟨fun h=>(by cases v<;>first|exact⟨_,_,rfl,h⟩|cases h),fun⟨f,g,e,h⟩=>by subst e;exact h⟩
theorem z1w{k:Bool->Option α}:asBool v k=some y ↔ ∃ b,v=.bool b/\k b=some y :=
 ⟨fun h=>(by cases v<;>first|exact⟨_,rfl,h⟩|cases h),fun⟨f,e,h⟩=>by subst e;exact h⟩
theorem z0v{k:Nat->Nat->Option α}:asPtr v k=some y ↔ ∃ i o,v=.ptr (some (i,o))/\k i o=some y :=
 ⟨fun h=>(by
  cases v with
  | ptr a=>
   cases a with
   | none=>cases h
   | some p=>exact⟨p.1,p.2,rfl,h⟩
  | _=>cases h),fun⟨i,o,e,h⟩=>by subst e;exact h⟩
theorem z1b{k:List LV->Option α}:asAgg v k=some y ↔ ∃ c,v=.agg c/\k c=some y :=
 ⟨fun h=>(by cases v<;>first|exact⟨_,rfl,h⟩|cases h),fun⟨f,e,h⟩=>by subst e;exact h⟩
theorem z0g{k:ByteArray->Option α}:asStr v k=some y ↔ ∃ c,v=.str c/\k c=some y :=
 ⟨fun h=>(by cases v<;>first|exact⟨_,rfl,h⟩|cases h),fun⟨f,e,h⟩=>by subst e;exact h⟩
theorem zbr{k:List LV->Option α}:asTup v k=some y ↔ ∃ c,v=.tup c/\k c=some y :=
 ⟨fun h=>(by cases v<;>first|exact⟨_,rfl,h⟩|cases h),fun⟨f,e,h⟩=>by subst e;exact h⟩
theorem z0m{k:Option (Nat×Nat)->Nat->Bool->Nat->Option α}:asSlice v k=some y ↔ ∃ a n f e,v=.slice a n f e/\k a n f e=some y :=
 ⟨fun h=>(by cases v<;>first|exact⟨_,_,_,_,rfl,h⟩|cases h),fun⟨g,j,p,q,e,h⟩=>by subst e;exact h⟩
theorem z26{k:Option Nat->Option α}:asMap v k=some y ↔ ∃ r,v=.map r/\k r=some y :=
 ⟨fun h=>(by cases v<;>first|exact⟨_,rfl,h⟩|cases h),fun⟨f,e,h⟩=>by subst e;exact h⟩
theorem z6z{k:TypeId->LV->Option α}:asIface v k=some y ↔ ∃ t x,v=.iface t x/\k t x=some y :=
 ⟨fun h=>(by cases v<;>first|exact⟨_,_,rfl,h⟩|cases h),fun⟨f,g,e,h⟩=>by subst e;exact h⟩
end
@[simp] theorem cells_agg (c:List LV):(LV.agg c).cells=c:=rfl
end PvL
end
section
namespace PvL
open Go
variable {bs:List Value} {a:Array Value} {i s c:Nat}
abbrev Rho:=Nat->Option (Nat×Nat×Nat)
def RLe (ρ f:Rho):Prop:=∀ i x,ρ i=some x->f i=some x
theorem RLe.refl (ρ:Rho):RLe ρ ρ:=fun _ _ h=>h
theorem RLe.trans {a b c:Rho}(h:RLe a b)(f:RLe b c):RLe a c:=fun i x e=>f i x (h i x e)
mutual
inductive VR (ρ:Rho):LV->Value->Prop
 | int (k:IntKind) (n:Int):VR ρ (.int k n) (.int k n)
 | bool (b:Bool):VR ρ (.bool b) (.bool b)
 | str (s:ByteArray):VR ρ (.str s) (.string s)
 | ptrNil:VR ρ (.ptr none) (.pointer none)
 | ptr {i o b s c:Nat} (h:ρ i=some (b,s,c)):VR ρ (.ptr (some (i,o))) (.pointer (some ⟨b,s+o,none⟩))
 | sliceNil (f:Bool) (e:Nat):VR ρ (.slice none 0 f e) (.slice none 0 0)
 | slice {i o b s c len cap e:Nat} {f:Bool} (h:ρ i=some (b,s,c)) (hl:len<=cap) (hf:f=true->cap=len) (hc:s+o+cap*e<=c) :
   VR ρ (.slice (some (i,o)) len f e) (.slice (some ⟨b,s+o,none⟩) len cap)
 | sliceZ {i o e:Nat} {a:Addr}:VR ρ (.slice (some (i,o)) 0 true e) (.slice (some a) 0 0)
 | sliceE {i o cap:Nat} {a:Addr}:VR ρ (.slice (some (i,o)) 0 false 0) (.slice (some a) 0 cap)
 | mapNil:VR ρ (.map none) (.map none)
 | map {i b s c:Nat} (h:ρ i=some (b,s,c)):VR ρ (.map (some i)) (.map (some b))
 | func {g:FuncId} {fi ca:List LV} {fi' ca':Array Value} (h1:VRs ρ fi fi'.toList) (h2:VRs ρ ca ca'.toList):VR ρ (.func (.func g) fi ca) (.func (.func g) fi' ca')
 | yield {l b s c:Nat} (h:ρ l=some (b,s,c)):VR ρ (.func (.yield l) [] []) (.func (.yield b) #[] #[])
 | nilFunc:VR ρ .nilFunc .nilFunc
 | nilIface:VR ρ .nilIface .nilIface
 | agg {cs:List LV} {cs':Array Value} (h:VRs ρ cs cs'.toList):VR ρ (.agg cs) (.agg cs')
 | tup {vs:List LV} {vs':Array Value} (h:VRs ρ vs vs'.toList):VR ρ (.tup vs) (.tuple vs')
 | unk (v:Value):VR ρ .unk v
 | iface {t:TypeId} {v:LV} {v':Value} (h:VR ρ v v'):VR ρ (.iface t v) (.iface t v')
inductive VRs (ρ:Rho):List LV->List Value->Prop
 | nil:VRs ρ [] []
 | cons {a:LV} {b:Value} {as:List LV} {bs:List Value} (h:VR ρ a b) (t:VRs ρ as bs):VRs ρ (a :: as) (b :: bs)
end
mutual
theorem VR.mono {ρ j:Rho}(g:RLe ρ j):∀ {v:LV} {v':Value},VR ρ v v'->VR j v v'
 | _,_,.int k n=>.int k n
 | _,_,.bool b=>.bool b
 | _,_,.str s=>.str s
 | _,_,.ptrNil=>.ptrNil
 | _,_,.ptr h=>.ptr (g _ _ h)
 | _,_,.sliceNil f e=>.sliceNil f e
 | _,_,.slice h hl hf q=>.slice (g _ _ h) hl hf q
 | _,_,.sliceZ=>.sliceZ
 | _,_,.sliceE=>.sliceE
 | _,_,.mapNil=>.mapNil
 | _,_,.map h=>.map (g _ _ h)
 | _,_,.func h1 p=>.func (VRs.mono g h1) (VRs.mono g p)
 | _,_,.yield h=>.yield (g _ _ h)
 | _,_,.nilFunc=>.nilFunc
 | _,_,.nilIface=>.nilIface
 | _,_,.agg h=>.agg (VRs.mono g h)
 | _,_,.tup h=>.tup (VRs.mono g h)
 | _,_,.unk v=>.unk v
 | _,_,.iface h=>.iface (VR.mono g h)
theorem VRs.mono {ρ f:Rho}(g:RLe ρ f):∀ {v:List LV} {v':List Value},VRs ρ v v'->VRs f v v'
 | _,_,.nil=>.nil
 | _,_,.cons h t=>.cons (VR.mono g h) (VRs.mono g t)
end
section lists
variable {ρ:Rho}
theorem VRs.length {f:List LV}(h:VRs ρ f bs):f.length=bs.length:=by
 induction f generalizing bs with
 | nil=>cases h;rfl
 | cons a f g=>cases h with|cons h t=>simp[g t]
theorem VRs.get {f:List LV}(h:VRs ρ f bs){k:Nat}{v:LV}(g:f[k]?=some v):∃ v',bs[k]?=some v'/\VR ρ v v':=by
 induction f generalizing bs k with
 | nil=>simp at g
 | cons a f j=>
  cases h with
  | cons h t=>
   cases k with
   | zero=>simp at g;subst g;exact⟨_,rfl,h⟩
   | succ k=>simpa using j t (by simpa using g)
theorem VRs.of_get {f:List LV}(g:f.length=bs.length)(h:∀(k:Nat) (v:LV),f[k]?=some v->∃ v',bs[k]?=some v'/\VR ρ v v'):VRs ρ f bs:=by
 induction f generalizing bs with
 | nil=>cases bs with|nil=>exact .nil|cons b bs=>simp at g
 | cons a f q=>
  cases bs with
  | nil=>simp at g
  | cons b bs=>
   refine .cons ?_ (q (by simpa using g) fun k v j=>by simpa using h (k+1) v (by simpa using j))
   obtain⟨v',e,p⟩:=h 0 a rfl
   simp at e;subst e;exact p
theorem VRs.append {j f:List LV}{g:List Value}(h:VRs ρ j bs)(p:VRs ρ f g):VRs ρ (j++f) (bs++g):=by
 induction j generalizing bs with
 | nil=>cases h;exact p
 | cons a j q=>cases h with|cons h t=>exact .cons h (q t)
theorem z7s (l:List LV)(n:Nat):nth l n=l[n]?:=by
 induction l generalizing n with
 | nil=>simp[nth]
 | cons a l f=>cases n with
  | zero=>rfl
  | succ n=>show nth l n=_;rw[f];simp
theorem z1r (n:Nat)(l:List LV):drop' n l=l.drop n:=by
 induction n generalizing l with
 | zero=>rfl
 | succ n f=>cases l with
  | nil=>rfl
  | cons a l=>show drop' n l=_;rw[f];rfl
theorem z2p {n:Nat}{l r:List LV}:take' n l=some r↔n<=l.length/\r=l.take n:=by
 induction n generalizing l r with
 | zero=>show some []=some r↔_;simp[eq_comm]
 | succ n g=>cases l with
  | nil=>show none=some r↔_;simp
  | cons a l=>
   show ob (take' n l) (fun l=>some (a::l))=some r↔_
   rw[z9]
   constructor
   ·rintro⟨q,h,e⟩
    obtain⟨f,rfl⟩:=g.1 h
    cases e
    exact⟨by simpa using f,rfl⟩
   ·rintro⟨f,rfl⟩
    exact⟨_,g.2 ⟨by simpa using f,rfl⟩,rfl⟩
theorem z2i:∀(l:List LV) (n:Nat) (vs r:List LV),z0t l n vs=some r ->
  r.length=l.length/\(vs=[]∨n+vs.length<=l.length) /\ ∀ k,r[k]?=if n<=k/\k<n+vs.length then vs[k-n]? else l[k]?
 | [],n,vs,r,h=>by
  cases vs with
  | nil=>cases h;simp
  | cons v vs=>cases h
 | x::xs,n,[],r,h=>by cases h;simp;intro k h1 f;omega
 | x::xs,0,v::vs,r,h=>by
  have j:ob (z0t xs 0 vs) (fun l=>some (v::l))=some r:=h
  obtain⟨q,u,e⟩:=z9.1 j
  cases e
  obtain⟨h1,f,p⟩:=z2i xs 0 vs q u
  refine⟨by simp[h1],.inr ?_,fun k=>?_⟩
  ·rcases f with rfl|f
   ·simp
   ·simp at f ⊢;omega
  ·cases k with
   | zero=>simp
   | succ k=>
    have:=p k
    simp at this ⊢
    rw[this]
 | x::xs,n+1,v::vs,r,h=>by
  have j:ob (z0t xs n (v::vs)) (fun l=>some (x::l))=some r:=h
  obtain⟨q,u,e⟩:=z9.1 j
  cases e
  obtain⟨h1,f,p⟩:=z2i xs n (v::vs) q u
  refine⟨by simp[h1],.inr ?_,fun k=>?_⟩
  ·rcases f with f|f
   ·cases f
   ·simp at f ⊢;omega
  ·cases k with
   | zero=>simp
   | succ k=>
    have:=p k
    simp at this ⊢
    rw[this]
    by_cases g:n<=k/\k<n+(vs.length+1)
    ·rw[if_pos g,if_pos ⟨g.1,by omega⟩]
    ·rw[if_neg g,if_neg (fun h=>g ⟨h.1,by omega⟩)]
end lists
def GlobOk (ρ:Rho):Prop:=∀ g,g<64->∃ c,ρ g=some (g,0,c)
theorem GlobOk.mono {ρ f:Rho}(p:RLe ρ f)(h:GlobOk ρ):GlobOk f:=fun g j=>let ⟨c,e⟩:=h g j;⟨c,p _ _ e⟩
structure TR (ρ:Rho) (T:Tm) (a:Array Value):Prop where
 sz:a.size=T.size
 at_:∀ i,VR ρ (T.get i) (a.getD i undef)
 glob:GlobOk ρ
theorem TR.mono {ρ f:Rho}(g:RLe ρ f){T:Tm}(h:TR ρ T a):TR f T a:=⟨h.1,fun i=>(h.2 i).mono g,h.3.mono g⟩
theorem Tm.set_eq {T T':Tm}{v:LV}:T.set i v=some T'↔i<T.size/\T'=⟨T.size,T.tr.set i (some v)⟩:=by
 cases T with
 | mk n t=>
  show guard' (Nat.ble (Nat.succ i) n) (some _)=some T'↔_
  rw[za,Nat.ble_eq]
  simp only[Option.some.injEq]
  exact⟨fun⟨a,b⟩=>⟨a,b.symm⟩,fun⟨a,b⟩=>⟨a,b.symm⟩⟩
theorem Tm.get_set {T T':Tm}{v:LV}(h:T.set i v=some T')(j:Nat):T'.get j=if j=i then v else T.get j:=by
 obtain⟨_,rfl⟩:=Tm.set_eq.1 h
 unfold Tm.get
 simp only[PT.get_set]
 split<;>rfl
theorem z39 (T:Tm)(t:Tmp):evT T t=some (T.get t):=by
 cases T with
 | mk n f=>
  show oe (f.get t) (some .unk) some=_
  unfold Tm.get
  cases f.get t<;>rfl
theorem TR.set {ρ:Rho}{T T':Tm}{v:LV}{v':Value}(h:TR ρ T a)(g:T.set i v=some T')(q:VR ρ v v'):TR ρ T' (a.setIfInBounds i v'):=by
 obtain⟨p,e⟩:=Tm.set_eq.1 g
 refine⟨by rw[e];simpa using h.1,fun j=>?_,h.3⟩
 rw[Tm.get_set g]
 by_cases f:j=i
 ·subst f
  rw[if_pos rfl,Array.getD_eq_getD_getElem?,Array.getElem?_setIfInBounds_self_of_lt (by rw[h.1];exact p)]
  exact q
 ·rw[if_neg f,Array.getD_eq_getD_getElem?,Array.getElem?_setIfInBounds_ne (Ne.symm f),<- Array.getD_eq_getD_getElem?]
  exact h.2 j
theorem TR.put {ρ:Rho}{T T':Tm}{a:Act}{d:Option Tmp}{v:LV}{v':Value}(h:TR ρ T a.tmps)(f:T.put d v=some T')(g:VR ρ v v'):TR ρ T' (a.put d v').tmps:=by
 cases d with
 | none=>cases f;exact h
 | some d=>exact h.set f g
theorem z0f (a:Act)(d:Option Tmp)(v:Value):(a.put d v).defers=a.defers:=by cases d<;>rfl
theorem zhe {v:Value}{l:LV}(ρ:Rho)(h:ofV0 v=some l):VR ρ l v:=by
 unfold ofV0 at h
 split at h<;>first
  |(cases h;first|exact .int _ _|exact .bool _|exact .str _|exact .ptrNil|exact .sliceNil _ _|exact .mapNil|exact .nilFunc|exact .nilIface|exact .func .nil .nil)
  | cases h
theorem zoe {vs:List Value}{l:List LV}(ρ:Rho)(h:ofVs vs=some l):VRs ρ l vs:=by
 induction vs generalizing l with
 | nil=>cases h;exact .nil
 | cons v vs j=>
  obtain⟨a,f,h⟩:=z9.1 h
  obtain⟨b,g,h⟩:=z9.1 h
  cases h
  exact .cons (zhe ρ f) (j g)
theorem zlp {v:Value}{l:LV}(ρ:Rho)(h:ofV v=some l):VR ρ l v:=by
 unfold ofV at h
 split at h
 ·obtain⟨a,f,h⟩:=z9.1 h
  cases h
  exact .agg (zoe ρ f)
 ·cases h;exact .tup .nil
 ·exact zhe ρ h
theorem zu {ρ:Rho}{T:Tm}{a:Act}(h:TR ρ T a.tmps){x:Operand}{v:LV}(j:ev T x=some v):VR ρ v (a.eval x):=by
 cases x with
 | tmp t=>have j:evT T t=some v:=j;rw[z39] at j;cases j;exact h.2 t
 | const c=>exact zlp ρ j
 | global g=>
  have j:ifb (Nat.ble (Nat.succ g) 64) (some (LV.ptr (some (g,0)))) none=some v:=j
  cases p:Nat.ble (Nat.succ g) 64 with
  | false=>rw[p] at j;cases j
  | true=>
   rw[p] at j;cases j
   rw[Nat.ble_eq] at p
   obtain⟨c,q⟩:=h.3 g p
   exact .ptr (o:=0) q
 | func f=>cases j;exact .func .nil .nil
theorem zc4 {ρ:Rho}{T:Tm}{a:Act}(h:TR ρ T a.tmps){xs:List Operand}{vs:List LV}(f:evs T xs=some vs):VRs ρ vs (xs.map a.eval):=by
 induction xs generalizing vs with
 | nil=>cases f;exact .nil
 | cons x xs p=>
  obtain⟨v,j,f⟩:=z9.1 f
  obtain⟨vs,g,f⟩:=z9.1 f
  cases f
  exact .cons (zu h j) (p g)
def CellsR (ρ:Rho)(cs:List LV)(C:Array Value)(s:Nat):Prop:=∀ k v,cs[k]?=some v->∃ v',C[s+k]?=some v'/\VR ρ v v'
def ER (ρ:Rho):List (LV×LV)->List MapEntry->Prop
 | [],[]=>True
 | x::es,e::E=>VR ρ x.1 e.key/\VR ρ x.2 e.val/\ER ρ es E
 | _,_=>False
def Thaw (fr:Nat×Nat)(c:Nat):Prop:=fr=(0,0)∨fr=(c,c+1)
def TyR (ty e s:Nat):Prop:=(ty<1000000/\e=ty/\s=0)∨ty=e+1000000
def BR (ρ:Rho):LB->Obj->Nat->Nat->Prop
 | .cells own cs ty,o,s,c=>∃ C e fr,o=.cells C e fr/\(own=true->Thaw fr c/\TyR ty e s)/\C.size=c/\CellsR ρ cs C s
 | .map es bs g,o,_,_=>∃ E,o=.map E g/\ER ρ es E.toList/\bs=E.toList.map (·.born)
 | .loop st pend fn tm ps as bd d,o,_,_=>∃ T' h,o=.loop { state:=st,pending:=pend,fn,tmps:=T',params:=ps.toArray,assign:=as,body:=bd,defers:=h }/\TR ρ tm T' /\ ∃ s c,ρ d=some (h,s,c)
 | .defr,o,_,_=>o=.deferred (some [])
 | .siter q pos,o,s,_=>s=0/\o=.stringIter q pos
 | .iter none _ _ _,o,s,_=>s=0 /\ ∃ a b c,o=.mapIter none a b c
 | .iter (some r) since seen f,o,s,_=>s=0 /\ ∃ b s c,ρ r=some (b,s,c)/\o=.mapIter (some b) since seen.toArray f
def isRo:LB->Bool | .cells false _ _=>true|_=>false
theorem CellsR.mono {ρ f:Rho}(j:RLe ρ f){cs:List LV}{C:Array Value}(h:CellsR ρ cs C s):CellsR f cs C s:=fun k v g=>let ⟨v',e,p⟩:=h k v g;⟨v',e,p.mono j⟩
theorem ER.mono {ρ f:Rho}(g:RLe ρ f):∀ {es:List (LV×LV)} {E:List MapEntry},ER ρ es E->ER f es E
 | [],[],_=>trivial
 | _::_,_::_,h=>⟨h.1.mono g,h.2.1.mono g,ER.mono g h.2.2⟩
 | [],_::_,h=>h.elim
 | _::_,[],h=>h.elim
theorem BR.mono {ρ u:Rho}(p:RLe ρ u){lb:LB}{o:Obj}(h:BR ρ lb o s c):BR u lb o s c:=by
 cases lb with
 | cells own K e=>obtain⟨C,e,fr,f,g,j,H⟩:=h;exact⟨C,e,fr,f,g,j,H.mono p⟩
 | map L bs D=>obtain⟨E,f,g,j⟩:=h;exact⟨E,f,g.mono p,j⟩
 | iter x a b c=>
  cases x with
  | none=>exact h
  | some r=>obtain⟨G,b,s,c,f,g⟩:=h;exact⟨G,b,s,c,p _ _ f,g⟩
 | loop st A M O N a b d=>obtain⟨B,F,f,g,s,c,j⟩:=h;exact⟨B,F,f,g.mono p,s,c,p _ _ j⟩
 | defr=>exact h
 | siter q J=>exact h
structure Prot where
 f:Nat->Option Obj
 ro:Nat->Prop
 sub:∀ b,ro b->f b ≠ none
 base:Nat
 os:Os
 out:Array (Nat × ByteArray)
instance:CoeFun Prot (fun _=>Nat->Option Obj):=⟨Prot.f⟩
structure Rel (Pt:Prot) (ρ:Rho) (m:Mem) (w:World):Prop where
 keep:∀ r o,Pt r=some o->w.heap[r]?=some o
 live:∀ i lb,m.get i=some lb->i < m.next /\ ∃ b s c o,ρ i=some (b,s,c) /\ BR ρ lb o s c /\ w.heap[b]?=some o /\ (if isRo lb then Pt b=some o /\ Pt.ro b else Pt b=none)
 inj:∀ i j lb lb' x y,m.get i=some lb->m.get j=some lb'->isRo lb=false->isRo lb'=false->ρ i=some x->ρ j=some y->x.1=y.1->i=j
 still:w.os=Pt.os /\ w.output=Pt.out
theorem Mem.get_mk (n:Nat)(t:PT LB)(i:Nat):(Mem.mk n t).get i=t.get i:=rfl
theorem Mem.get_upd (m:Mem)(i j:Nat)(b:Option LB):(m.upd i b).get j=if j=i then b else m.get j:=by
 cases m with
 | mk n t=>show(t.set i b).get j=_;rw[PT.get_set];rfl
theorem Mem.next_upd (m:Mem)(i:Nat)(b:Option LB):(m.upd i b).next=m.next:=by cases m;rfl
noncomputable def Mem.push (m:Mem)(b:LB):Mem:=⟨m.next+1,m.tr.set m.next (some b)⟩
theorem Mem.new_eq {α:Type}(m:Mem)(b:LB)(k:Nat->Mem->α):m.new b k=k m.next (m.push b):=by
 cases m with
 | mk n t=>exact z19 n fun n=>k n ⟨n+1,t.set n (some b)⟩
theorem Mem.get_push (m:Mem)(b:LB)(j:Nat):(m.push b).get j=if j=m.next then some b else m.get j:=by
 cases m with
 | mk n t=>show(t.set n (some b)).get j=_;rw[PT.get_set];rfl
section rel
variable {Pt:Prot} {ρ:Rho} {m:Mem} {w:World}
theorem Rel.of_heap (h:Rel Pt ρ m w){w':World}(e:w'.heap=w.heap)(f:w'.os=w.os/\w'.output=w.output:=by exact⟨rfl,rfl⟩):Rel Pt ρ m w' :=
 ⟨fun r o j=>e▸h.keep r o j,fun i p g=>by rw[e];exact h.live i p g,h.inj,by rw[f.1,f.2];exact h.still⟩
def upd1 (ρ:Rho)(i:Nat)(x:Nat×Nat×Nat):Rho:=fun j=>if j=i then some x else ρ j
theorem RLe.upd1 {x:Nat×Nat×Nat}(h:ρ i=none):RLe ρ (upd1 ρ i x):=fun j y e=>by
 unfold PvL.upd1
 by_cases f:j=i
 ·subst f;rw[h] at e;cases e
 ·rw[if_neg f];exact e
theorem Rel.drop (h:Rel Pt ρ m w)(i:Nat):Rel Pt ρ (m.upd i none) w:=by
 refine⟨h.keep,fun j p f=>?_,fun j k p q x y f g=>?_,h.still⟩
 ·rw[Mem.get_upd] at f
  by_cases e:j=i
  ·rw[if_pos e] at f;cases f
  ·rw[if_neg e] at f;rw[Mem.next_upd];exact h.live j p f
 ·rw[Mem.get_upd] at f g
  by_cases e:j=i
  ·rw[if_pos e] at f;cases f
  ·by_cases r:k=i
   ·rw[if_pos r] at g;cases g
   ·rw[if_neg e] at f;rw[if_neg r] at g
    exact h.inj j k p q x y f g
theorem Rel.turn (h:Rel Pt ρ m w){lb lb':LB}(hi:m.get i=some lb)(g:isRo lb=false)(E:isRo lb'=false){b:Nat}(q:ρ i=some (b,s,c)){w':World}{o':Obj}(U:BR ρ lb' o' s c)(X:w'.heap[b]?=some o')(p:∀ r,r≠b->w'.heap[r]?=w.heap[r]?)(O:w'.os=w.os/\w'.output=w.output:=by exact⟨rfl,rfl⟩):Rel Pt ρ (m.upd i (some lb')) w':=by
 obtain⟨K,b0,s0,c0,o0,M,_,_,u⟩:=h.live i lb hi
 rw[q] at M;cases M
 rw[g] at u
 have u:Pt b=none:=u
 refine⟨fun r o A=>?_,fun j l f=>?_,fun j k l Q x y f D=>?_,by rw[O.1,O.2];exact h.still⟩
 ·have:r≠b:=fun e=>by subst e;rw[u] at A;cases A
  rw[p r this];exact h.keep r o A
 ·rw[Mem.get_upd] at f
  by_cases e:j=i
  ·rw[if_pos e] at f;cases f;subst e
   exact⟨by rw[Mem.next_upd];exact K,b,s,c,o',q,U,X,by rw[E];exact u⟩
  ·rw[if_neg e] at f
   obtain⟨V,H,s1,R,Y,N,F,G,J⟩:=h.live j l f
   have L:H≠b:=fun S=>by
    subst S
    by_cases A:isRo l=true
    ·rw[if_pos A,u] at J;cases J.1
    ·exact e (h.inj j i l lb _ _ f hi (by simpa using A) g N q rfl)
   exact⟨by rw[Mem.next_upd];exact V,H,s1,R,Y,N,F,by rw[p H L];exact G,J⟩
 ·rw[Mem.get_upd] at f D
  intro F G
  by_cases e:j=i
  ·by_cases B:k=i
   ·intro _ _ _;rw[e,B]
   ·rw[if_pos e] at f;rw[if_neg B] at D;subst e
    exact h.inj j k lb Q x y hi D g G
  ·by_cases B:k=i
   ·rw[if_neg e] at f;subst B
    exact h.inj j k l lb x y f hi F g
   ·rw[if_neg e] at f;rw[if_neg B] at D
    exact h.inj j k l Q x y f D F G
theorem z6k {o:Obj}{r:Nat}(f:r<w.heap.size):({ w with heap:=w.heap.push o }:World).heap[r]?=w.heap[r]?:=by
 simp[Array.getElem?_push,Nat.ne_of_lt f]
theorem Rel.alloc (h:Rel Pt ρ m w)(hf:ρ m.next=none){lb:LB}{o:Obj}(N:isRo lb=false)(V:BR ρ lb o 0 c) :
  Rel Pt (upd1 ρ m.next (w.heap.size,0,c)) (m.push lb) { w with heap:=w.heap.push o }:=by
 have g:=RLe.upd1 (ρ:=ρ) (i:=m.next) (x:=(w.heap.size,0,c)) hf
 have f:∀ r B,w.heap[r]?=some B->r<w.heap.size:=fun r B e=>(Array.getElem?_eq_some_iff.1 e).1
 refine⟨fun r B Y=>?_,fun j l p=>?_,fun j k l O x y p A K F E q L=>?_,h.still⟩
 ·have:=h.keep r B Y
  rw[z6k (f r B this)];exact this
 ·rw[Mem.get_push] at p
  by_cases e:j=m.next
  ·rw[if_pos e] at p;cases p
   refine⟨by show j<m.next+1;omega,w.heap.size,0,c,o,by unfold upd1;rw[if_pos e],V.mono g,by simp,?_⟩
   rw[N]
   show Pt w.heap.size=none
   cases X:Pt w.heap.size with
   | none=>rfl
   | some B=>exact absurd (f _ _ (h.keep _ _ X)) (Nat.lt_irrefl _)
  ·rw[if_neg e] at p
   obtain⟨M,G,R,H,Q,u,K,F,U⟩:=h.live j l p
   exact⟨Nat.lt_succ_of_lt M,G,R,H,Q,g _ _ u,K.mono g,by rw[z6k (f _ _ F)];exact F,U⟩
 ·rw[Mem.get_push] at p A
  by_cases e:j=m.next
  ·by_cases D:k=m.next
   ·rw[e,D]
   ·rw[if_neg D] at A
    obtain⟨M,G,R,H,Q,u,_,J,_⟩:=h.live k O A
    rw[g _ _ u] at q;cases q
    unfold upd1 at E;rw[if_pos e] at E;cases E
    exact absurd (f _ _ J) (by simp at L;omega)
  ·rw[if_neg e] at p
   obtain⟨M,G,R,H,Q,u,_,J,_⟩:=h.live j l p
   rw[g _ _ u] at E;cases E
   by_cases D:k=m.next
   ·unfold upd1 at q;rw[if_pos D] at q;cases q
    exact absurd (f _ _ J) (by simp at L;omega)
   ·rw[if_neg D] at A
    obtain⟨_,b2,s2,c2,o2,S,_,_,_⟩:=h.live k O A
    rw[g _ _ S] at q;cases q
    exact h.inj j k l O _ _ p A K F u S L
end rel
end PvL
end
section
namespace PvL
open Go
variable {t e:TypeId} {n b s k o i c off:Nat} {C:Array Value} {v' x':Value} {vs':List Value}
section words
variable {P:Program} {w:World}
theorem run_typeInfo {i:TypeInfo}(h:P.info? t=some i):(typeInfo t).run P w=.ok i w:=by
 simp[typeInfo,h]
theorem run_underlying {d:TypeDesc}(h:P.underlying t=some d):(underlying t).run P w=.ok d w:=by
 simp[underlying,h]
theorem z03 (h:szOf P t=some n):(Go.sizeOf t).run P w=.ok n w:=by
 unfold szOf at h
 cases f:P.info? t with
 | none=>rw[f] at h;cases h
 | some i=>rw[f] at h;cases h;simp[Go.sizeOf,run_typeInfo f]
theorem zec (h:bytesOfT P t=some n):∃ i,(typeInfo t).run P w=.ok i w/\i.bytes=n:=by
 unfold bytesOfT at h
 cases f:P.info? t with
 | none=>rw[f] at h;cases h
 | some i=>rw[f] at h;cases h;exact⟨i,run_typeInfo f,rfl⟩
theorem z6t {b:Bool}(h:isAggT P t=some b):(isAgg t).run P w=.ok b w:=by
 unfold isAggT at h
 cases f:P.underlying t with
 | none=>rw[f] at h;cases h
 | some d=>
  rw[f] at h;cases h
  unfold isAgg
  rw[Sem.run_bind,run_underlying f]
  cases d<;>rfl
theorem zce {z:LV}(ρ:Rho)(h:zeroL P t=some z):∃ v,(zeroValue t).run P w=.ok v w/\VR ρ z v/\zn z.cells=true:=by
 obtain⟨i,g,h⟩:=z9.1 h
 obtain⟨v,j,h⟩:=z9.1 h
 obtain⟨p,hz,h⟩:=z9.1 h
 obtain⟨f,h⟩:=za.1 h
 cases h
 exact⟨v,by simp[zeroValue,run_typeInfo g,j],zlp ρ hz,f⟩
theorem zga {s:Option Nat}(h:aggSz P t=some s):(s=none/\isAggT P t=some false) ∨ ∃ n,s=some n/\isAggT P t=some true/\szOf P t=some n:=by
 obtain⟨b,f,h⟩:=z9.1 h
 cases b with
 | false=>cases h;exact .inl ⟨rfl,f⟩
 | true=>
  obtain⟨n,g,h⟩:=z9.1 (show ob (szOf P t) (fun n=>some (some n))=some s from h)
  cases h;exact .inr ⟨n,rfl,f,g⟩
theorem z2n (b o k:Nat):(⟨b,o,none⟩:Addr).add k=⟨b,o+k,none⟩:=by
 unfold Addr.add
 split
 ·subst_vars;rfl
 ·rfl
theorem z72 {fr:Nat×Nat}(h:w.heap[b]?=some (.cells C e fr)):w.cell? ⟨b,k,none⟩=C[k]?:=by
 simp[World.cell?,h]
theorem zkt {fr:Nat×Nat}(hf:Thaw fr C.size)(f:k<C.size)(h:w.heap[b]?=some (.cells C e fr)):w.frozen? ⟨b,k,none⟩=false:=by
 rcases hf with rfl|rfl
 ·simp[World.frozen?,h]
 ·simp[World.frozen?,h];omega
theorem za2 {a:Addr}{v:Value}(h:w.cell? a=some v):(load a).run P w=.ok v w:=by simp[h]
theorem z7d (n:Nat):∀(i:Nat) (f:Array Value) (vs:List Value),vs.length=n->(∀ k,k<n->w.cell? ⟨b,o+i+k,none⟩=vs[k]?) ->
  (loadCellsFrom ⟨b,o,none⟩ i n f).run P w=.ok (f++vs.toArray) w:=by
 induction n with
 | zero=>intro i f vs g _;obtain rfl:vs=[]:=by simpa using g
         simp[loadCellsFrom]
 | succ n p=>
  intro i f vs g h
  cases vs with
  | nil=>simp at g
  | cons v vs=>
   have j:w.cell? ⟨b,o+i,none⟩=some v:=by simpa using h 0 (by omega)
   unfold loadCellsFrom
   rw[Sem.run_bind,z2n,za2 j,Result.andThen_ok]
   rw[p (i+1) (f.push v) vs (by simpa using g) (fun k q=>?_)]
   ·simp
   ·have:=h (k+1) (by omega)
    rw[show o+(i+1)+k=o+i+(k+1) from by omega,this]
    simp
theorem z4d {vs:List Value}(g:vs.length=n)(f:∀ k,k<n->w.cell? ⟨b,o+k,none⟩=vs[k]?) :
  (loadCells ⟨b,o,none⟩ n).run P w=.ok vs.toArray w:=by
 unfold loadCells
 rw[z7d n 0 #[] vs g (by simpa using f)]
 simp
end words
theorem zdp {ρ:Rho}{v:LV}(h:VR ρ v v')(hf:v.flat=true):v'.oneCell'=true:=by
 cases h<;>first|rfl|cases hf
theorem z4j {v:LV}{vs:List LV}:zn (v::vs)=true↔v.flat=true/\zn vs=true:=by
 show ifb v.flat (zn vs) false=true↔_
 cases v.flat<;>simp
theorem VRs.oneCells {ρ:Rho}{vs:List LV}(h:VRs ρ vs vs')(hf:zn vs=true):∀ x∈vs',x.oneCell'=true:=by
 induction vs generalizing vs' with
 | nil=>cases h;simp
 | cons v vs p=>
  obtain⟨g,j⟩:=z4j.1 hf
  cases h with
  | cons h t=>
   intro x f
   cases f with
   | head=>exact zdp h g
   | tail _ f=>exact p t j x f
theorem VR.cells {ρ:Rho}{v:LV}(h:VR ρ v v')(hf:zn v.cells=true):VRs ρ v.cells v'.cells.toList:=by
 cases h with
 | agg h=>exact h
 | unk v=>
  have:zn [LV.unk]=true:=hf
  have:=(z4j.1 this).1
  cases this
 | tup h=>
  have:zn [LV.tup _]=true:=hf
  have:=(z4j.1 this).1
  cases this
 | _=>exact .cons (by constructor<;>assumption) .nil
theorem z5r (P:Program)(b o:Nat)(e:TypeId)(fr:Nat×Nat):∀(vs:List Value) (i:Nat) (w:World) (C:Array Value),Thaw fr C.size ->
  w.heap[b]?=some (.cells C e fr)->(∀ x∈vs,x.oneCell'=true)->(vs=[]∨o+i+vs.length<=C.size) ->
  ∃ w' g,(storeCells ⟨b,o,none⟩ vs i).run P w=.ok () w'/\w'.heap[b]?=some (.cells g e fr)/\g.size=C.size /\
   (∀ k,g[k]?=if o+i<=k/\k<o+i+vs.length then vs[k-(o+i)]? else C[k]?)/\(∀ r,r≠b->w'.heap[r]?=w.heap[r]?)/\(w'.os=w.os/\w'.output=w.output):=by
 intro vs
 induction vs with
 | nil=>
  intro i w C _ h _ _
  refine⟨w,C,rfl,h,rfl,fun k=>?_,fun _ _=>rfl,rfl,rfl⟩
  rw[if_neg (fun E=>by simp at E;omega)]
 | cons v vs O=>
  intro i w C j h H f
  have f:o+i+(vs.length+1)<=C.size:=by
   rcases f with f|f
   ·cases f
   ·simpa using f
  have K:w.cell? ⟨b,o+i,none⟩=some (C[o+i]'(by omega)):=by rw[z72 h];exact Array.getElem?_eq_getElem (by omega)
  have Q:b<w.heap.size:=(Array.getElem?_eq_some_iff.1 h).1
  let B:=w.setCell ⟨b,o+i,none⟩ v
  have G:B.heap[b]?=some (.cells (C.setIfInBounds (o+i) v) e fr):=by
   have J:w.heap[b]=.cells C e fr:=by
    have:=Array.getElem?_eq_some_iff.1 h
    exact this.2
   simp[B,World.setCell,Array.getElem?_modify,h]
  have u:∀ r,r≠b->B.heap[r]?=w.heap[r]?:=by
   intro r D
   simp[B,World.setCell,Array.getElem?_modify,Ne.symm D]
  obtain⟨w',g,A,E,N,L,M,F⟩:=O (i+1) B _ (by simpa using j) G (fun x J=>H x (.tail _ J)) (.inr (by simp;omega))
  refine⟨w',g,?_,E,by simpa using N,fun k=>?_,fun r D=>by rw[M r D,u r D],F⟩
  ·unfold storeCells
   rw[Sem.run_bind,z2n,run_store _ _ _ _ _ (H v (.head _))]
   simp only[K,zkt j (show o+i<C.size by omega) h,Bool.false_eq_true,if_false,Result.andThen_ok]
   exact A
  ·rw[L k]
   by_cases p:k=o+i
   ·subst p
    rw[if_neg (by omega),if_pos (by simp)]
    simp[Array.getElem?_setIfInBounds];omega
   ·by_cases q:o+(i+1)<=k/\k<o+(i+1)+vs.length
    ·rw[if_pos q,if_pos (by simp;omega)]
     rw[show k-(o+i)=(k-(o+(i+1)))+1 from by omega,List.getElem?_cons_succ]
    ·rw[if_neg q,if_neg (by simp;omega)]
     simp[Ne.symm p]
section mem
variable {Pt:Prot} {ρ:Rho} {m:Mem} {w:World} {P:Program}
theorem z1q {α:Type}{k:Bool->List LV->TypeId->Option α}{y:α}:atCells m i k=some y ↔ ∃ own c e,m.get i=some (.cells own c e)/\k own c e=some y:=by
 unfold atCells
 rw[z9]
 constructor
 ·rintro⟨h,g,f⟩
  cases h with
  | cells own c e=>exact⟨own,c,e,g,f⟩
  | _=>cases f
 ·rintro⟨own,c,e,g,f⟩;exact⟨_,g,f⟩
theorem z37 {α:Type}{k:List (LV×LV)->List Nat->Nat->Option α}{y:α}:atMap m i k=some y ↔ ∃ es bs f,m.get i=some (.map es bs f)/\k es bs f=some y:=by
 unfold atMap
 rw[z9]
 constructor
 ·rintro⟨j,h,g⟩
  cases j with
  | map es bs f=>exact⟨es,bs,f,h,g⟩
  | _=>cases g
 ·rintro⟨es,bs,f,h,g⟩;exact⟨_,h,g⟩
theorem zcx {α:Type}{k:Option Nat->Nat->List Nat->Nat->Option α}{y:α}:atIter m i k=some y ↔ ∃ a b c d,m.get i=some (.iter a b c d)/\k a b c d=some y:=by
 unfold atIter
 rw[z9]
 constructor
 ·rintro⟨h,g,f⟩
  cases h with
  | iter a b c d=>exact⟨a,b,c,d,g,f⟩
  | _=>cases f
 ·rintro⟨a,b,c,d,g,f⟩;exact⟨_,g,f⟩
theorem zhv {α:Type}{k:ByteArray->Nat->Option α}{y:α}:atSIter m i k=some y ↔ ∃ a b,m.get i=some (.siter a b)/\k a b=some y:=by
 unfold atSIter
 rw[z9]
 constructor
 ·rintro⟨h,g,f⟩
  cases h with
  | siter a b=>exact⟨a,b,g,f⟩
  | _=>cases f
 ·rintro⟨a,b,g,f⟩;exact⟨_,g,f⟩
theorem z8e {α:Type}{k:Option α}{y:α}:atDefr m i k=some y↔m.get i=some .defr/\k=some y:=by
 unfold atDefr
 rw[z9]
 constructor
 ·rintro⟨h,g,f⟩
  cases h with
  | defr=>exact⟨g,f⟩
  | _=>cases f
 ·rintro⟨g,f⟩;exact⟨_,g,f⟩
theorem Rel.cells (h:Rel Pt ρ m w){own:Bool}{cs:List LV}(hi:m.get i=some (.cells own cs e))(f:ρ i=some (b,s,c)) :
  ∃ C e' fr,w.heap[b]?=some (.cells C e' fr)/\(own=true->Thaw fr c/\TyR e e' s)/\C.size=c/\CellsR ρ cs C s:=by
 obtain⟨_,r,x,u,o,g,⟨C,e',fr,rfl,j,p,q⟩,h5,_⟩:=h.live i _ hi
 rw[f] at g;cases g
 exact⟨C,e',fr,h5,j,p,q⟩
theorem zld (h:Rel Pt ρ m w){v:LV}(x:load1 m i off=some v)(f:ρ i=some (b,s,c)):∃ v',w.cell? ⟨b,s+off,none⟩=some v'/\VR ρ v v':=by
 obtain⟨own,A,e,u,g⟩:=z1q.1 x
 obtain⟨C,B,fr,r,_,_,q⟩:=h.cells u f
 rw[z7s] at g
 obtain⟨v',j,p⟩:=q off v g
 exact⟨v',by rw[z72 r];exact j,p⟩
theorem z4s (h:Rel Pt ρ m w){l:List LV}(G:loadN m i off n=some l)(r:ρ i=some (b,s,c)) :
  ∃ vs:List Value,vs.length=n/\(∀ k,k<n->w.cell? ⟨b,s+off+k,none⟩=vs[k]?)/\VRs ρ l vs:=by
 obtain⟨own,B,e,F,A⟩:=z1q.1 G
 obtain⟨C,J,fr,E,_,_,x⟩:=h.cells F r
 rw[z1r] at A
 obtain⟨q,rfl⟩:=z2p.1 A
 simp only[List.length_drop] at q
 have j:∀ k,k<n->∃ v',C[s+off+k]?=some v':=fun k f=>by
  obtain⟨v',g,_⟩:=x (off+k) (B[off+k]'(by omega)) (List.getElem?_eq_getElem _)
  exact⟨v',by rw[<-g];congr 1;omega⟩
 have H:n=0∨s+off+n<=C.size:=by
  rcases Nat.eq_zero_or_pos n with u|u
  ·exact .inl u
  ·obtain⟨v',g⟩:=j (n-1) (by omega)
   have:=(Array.getElem?_eq_some_iff.1 g).1
   exact .inr (by omega)
 refine⟨(C.toList.drop (s+off)).take n,?_,fun k f=>?_,VRs.of_get ?_ fun k v f=>?_⟩
 ·simp;omega
 ·rw[z72 E,List.getElem?_take]
  simp[f]
 ·simp;omega
 ·have p:k<n:=by
   have:=(List.getElem?_eq_some_iff.1 f).1
   simp at this;omega
  rw[List.getElem?_take,if_pos p,List.getElem?_drop] at f
  obtain⟨v',g,D⟩:=x (off+k) v f
  refine⟨v',?_,D⟩
  rw[List.getElem?_take,if_pos p,List.getElem?_drop]
  simp only[Array.getElem?_toList]
  rw[<-g];congr 1;omega
theorem zdz (h:Rel Pt ρ m w){x v:LV}(E:VR ρ x x')(g:loadT P t m x=some v) :
  ∃ a v',x'=.pointer (some a)/\(loadVar t a).run P w=.ok v' w/\VR ρ v v':=by
 obtain⟨i,o,rfl,g⟩:=z0v.1 g
 obtain⟨s,D,g⟩:=z9.1 g
 cases E with
 | ptr j=>
  rename_i b F c
  rcases zga D with⟨rfl,f⟩|⟨n,rfl,f,A⟩
  ·obtain⟨v',p,q⟩:=zld h (v:=v) g j
   refine⟨_,v',rfl,?_,q⟩
   unfold loadVar
   rw[Sem.run_bind,z6t f,Result.andThen_ok]
   exact za2 p
  ·obtain⟨l,r,u⟩:=z9.1 (show ob (loadN m i o n) (fun l=>some (.agg l))=some v from g)
   cases u
   obtain⟨vs,p,q,B⟩:=z4s h r j
   refine⟨_,.agg vs.toArray,rfl,?_,.agg (by simpa using B)⟩
   unfold loadVar
   rw[Sem.run_bind,z6t f,Result.andThen_ok]
   simp only[if_true,Sem.run_bind,z03 A,Result.andThen_ok,z4d p q]
   rfl
theorem za6 (h:Rel Pt ρ m w){vs:List LV}{J:Mem}(p:storeCs m i off vs=some J)(B:VRs ρ vs vs')(hf:zn vs=true)(A:ρ i=some (b,s,c)):∃ w',(storeCells ⟨b,s+off,none⟩ vs').run P w=.ok () w'/\Rel Pt ρ J w'/\J.next=m.next:=by
 obtain⟨own,S,e,O,p⟩:=z1q.1 p
 obtain⟨r,p⟩:=za.1 p
 subst r
 obtain⟨U,x,p⟩:=z9.1 p
 cases p
 obtain⟨C,D,fr,hh,j,G,M⟩:=h.cells O A
 obtain⟨j,H⟩:=j rfl
 obtain⟨g1,L,Y⟩:=z2i _ _ _ _ x
 have Q:=B.length
 have g:vs'=[]∨s+off+0+vs'.length<=C.size:=by
  rcases L with rfl|L
  ·cases B;exact .inl rfl
  ·rcases Nat.eq_zero_or_pos vs.length with h0|h0
   ·exact .inl (by apply List.eq_nil_of_length_eq_zero;omega)
   ·obtain⟨v',h1,_⟩:=M (off+vs.length-1) (S[off+vs.length-1]'(by omega)) (List.getElem?_eq_getElem _)
    have:=(Array.getElem?_eq_some_iff.1 h1).1
    exact .inr (by omega)
 obtain⟨w',K,u,E,R,hk,q,F⟩:=z5r P b (s+off) D fr vs' 0 w C (by rw[G];exact j) hh (B.oneCells hf) g
 refine⟨w',u,h.turn O rfl rfl A (o':=.cells K D fr) ⟨K,D,fr,rfl,fun _=>⟨j,H⟩,by omega,fun k v f=>?_⟩ E q F,Mem.next_upd _ _ _⟩
 rw[Y k] at f
 rw[hk]
 by_cases N:off<=k/\k<off+vs.length
 ·rw[if_pos N] at f
  rw[if_pos (by omega)]
  obtain⟨v',V,X⟩:=B.get f
  exact⟨v',by rw[<-V];congr 1;omega,X⟩
 ·rw[if_neg N] at f
  rw[if_neg (by omega)]
  exact M k v f
theorem zja (h:Rel Pt ρ m w){x v:LV}{q:Mem}(G:VR ρ x x')(F:VR ρ v v')(f:storeT P t m x v=some q) :
  ∃ w',(Instr.storeAt t x' v').run P w=.ok () w'/\Rel Pt ρ q w'/\q.next=m.next:=by
 obtain⟨i,o,rfl,f⟩:=z0v.1 f
 obtain⟨n,E,f⟩:=z9.1 f
 obtain⟨j,f⟩:=za.1 f
 obtain⟨g,f⟩:=za.1 f
 cases G with
 | ptr p=>
  have r:=F.cells g
  obtain⟨w',u,A,B⟩:=za6 (P:=P) h f r g p
  refine⟨w',?_,A,B⟩
  have D:v'.cells.size=n:=by
   have:=r.length
   rw[Nat.beq_eq] at j
   simp at this;omega
  unfold Instr.storeAt Instr.sureAddr storeVar
  simp only[Sem.run_bind,Sem.run_pure,Result.andThen_ok,z03 E,D,ne_eq,not_true_eq_false,if_false]
  exact u
end mem
end PvL
end
section
namespace PvL
open Go
variable {z:Int} {n off d:Nat} {v':Value} {t:TypeId} {xs' ys':Array Value}
theorem z2b {a b:IntKind}:kEq a b=true↔a=b:=by cases a<;>cases b<;>first|exact⟨fun _=>rfl,fun _=>rfl⟩|exact⟨fun h=>(by cases h),fun h=>(by cases h)⟩
theorem z4h (a b:Int):ilt a b=decide (a<b):=by
 cases a with
 | ofNat a=>cases b with
  | ofNat b=>
   show Nat.ble (Nat.succ a) b=_
   rw[Bool.eq_iff_iff,Nat.ble_eq];simp;omega
  | negSucc b=>show false=_;symm;simp;omega
 | negSucc a=>cases b with
  | ofNat b=>show true=_;symm;simp;omega
  | negSucc b=>
   show Nat.ble (Nat.succ b) a=_
   rw[Bool.eq_iff_iff,Nat.ble_eq];simp;omega
theorem z4r (a b:Int):ieq a b=(a==b):=by
 cases a with
 | ofNat a=>cases b with
  | ofNat b=>
   show Nat.beq a b=_
   rw[Bool.eq_iff_iff,Nat.beq_eq];simp;omega
  | negSucc b=>show false=_;symm;simp
 | negSucc a=>cases b with
  | ofNat b=>show false=_;symm;simp
  | negSucc b=>
   show Nat.beq a b=_
   rw[Bool.eq_iff_iff,Nat.beq_eq];simp
theorem zdu:izero z=true↔z=0:=by unfold izero;rw[z4r];simp
theorem z3r (k:IntKind)(n:Int):wr k n=k.wrap n:=by
 unfold wr
 cases k<;>first|rfl|skip
 show ifb (inI64 n) n _=_
 cases h:inI64 n with
 | false=>rfl
 | true=>
  show n=_
  rw[IntKind.wrap_i64]
  cases n with
  | ofNat m=>
   have h:Nat.ble m 9223372036854775807=true:=h
   rw[Nat.ble_eq] at h
   rw[show Int.ofNat m=(m:Int) from rfl]
   omega
  | negSucc m=>
   have h:Nat.ble m 9223372036854775807=true:=h
   rw[Nat.ble_eq] at h
   omega
theorem nat?_eq {α:Type}{k:Nat->Option α}{y:α}:nat? z k=some y ↔ ∃ n:Nat,z=n/\k n=some y:=by
 cases z with
 | ofNat n=>
  show k n=some y↔_
  constructor
  ·intro h;exact⟨n,rfl,h⟩
  ·rintro⟨m,f,g⟩
   have f:(n:Int)=m:=f
   have:n=m:=by omega
   subst this;exact g
 | negSucc n=>
  show none=some y↔_
  simp
theorem zv4 {k:IntKind}{v:LV}:mkI k z=some v↔v=.int k z:=by unfold mkI;rw[zfc];simp[eq_comm]
theorem zb7 {b:Bool}{v:LV}:mkB b=some v↔v=.bool b:=by cases b<;>simp[mkB,eq_comm]
theorem zhb {v:LV}:mkN n=some v↔v=.int .i64 n:=by unfold mkN;rw[z19];simp[eq_comm]
theorem zcy (a b:Bool):bEq a b=(a==b):=by cases a<;>cases b<;>rfl
section ops
variable {P:Program} {ρ:Rho} {w:World}
theorem VR.int_inv {k:IntKind}{n:Int}(h:VR ρ (.int k n) v'):v'=.int k n:=by cases h;rfl
theorem VR.bool_inv {b:Bool}(h:VR ρ (.bool b) v'):v'=.bool b:=by cases h;rfl
theorem VR.str_inv {s:ByteArray}(h:VR ρ (.str s) v'):v'=.string s:=by cases h;rfl
theorem VR.agg_inv {c:List LV}(h:VR ρ (.agg c) v'):∃ f,v'=.agg f/\VRs ρ c f.toList:=by cases h with|agg h=>exact⟨_,rfl,h⟩
theorem zrp {f:Int->Int->Bool}{x y v:LV}(h:cmpI f x y=some v):∃ k a b,x=.int k a/\y=.int k b/\v=.bool (f a b):=by
 obtain⟨k,a,rfl,g⟩:=zj.1 h
 obtain⟨r,b,rfl,j⟩:=(zj (v:=y)).1 g
 obtain⟨q,p⟩:=za.1 j
 obtain rfl:=z2b.1 q
 exact⟨k,a,b,rfl,rfl,zb7.1 p⟩
theorem ztu {f:IntKind->Int->Int->Option LV}{x y v:LV}(h:arI f x y=some v):∃ k a b,x=.int k a/\y=.int k b/\f k a b=some v:=by
 obtain⟨k,a,rfl,g⟩:=zj.1 h
 obtain⟨r,b,rfl,j⟩:=(zj (v:=y)).1 g
 obtain⟨q,p⟩:=za.1 j
 obtain rfl:=z2b.1 q
 exact⟨k,a,b,rfl,rfl,p⟩
theorem z3c {xs:List LV}(h:VRs ρ xs xs'.toList){s:Option Nat}(D:aggSz P t=some s){v:LV}(g:oe s (nth xs off) (fun n=>ob (take' n (drop' off xs)) fun a=>some (.agg a))=some v):∃ v',(part t xs' off).run P w=.ok v' w/\VR ρ v v':=by
 rcases zga D with⟨rfl,f⟩|⟨n,rfl,f,u⟩
 ·have g:nth xs off=some v:=g
  rw[z7s] at g
  obtain⟨v',p,j⟩:=h.get g
  refine⟨v',?_,j⟩
  unfold part
  rw[Sem.run_bind,z6t f,Result.andThen_ok]
  simp at p
  simp[p]
 ·obtain⟨a,x,g⟩:=z9.1 (show ob (take' n (drop' off xs)) (fun a=>some (.agg a))=some v from g)
  cases g
  rw[z1r] at x
  obtain⟨p,rfl⟩:=z2p.1 x
  refine⟨.agg (xs'.extract off (off+n)),?_,.agg ?_⟩
  ·unfold part
   rw[Sem.run_bind,z6t f,Result.andThen_ok]
   simp[z03 u]
  ·have B:=h.length
   simp only[List.length_drop] at p
   refine VRs.of_get ?_ fun k v q=>?_
   ·simp at B ⊢;omega
   ·have r:k<n:=by
     have:=(List.getElem?_eq_some_iff.1 q).1
     simp at this;omega
    rw[List.getElem?_take,if_pos r,List.getElem?_drop] at q
    obtain⟨v',j,A⟩:=h.get q
    refine⟨v',?_,A⟩
    simp only[Array.getElem?_toList] at j
    have E:=(Array.getElem?_eq_some_iff.1 j).1
    simp only[Array.getElem?_toList,Array.getElem?_extract]
    rw[if_pos (by omega)]
    exact j
theorem z57 {rec:TypeId->LV->LV->Option Bool}(H:∀ t x y r x' y',rec t x y=some r->VR ρ x x'->VR ρ y y'->(Op.equalIn d t x' y').run P w=.ok r w){xs f:List LV}(F:VRs ρ xs xs'.toList)(G:VRs ρ f ys'.toList){r:Bool}(h:eqPart P rec t off xs f=some r) :
  ∃ a b,(part t xs' off).run P w=.ok a w/\(part t ys' off).run P w=.ok b w/\(Op.equalIn d t a b).run P w=.ok r w:=by
 obtain⟨s,g,h⟩:=z9.1 h
 cases s with
 | none=>
  have h:ob (nth xs off) (fun a=>ob (nth f off) fun b=>rec t a b)=some r:=h
  obtain⟨a,D,h⟩:=z9.1 h
  obtain⟨b,E,h⟩:=z9.1 h
  obtain⟨j,q,u⟩:=z3c (w:=w) F g (v:=a) D
  obtain⟨p,A,B⟩:=z3c (w:=w) G g (v:=b) E
  exact⟨j,p,q,A,H _ _ _ _ _ _ h u B⟩
 | some n=>
  have h:ob (take' n (drop' off xs)) (fun a=>ob (take' n (drop' off f)) fun b=>rec t (.agg a) (.agg b))=some r:=h
  obtain⟨a,D,h⟩:=z9.1 h
  obtain⟨b,E,h⟩:=z9.1 h
  obtain⟨j,q,u⟩:=z3c (w:=w) F g (v:=.agg a) (by show ob (take' n (drop' off xs)) _=_;rw[D];rfl)
  obtain⟨p,A,B⟩:=z3c (w:=w) G g (v:=.agg b) (by show ob (take' n (drop' off f)) _=_;rw[E];rfl)
  exact⟨j,p,q,A,H _ _ _ _ _ _ h u B⟩
theorem zji {x y:Option Bool}{r:Bool}(h:andO x y=some r):(x=some false/\r=false) ∨(x=some true/\y=some r):=by
 obtain⟨b,f,h⟩:=z9.1 h
 cases b with
 | false=>cases h;exact .inl ⟨f,rfl⟩
 | true=>exact .inr ⟨f,h⟩
theorem z4n {rec:TypeId->LV->LV->Option Bool}(A:∀ t x y r x' y',rec t x y=some r->VR ρ x x'->VR ρ y y'->(Op.equalIn d t x' y').run P w=.ok r w){xs j:List LV}(q:VRs ρ xs xs'.toList)(u:VRs ρ j ys'.toList) :
  ∀(fs:List Field) (r:Bool),fieldsEq P rec xs j fs=some r->(Op.eqFields d xs' ys' fs).run P w=.ok r w
 | [],r,h=>by cases h;rfl
 | f::fs,r,h=>by
  have h:ifb (f.name == "_") (fieldsEq P rec xs j fs) (andO (eqPart P rec f.type f.offset xs j) (fieldsEq P rec xs j fs))=some r:=h
  cases p:f.name == "_" with
  | true=>
   rw[p] at h
   have g:f.name= "_":=by simpa using p
   unfold Op.eqFields
   rw[if_neg (by simp[g])]
   exact z4n A q u fs r h
  | false=>
   rw[p] at h
   have g:f.name ≠ "_":=by simpa using p
   unfold Op.eqFields
   rw[if_pos g]
   rcases zji (show andO _ _=some r from h) with⟨B,rfl⟩|⟨B,G⟩
   ·obtain⟨a,b,D,E,F⟩:=z57 A q u B
    simp[D,E,F]
   ·obtain⟨a,b,D,E,F⟩:=z57 A q u B
    have:=z4n A q u fs r G
    simp[D,E,F,this]
theorem zcv {rec:TypeId->LV->LV->Option Bool}(p:∀ t x y r x' y',rec t x y=some r->VR ρ x x'->VR ρ y y'->(Op.equalIn d t x' y').run P w=.ok r w){xs f:List LV}(g:VRs ρ xs xs'.toList)(j:VRs ρ f ys'.toList)(e:TypeId)(n:Nat) :
  ∀(is:List Nat) (r:Bool),arrEq P rec e n xs f is=some r->(Op.eqItems d e n xs' ys' is).run P w=.ok r w
 | [],r,h=>by cases h;rfl
 | i::is,r,h=>by
  unfold Op.eqItems
  rcases zji (show andO (eqPart P rec e (i*n) xs f) (arrEq P rec e n xs f is)=some r from h) with⟨h1,rfl⟩|⟨h1,B⟩
  ·obtain⟨a,b,q,u,A⟩:=z57 p g j h1
   simp[q,u,A]
  ·obtain⟨a,b,q,u,A⟩:=z57 p g j h1
   have:=zcv p g j e n is r B
   simp[q,u,A,this]
theorem zds (h:szOf P t=some n):∃ i,P.info? t=some i/\P.cellsOf t=n:=by
 unfold szOf at h
 cases f:P.info? t with
 | none=>rw[f] at h;cases h
 | some i=>rw[f] at h;cases h;exact⟨i,rfl,by simp[Program.cellsOf,f]⟩
set_option maxHeartbeats 1000000 in
theorem z8y:∀(d:Nat) (t:TypeId) (x y:LV) (r:Bool) (x' y':Value),eqL P d t x y=some r->VR ρ x x'->VR ρ y y'->(Op.equalIn d t x' y').run P w=.ok r w
 | 0,_,_,_,_,_,_,h,_,_=>by cases h
 | d+1,t,x,y,r,x',y',h,g,p=>by
  unfold eqL at h
  cases f:P.underlying t with
  | none=>rw[f] at h;cases h
  | some D=>
   rw[f] at h
   cases D with
   | bool=>
    obtain⟨a,rfl,h⟩:=z1w.1 h
    obtain⟨b,rfl,h⟩:=(z1w (v:=y)).1 h
    cases h
    rw[g.bool_inv,p.bool_inv,zcy]
    exact run_equalIn_bool w d t a b f
   | int q=>
    obtain⟨k,a,rfl,U⟩:=zj.1 h
    obtain⟨k',b,rfl,H⟩:=(zj (v:=y)).1 U
    obtain⟨X,V⟩:=za.1 H
    obtain rfl:=z2b.1 X
    cases V
    rw[g.int_inv,p.int_inv,z4r]
    exact run_equalIn_int w d t k q a b f
   | string=>
    obtain⟨a,rfl,h⟩:=z0g.1 h
    obtain⟨b,rfl,h⟩:=(z0g (v:=y)).1 h
    cases h
    rw[g.str_inv,p.str_inv]
    simp[Op.equalIn,Go.run_underlying f]
   | pointer e=>
    simp only at h
    split at h
    ·rename_i b
     cases h
     cases g
     cases p<;>simp[Op.equalIn,Go.run_underlying f]
    ·cases h
     cases g;cases p
     simp[Op.equalIn,Go.run_underlying f]
    ·rename_i i o j q
     obtain⟨n,J,h⟩:=z9.1 h
     obtain⟨F,S⟩:=za.1 h
     clear h
     simp only[Bool.and_eq_true,Nat.ble_eq] at F
     obtain rfl:=Nat.eq_of_beq_eq_true F.2
     cases S
     cases g with
     | ptr M=>
      cases p with
      | ptr A=>
       rw[M] at A;cases A
       rename_i b s c
       have K:n≠0:=by omega
       simp only[Op.equalIn,Sem.run_bind,Go.run_underlying f,Result.andThen_ok,z03 J,ne_eq,K,not_false_eq_true,if_true,sameAddr,beq_self_eq_true]
       show Result.ok ((⟨b,s+o,none⟩:Addr) ==⟨b,s+q,none⟩) w=_
       congr 1
       rw[Bool.eq_iff_iff]
       simp
    ·cases h
   | interface ms=>
    simp only at h
    split at h
    ·cases h;cases g;cases p;simp[Op.equalIn,Go.run_underlying f]
    ·rename_i R v1 u1 w1
     obtain⟨F,H⟩:=za.1 h
     clear h
     rw[Bool.and_eq_true] at F
     obtain rfl:=Nat.eq_of_beq_eq_true F.1
     have u:=F.2
     unfold cmpT at u
     cases G:P.info? R with
     | none=>rw[G] at u;cases u
     | some N=>
      rw[G] at u
      have u:N.comparable=true:=u
      cases g with
      | iface g=>
       cases p with
       | iface p=>
        have Y:=z8y d R v1 w1 r _ _ H g p
        simp only[Op.equalIn,Sem.run_bind,Go.run_underlying f,Result.andThen_ok,ne_eq,not_true_eq_false,if_false,run_typeInfo (P:=P) (w:=w) G,u,Bool.not_true,Bool.false_eq_true,Y]
    ·cases h
   | slice e=>
    simp only at h
    split at h
    ·cases h
     cases g
     cases p<;>simp[Op.equalIn,Go.run_underlying f]
    ·cases h
     cases g<;>cases p<;>simp[Op.equalIn,Go.run_underlying f]
    ·cases h
   | map k e=>
    simp only at h
    split at h
    ·cases h
     cases g
     cases p<;>simp[Op.equalIn,Go.run_underlying f]
    ·cases h
     cases g;cases p
     simp[Op.equalIn,Go.run_underlying f]
    ·cases h
   | func a b c=>
    simp only at h
    split at h
    ·cases h;cases g;cases p;simp[Op.equalIn,Go.run_underlying f]
    ·cases h;cases g;cases p<;>simp[Op.equalIn,Go.run_underlying f]
    ·cases h;cases g<;>cases p<;>simp[Op.equalIn,Go.run_underlying f]
    ·cases h
   | struct O=>
    obtain⟨xs,rfl,h⟩:=z1b.1 h
    obtain⟨ys,rfl,h⟩:=(z1b (v:=y)).1 h
    obtain⟨xs',rfl,B⟩:=g.agg_inv
    obtain⟨ys',rfl,E⟩:=p.agg_inv
    cases L:P.stoodInHeld t with
    | true=>rw[L] at h;cases h
    | false=>
     rw[L] at h
     have Q:P.fieldsOf t=O:=by simp[Program.fieldsOf,f]
     rw[run_equalIn_struct w d t xs' ys' (by rw[Q];exact f) L,Q]
     exact z4n (z8y d) B E O.toList r h
   | array len e=>
    obtain⟨xs,rfl,h⟩:=z1b.1 h
    obtain⟨ys,rfl,h⟩:=(z1b (v:=y)).1 h
    obtain⟨n,J,h⟩:=z9.1 h
    obtain⟨xs',rfl,B⟩:=g.agg_inv
    obtain⟨ys',rfl,E⟩:=p.agg_inv
    obtain⟨i,G,u⟩:=zds J
    rw[run_equalIn_array w d xs' ys' f G,u]
    exact zcv (z8y d) B E e n _ r h
   | _=>cases h
end ops
end PvL
end
section
namespace PvL
open Go
variable {t:TypeId} {x' y':Value}
section ops
variable {P:Program} {ρ:Rho} {w:World}
theorem z7p (d:Nat)(t:TypeId)(y:LV):eqL P d t .nilIface y=none:=by
 cases d with
 | zero=>rfl
 | succ d=>unfold eqL;cases P.underlying t with
  | none=>rfl
  | some D=>cases D<;>first|rfl|(cases y<;>rfl)
theorem zko (d:Nat)(t:TypeId)(c:List LV)(y:LV):eqL P d t (.tup c) y=none:=by
 cases d with
 | zero=>rfl
 | succ d=>unfold eqL;cases P.underlying t with
  | none=>rfl
  | some D=>cases D<;>first|rfl|(cases y<;>rfl)
theorem zc3 (d:Nat)(t:TypeId)(y:LV):eqL P d t .unk y=none:=by
 cases d with
 | zero=>rfl
 | succ d=>unfold eqL;cases P.underlying t with
  | none=>rfl
  | some D=>cases D<;>first|rfl|(cases y<;>rfl)
theorem z1o {op:BinOp}{ox g:Operand}{a b:Value}(h1:a≠.nilIface)(h:∀ xs p,a=.agg xs->b=.agg p->P.eqGuardType P.depth t=false) :
  (eqGuard op t ox g a b).run P w=.ok () w:=by
 have f:∀ op,op=BinOp.eql∨op=BinOp.neq->(eqGuard op t ox g a b).run P w=.ok () w:=by
  intro op j
  unfold eqGuard
  rcases j with rfl|rfl<;>simp only[Bool.not_true,Bool.false_eq_true,if_false]
  all_goals
   cases a<;>first
    | exact absurd rfl h1
    | skip
   all_goals cases b<;>first
    | rfl
    | skip
   all_goals simp[h _ _ rfl rfl]
 cases op<;>first|exact f _ (.inl rfl)|exact f _ (.inr rfl)|rfl
theorem zkp {x y:LV}{r:Bool}(h:eqV P t x y=some r)(p:VR ρ x x')(u:VR ρ y y') :
  (Op.equal t x' y').run P w=.ok r w/\x'≠.nilIface /\ ∀ xs q,x'=.agg xs->y'=.agg q->P.eqGuardType P.depth t=false:=by
 have g:ifb (ifb (isAggL x) (P.eqGuardType P.depth t) false) none (eqL P Op.maxDepth t x y)=some r:=h
 cases j:ifb (isAggL x) (P.eqGuardType P.depth t) false with
 | true=>rw[j] at g;cases g
 | false=>
  rw[j] at g
  have f:eqL P Op.maxDepth t x y=some r:=g
  refine⟨z8y _ _ _ _ _ _ _ f p u,fun e=>?_,fun xs q e _=>?_⟩
  ·subst e
   cases p with
   | nilIface=>rw[z7p] at f;cases f
   | unk=>rw[zc3] at f;cases f
  ·subst e
   cases p with
   | agg _=>exact j
   | unk=>rw[zc3] at f;cases f
def Bin (P:Program)(ρ:Rho)(w:World)(op:BinOp)(t:TypeId)(x' y':Value)(v:LV):Prop :=
 ∀ ox oy:Operand,∃ v',(do eqGuard op t ox oy x' y';binOp op t x' y':Sem Value).run P w=.ok v' w/\VR ρ v v'
theorem zjm {op:BinOp}{k:IntKind}{a b:Int}{v:LV}{v':Value}(h:(binOp op t (.int k a) (.int k b)).run P w=.ok v' w)(f:VR ρ v v') :
  Bin P ρ w op t (.int k a) (.int k b) v:=fun ox g=>⟨v',by
 rw[Sem.run_bind,z1o (by simp) (by simp)];exact h,f⟩
theorem z25 {op:BinOp}{f:IntKind->Int->Int->Option LV}{x y v:LV}(h:arI f x y=some v)(q:VR ρ x x')(r:VR ρ y y')(hf:∀ k a b v,f k a b=some v->∃ v',(binOp op t (.int k a) (.int k b)).run P w=.ok v' w/\VR ρ v v'):Bin P ρ w op t x' y' v:=by
 obtain⟨k,a,b,rfl,rfl,g⟩:=ztu h
 rw[q.int_inv,r.int_inv]
 obtain⟨v',j,p⟩:=hf k a b v g
 exact zjm j p
theorem z73 {op:BinOp}{f:Int->Int->Bool}{x y v:LV}(h:cmpI f x y=some v)(g:VR ρ x x')(j:VR ρ y y')(hf:∀ k a b,(binOp op t (.int k a) (.int k b)).run P w=.ok (.bool (f a b)) w):Bin P ρ w op t x' y' v:=by
 obtain⟨k,a,b,rfl,rfl,rfl⟩:=zrp h
 rw[g.int_inv,j.int_inv]
 exact zjm (hf k a b) (.bool _)
theorem z3b {k:IntKind}{z:Int}{v:LV}(h:mkI k z=some v):VR ρ v (.int k z):=by rw[zv4.1 h];exact .int _ _
theorem znx {x y v:LV}(h:eqOp P t x y=some v)(g:VR ρ x x')(B:VR ρ y y'):Bin P ρ w .eql t x' y' v:=by
 unfold eqOp at h
 cases p:isIntL x with
 | true=>
  rw[p] at h
  exact z73 (show cmpI ieq x y=some v from h) g B fun k a b=>by simp[binOp,Op.intCmp,z4r]
 | false=>
  rw[p] at h
  cases A:isStrL x with
  | true=>
   rw[A] at h
   obtain⟨a,rfl,j⟩:=z0g.1 (show asStr x (fun a=>asStr y fun b=>mkB (a==b))=some v from h)
   obtain⟨b,rfl,M⟩:=(z0g (v:=y)).1 j
   rw[g.str_inv,B.str_inv,zb7.1 M]
   intro ox N
   exact⟨.bool (a==b),by rw[Sem.run_bind,z1o (by simp) (by simp)];simp[binOp,Op.stringOp];exact(beq_toListBytes a b).symm,.bool _⟩
  | false=>
   rw[A] at h
   obtain⟨r,f,j⟩:=z9.1 (show ob (eqV P t x y) mkB=some v from h)
   rw[zb7.1 j]
   obtain⟨J,K,L⟩:=zkp (w:=w) f g B
   intro ox N
   refine⟨.bool r,?_,.bool _⟩
   rw[Sem.run_bind,z1o K L,Result.andThen_ok]
   have D:∀ z:Value,(∀ k n,z≠.int k n)->(∀ s,z≠.string s)->(∀ k b,z≠.float k b)->(∀ k a b,z≠.complex k a b)->(Op.equal t z y').run P w=.ok r w->(binOp .eql t z y').run P w=.ok (.bool r) w:=by
    intro z E F G H hz
    cases z<;>first
     | exact absurd rfl (E _ _)
     | exact absurd rfl (F _)
     | exact absurd rfl (G _ _)
     | exact absurd rfl (H _ _ _)
     |(simp only[binOp];simp[hz])
   have u:x≠.unk:=fun e=>by
    subst e
    rw[show eqV P t .unk y=none from by unfold eqV;rw[zc3];cases(ifb (isAggL LV.unk) (P.eqGuardType P.depth t) false)<;>rfl] at f;cases f
   have q:∀ c,x≠.tup c:=fun c e=>by
    subst e
    rw[show eqV P t (.tup c) y=none from by unfold eqV;rw[zko];cases(ifb (isAggL (LV.tup c)) (P.eqGuardType P.depth t) false)<;>rfl] at f;cases f
   cases g<;>first
    |(cases p;done)
    |(cases A;done)
    | exact absurd rfl (q _)
    | exact absurd rfl u
    |(exact D _ (by intros;simp) (by intros;simp) (by intros;simp) (by intros;simp) J)
theorem zoa {x y v:LV}(h:neOp P t x y=some v)(g:VR ρ x x')(B:VR ρ y y'):Bin P ρ w .neq t x' y' v:=by
 unfold neOp at h
 cases p:isIntL x with
 | true=>
  rw[p] at h
  exact z73 (show cmpI (fun a b=>!(ieq a b)) x y=some v from h) g B fun k a b=>by simp[binOp,Op.intCmp,z4r,bne]
 | false=>
  rw[p] at h
  cases A:isStrL x with
  | true=>
   rw[A] at h
   obtain⟨a,rfl,j⟩:=z0g.1 (show asStr x (fun a=>asStr y fun b=>mkB (!(a==b)))=some v from h)
   obtain⟨b,rfl,M⟩:=(z0g (v:=y)).1 j
   rw[g.str_inv,B.str_inv,zb7.1 M]
   intro ox N
   exact⟨.bool (!(a==b)),by rw[Sem.run_bind,z1o (by simp) (by simp)];simp[binOp,Op.stringOp];exact(beq_toListBytes a b).symm,.bool _⟩
  | false=>
   rw[A] at h
   obtain⟨r,f,j⟩:=z9.1 (show ob (eqV P t x y) (fun b=>mkB (!b))=some v from h)
   rw[zb7.1 j]
   obtain⟨J,K,L⟩:=zkp (w:=w) f g B
   intro ox N
   refine⟨.bool (!r),?_,.bool _⟩
   rw[Sem.run_bind,z1o K L,Result.andThen_ok]
   have D:∀ z:Value,(∀ k n,z≠.int k n)->(∀ s,z≠.string s)->(∀ k b,z≠.float k b)->(∀ k a b,z≠.complex k a b)->(Op.equal t z y').run P w=.ok r w->(binOp .neq t z y').run P w=.ok (.bool (!r)) w:=by
    intro z E F G H hz
    cases z<;>first
     | exact absurd rfl (E _ _)
     | exact absurd rfl (F _)
     | exact absurd rfl (G _ _)
     | exact absurd rfl (H _ _ _)
     |(simp only[binOp];simp[hz])
   have u:x≠.unk:=fun e=>by
    subst e
    rw[show eqV P t .unk y=none from by unfold eqV;rw[zc3];cases(ifb (isAggL LV.unk) (P.eqGuardType P.depth t) false)<;>rfl] at f;cases f
   have q:∀ c,x≠.tup c:=fun c e=>by
    subst e
    rw[show eqV P t (.tup c) y=none from by unfold eqV;rw[zko];cases(ifb (isAggL (LV.tup c)) (P.eqGuardType P.depth t) false)<;>rfl] at f;cases f
   cases g<;>first
    |(cases p;done)
    |(cases A;done)
    | exact absurd rfl (q _)
    | exact absurd rfl u
    |(exact D _ (by intros;simp) (by intros;simp) (by intros;simp) (by intros;simp) J)
theorem zeg (n:Nat):(((2^n:Nat):Int))=(2:Int)^n:=by simp
theorem zn1 {op:BinOp}{x y v:LV}(h:binL P op t x y=some v)(j:VR ρ x x')(p:VR ρ y y'):Bin P ρ w op t x' y' v:=by
 cases op with
 | add=>
  have h:addV x y=some v:=h
  unfold addV at h
  cases D:isIntL x with
  | true=>
   rw[D] at h
   exact z25 (show arI (fun k a b=>mkI k (wr k (a+b))) x y=some v from h) j p fun k a b v g=>⟨_,by simp[binOp,Op.intArith];rfl,by rw[z3r] at g;exact z3b g⟩
  | false=>
   rw[D] at h
   obtain⟨a,rfl,r⟩:=z0g.1 (show asStr x (fun a=>asStr y fun b=>guard' (Nat.ble (a.size+b.size) 140737488355328) (some (.str (a++b))))=some v from h)
   obtain⟨b,rfl,u⟩:=(z0g (v:=y)).1 r
   obtain⟨B,q⟩:=za.1 u
   cases q
   rw[Nat.ble_eq] at B
   rw[j.str_inv,p.str_inv]
   intro ox E
   exact⟨.string (a++b),by rw[Sem.run_bind,z1o (by simp) (by simp)];simp[binOp,Op.stringOp];omega,.str _⟩
 | sub=>exact z25 (f:=fun k a b=>mkI k (wr k (a-b))) h j p fun k a b v g=>⟨_,by simp[binOp,Op.intArith];rfl,by rw[z3r] at g;exact z3b g⟩
 | mul=>exact z25 (f:=fun k a b=>mkI k (wr k (a*b))) h j p fun k a b v g=>⟨_,by simp[binOp,Op.intArith];rfl,by rw[z3r] at g;exact z3b g⟩
 | quo=>
  refine z25 (f:=fun k a b=>ifb (izero b) none (mkI k (wr k (a.tdiv b)))) h j p fun k a b v g=>?_
  cases hz:izero b with
  | true=>rw[hz] at g;cases g
  | false=>
   rw[hz] at g
   have A:b≠0:=fun e=>by rw[zdu.2 e] at hz;cases hz
   exact⟨_,by simp[binOp,Op.intDiv,A];rfl,by rw[z3r] at g;exact z3b g⟩
 | rem=>
  refine z25 (f:=fun k a b=>ifb (izero b) none (mkI k (a.tmod b))) h j p fun k a b v g=>?_
  cases hz:izero b with
  | true=>rw[hz] at g;cases g
  | false=>
   rw[hz] at g
   have A:b≠0:=fun e=>by rw[zdu.2 e] at hz;cases hz
   exact⟨_,by simp[binOp,Op.intDiv,A],z3b g⟩
 | and=>exact z25 (f:=bAnd) h j p fun k a b v g=>⟨_,by simp only[binOp,Op.intBits,ne_eq,not_true_eq_false,if_false];rfl,by unfold bAnd at g;rw[z3r] at g;exact z3b g⟩
 | or=>exact z25 (f:=bOr) h j p fun k a b v g=>⟨_,by simp only[binOp,Op.intBits,ne_eq,not_true_eq_false,if_false];rfl,by unfold bOr at g;rw[z3r] at g;exact z3b g⟩
 | xor=>exact z25 (f:=bXor) h j p fun k a b v g=>⟨_,by simp only[binOp,Op.intBits,ne_eq,not_true_eq_false,if_false];rfl,by unfold bXor at g;rw[z3r] at g;exact z3b g⟩
 | andNot=>exact z25 (f:=bAndNot) h j p fun k a b v g=>⟨_,by simp only[binOp,Op.intBits,ne_eq,not_true_eq_false,if_false];rfl,by unfold bAndNot at g;rw[z3r] at g;exact z3b g⟩
 | shl=>
  obtain⟨k,a,rfl,r⟩:=zj.1 (show shlI x y=some v from h)
  obtain⟨F,b,rfl,u⟩:=(zj (v:=y)).1 r
  obtain⟨n,rfl,q⟩:=nat?_eq.1 u
  rw[j.int_inv,p.int_inv]
  intro ox E
  rw[z3r,zeg] at q
  refine⟨_,?_,z3b q⟩
  rw[Sem.run_bind,z1o (by simp) (by simp)]
  rw[Result.andThen_ok]
  simp only[binOp,Op.shift]
  rw[if_neg (by omega)]
  rfl
 | shr=>
  obtain⟨k,a,rfl,r⟩:=zj.1 (show shrI x y=some v from h)
  obtain⟨F,b,rfl,u⟩:=(zj (v:=y)).1 r
  obtain⟨n,rfl,q⟩:=nat?_eq.1 u
  rw[j.int_inv,p.int_inv]
  intro ox E
  rw[zeg] at q
  refine⟨_,?_,z3b q⟩
  rw[Sem.run_bind,z1o (by simp) (by simp)]
  rw[Result.andThen_ok]
  simp only[binOp,Op.shift]
  rw[if_neg (by omega)]
  rfl
 | eql=>exact znx h j p
 | neq=>exact zoa h j p
 | lss=>exact z73 (f:=ilt) h j p fun k a b=>by simp[binOp,Op.intCmp,z4h]
 | leq=>
  exact z73 (f:=fun a b=>!(ilt b a)) h j p fun k a b=>by
   simp only[binOp,Op.intCmp,z4h,ne_eq,not_true_eq_false,if_false]
   show Result.ok (Value.bool (decide (a<=b))) w=_
   congr 2;rw[Bool.eq_iff_iff];simp
 | gtr=>exact z73 (f:=fun a b=>ilt b a) h j p fun k a b=>by simp[binOp,Op.intCmp,z4h]
 | geq=>
  exact z73 (f:=fun a b=>!(ilt a b)) h j p fun k a b=>by
   simp only[binOp,Op.intCmp,z4h,ne_eq,not_true_eq_false,if_false]
   show Result.ok (Value.bool (decide (a>=b))) w=_
   congr 2;rw[Bool.eq_iff_iff];simp
theorem zt6 {op:UnOp}{x v:LV}(h:unL op x=some v)(g:VR ρ x x'):∃ v',(Op.unary op x').run P w=.ok v' w/\VR ρ v v':=by
 cases op with
 | neg=>
  obtain⟨k,a,rfl,f⟩:=zj.1 (show asInt x (fun k n=>mkI k (wr k (0-n)))=some v from h)
  rw[g.int_inv]
  rw[z3r] at f
  exact⟨_,by simp only[Op.unary,Op.intArith];rfl,z3b f⟩
 | xor=>
  obtain⟨k,a,rfl,f⟩:=zj.1 (show asInt x (fun k n=>bXor k (if k.signed then -1 else k.max) n)=some v from h)
  rw[g.int_inv]
  unfold bXor at f
  rw[z3r] at f
  exact⟨_,by simp only[Op.unary,Op.intBits];rfl,z3b f⟩
 | not=>
  obtain⟨b,rfl,f⟩:=z1w.1 (show asBool x (fun b=>mkB (!b))=some v from h)
  rw[g.bool_inv,zb7.1 f]
  exact⟨_,rfl,.bool _⟩
 | plus=>cases h
theorem z8s {s d:TypeId}{x v:LV}(h:convL P s d x=some v)(p:VR ρ x x'):∃ v',(convert s d x').run P w=.ok v' w/\VR ρ v v':=by
 unfold convL at h
 split at h
 ·rename_i S k j g
  obtain⟨q,n,rfl,f⟩:=zj.1 h
  rw[p.int_inv]
  rw[z3r] at f
  refine⟨_,?_,z3b f⟩
  unfold convert
  simp only[Sem.run_bind,Go.run_underlying j,Go.run_underlying g,Result.andThen_ok]
  rfl
 ·cases h
 ·rename_i S _ j g
  obtain⟨q,rfl,f⟩:=z0g.1 h
  cases f
  rw[p.str_inv]
  refine⟨_,?_,.str _⟩
  unfold convert
  simp only[Sem.run_bind,Go.run_underlying j,Go.run_underlying g,Result.andThen_ok]
  rfl
 ·cases h
end ops
end PvL
end
section
namespace PvL
open Go
section aggs
variable {P:Program} {ρ:Rho} {w:World}
def PR(ρ:Rho):List (Nat×LV)->List (Nat×Value)->Prop
 | [],[]=>True
 | x::xs,y::f=>x.1=y.1/\VR ρ x.2 y.2/\PR ρ xs f
 | _,_=>False
theorem z91{T:Tm}{a:Act}(h:TR ρ T a.tmps){xs:List (Nat×Operand)}{vs:List (Nat×LV)}(f:evParts T xs=some vs):PR ρ vs (xs.map fun x=>(x.1,a.eval x.2)):=by
 induction xs generalizing vs with
 | nil=>cases f;trivial
 | cons x xs p=>
  obtain⟨i,x⟩:=x
  obtain⟨v,j,f⟩:=z9.1 (show ob (ev T x) _=some vs from f)
  obtain⟨vs',g,f⟩:=z9.1 f
  cases f
  exact⟨rfl,zu h j,p g⟩
theorem zks(off:Nat):∀(vs:List Value) (j:Nat) (C:Array Value),
  ((vs.zipIdx j).foldl (fun cs (x:Value×Nat)=>cs.setIfInBounds (off+x.2) x.1) C).size=C.size /\
  ∀ k,((vs.zipIdx j).foldl (fun cs (x:Value×Nat)=>cs.setIfInBounds (off+x.2) x.1) C)[k]? =
   if off+j<=k/\k<off+j+vs.length/\k<C.size then vs[k-(off+j)]? else C[k]?:=by
 intro vs
 induction vs with
 | nil=>intro j C;exact⟨rfl,fun k=>by rw[if_neg (fun h=>by simp at h;omega)];rfl⟩
 | cons v vs u=>
  intro j C
  simp only[List.zipIdx_cons,List.foldl_cons]
  obtain⟨q,r⟩:=u (j+1) (C.setIfInBounds (off+j) v)
  refine⟨by rw[q];simp,fun k=>?_⟩
  rw[r k]
  simp only[Array.size_setIfInBounds,List.length_cons]
  by_cases p:k=off+j
  ·subst p
   rw[if_neg (by omega)]
   by_cases f:off+j<C.size
   ·rw[if_pos (by omega),Array.getElem?_setIfInBounds_self_of_lt f];simp
   ·rw[if_neg (by omega)]
    rw[Array.getElem?_eq_none (by simpa using Nat.le_of_not_lt f),Array.getElem?_eq_none (Nat.le_of_not_lt f)]
  ·rw[Array.getElem?_setIfInBounds_ne (Ne.symm p)]
   by_cases g:off+(j+1)<=k/\k<off+(j+1)+vs.length/\k<C.size
   ·rw[if_pos g,if_pos (by omega),show k-(off+j)=(k-(off+(j+1)))+1 from by omega,List.getElem?_cons_succ]
   ·rw[if_neg g,if_neg (by omega)]
theorem z84{pl pl':Nat->Option (Nat×Nat)}(u:∀ i p,pl i=some p->pl' i=some p) :
  ∀(H:List (Nat×LV)) (g:List (Nat×Value)) (cs r:List LV) (C:Array Value),PR ρ H g->VRs ρ cs C.toList->fillL pl H cs=some r ->
   ∃ N,Instr.fill pl' C g=some N/\VRs ρ r N.toList
 | [],[],cs,r,C,_,F,h=>by cases h;exact⟨C,rfl,F⟩
 |(i,v)::H,(i',v')::g,cs,r,C,j,F,h=>by
  obtain⟨hi,hv,j⟩:=j
  have hi:i=i':=hi
  subst hi
  obtain⟨⟨off,size⟩,A,X⟩:=z9.1 (show ob (pl i) _=some r from h)
  obtain⟨f,Y⟩:=za.1 (show guard' (Nat.beq v.cells.length size&&Nat.ble 1 size) _=some r from X)
  obtain⟨K,h3⟩:=za.1 Y
  obtain⟨c,B,h4⟩:=z9.1 h3
  rw[Bool.and_eq_true,Nat.beq_eq,Nat.ble_eq] at f
  obtain⟨f,R⟩:=f
  have D:=VR.cells hv K
  have L:=D.length
  obtain⟨g1,E,V⟩:=z2i _ _ _ _ B
  have J:=F.length
  have M:v'.cells.size=size:=by simp at L;omega
  have Q:cs.length=C.size:=by simpa using J
  have G:off+v'.cells.size<=C.size:=by
   rcases E with E|E
   ·rw[E] at f;simp at f;omega
   ·omega
  unfold Instr.fill
  rw[u i _ A]
  simp only
  ·rw[if_neg (by simp[M];omega)]
   obtain⟨S,U⟩:=zks off v'.cells.toList 0 C
   refine z84 u H g c r _ j ?_ h4
   rw[<-Array.foldl_toList]
   refine VRs.of_get ?_ fun k x q=>?_
   ·simp only[Array.length_toList,Array.toList_zipIdx];rw[S];omega
   ·rw[V k] at q
    simp only[Array.getElem?_toList,Array.toList_zipIdx]
    rw[U k]
    by_cases O:off<=k/\k<off+v.cells.length
    ·rw[if_pos O] at q
     rw[if_pos (by simp at L ⊢;omega)]
     exact D.get q
    ·rw[if_neg O] at q
     rw[if_neg (by simp at L ⊢;omega)]
     have:=F.get q
     simpa using this
 | [],_::_,_,_,_,j,_,_=>j.elim
 | _::_,[],_,_,_,j,_,_=>j.elim
theorem z7q{pl:Nat->Option (Nat×Nat)}:∀(g:List (Nat×LV)) (cs c:List LV),fillL pl g cs=some c->c.length=cs.length
 | [],cs,c,h=>by cases h;rfl
 |(i,v)::g,cs,c,h=>by
  obtain⟨⟨off,size⟩,p,h1⟩:=z9.1 (show ob (pl i) _=some c from h)
  obtain⟨j,q⟩:=za.1 (show guard' (Nat.beq v.cells.length size&&Nat.ble 1 size) _=some c from h1)
  obtain⟨x,r⟩:=za.1 q
  obtain⟨A,f,u⟩:=z9.1 r
  rw[z7q g _ _ u,(z2i _ _ _ _ f).1]
theorem zsj(l:List (Nat×Nat))(n:Nat):nthP l n=l[n]?:=by
 induction l generalizing n with
 | nil=>simp[nthP]
 | cons a l f=>cases n with
  | zero=>rfl
  | succ n=>show nthP l n=_;rw[f];simp
theorem zfp{fs:List Field}{l:List (Nat×Nat)}(h:placesL P fs=some l):(fs.mapM (fun f=>do pure (f.offset,<- Go.sizeOf f.type):Field->Sem (Nat×Nat))).run P w=.ok l w:=by
 induction fs generalizing l with
 | nil=>cases h;rfl
 | cons f fs ih=>
  obtain⟨n,hn,h⟩:=z9.1 (show ob (szOf P f.type) _=some l from h)
  obtain⟨l',hl',h⟩:=z9.1 h
  cases h
  rw[List.mapM_cons]
  have ih':=ih hl'
  simp[z03 hn]
  simp at ih'
  rw[ih'];rfl
theorem z3d{t:TypeId}{z:LV}(h:zeroL P t=some z):∃ v,(zeroValue t).run P w=.ok v w/\VR ρ z v/\VRs ρ z.cells v.cells.toList/\zn z.cells=true:=by
 obtain⟨v,j,f,g⟩:=zce (w:=w) ρ h
 exact⟨v,j,f,f.cells g,g⟩
theorem zi0{t:TypeId}{ps:List (Nat×LV)}{ps':List (Nat×Value)}{v:LV}(hp:PR ρ ps ps')(h:buildL P t ps=some v) :
  ∃ v',(Instr.build t ps'.toArray).run P w=.ok v' w/\VR ρ v v':=by
 obtain⟨z,hz,h1⟩:=z9.1 h
 obtain⟨pl,hpl,h2⟩:=z9.1 h1
 obtain⟨c,hc,h3⟩:=z9.1 h2
 cases h3
 obtain⟨zv,hz1,hz2,hzc,hzf⟩:=z3d (w:=w) (ρ:=ρ) hz
 unfold partPl at hpl
 split at hpl
 ·rename_i fs hu
  obtain⟨l,hl,hpl⟩:=z9.1 hpl
  cases hpl
  ·obtain⟨C',hf,hv⟩:=z84 (ρ:=ρ) (pl:=nthP l) (pl':=(l.toArray[·]?)) (fun i p hp=>by rw[zsj] at hp;simpa using hp) ps ps' _ _ _ hp hzc hc
   refine⟨.agg C',?_,.agg hv⟩
   unfold Instr.build
   have hm:=zfp (w:=w) hl
   simp only[Sem.run_bind,hz1,Result.andThen_ok,Go.run_underlying hu]
   rw[show(fs.mapM (fun f=>do pure (f.offset,<- Go.sizeOf f.type):Field->Sem (Nat×Nat))).run P w=.ok l.toArray w from by
    rw[Array.mapM_eq_mapM_toList,Sem.run_map,hm];rfl]
   simp only[Result.andThen_ok]
   rw[hf];rfl
 ·rename_i len e hu
  obtain⟨n,hn,hpl⟩:=z9.1 hpl
  cases hpl
  ·obtain⟨C',hf,hv⟩:=z84 (ρ:=ρ) (pl:=fun i=>some (i*n,n)) (pl':=fun i=>some (i*n,n)) (fun i p hp=>hp) ps ps' _ _ _ hp hzc hc
   refine⟨.agg C',?_,.agg hv⟩
   unfold Instr.build
   simp only[Sem.run_bind,hz1,Result.andThen_ok,Go.run_underlying hu,z03 hn]
   rw[hf];rfl
 ·cases hpl
end aggs
end PvL
end
section
namespace PvL
open Go
variable {t e:TypeId} {C Z:Array Value}
def Same (ρ f:Rho)(lo hi:Nat):Prop:=RLe ρ f /\ ∀ i,(i<lo∨hi<=i)->f i=ρ i
def Fresh (ρ:Rho)(lo hi:Nat):Prop:=∀ i,lo<=i->i<hi->ρ i=none
theorem Same.refl (ρ:Rho)(lo hi:Nat):Same ρ ρ lo hi:=⟨RLe.refl ρ,fun _ _=>rfl⟩
theorem Same.upd1 {ρ:Rho}{i:Nat}{x:Nat×Nat×Nat}(h:ρ i=none):Same ρ (upd1 ρ i x) i (i+1) :=
 ⟨RLe.upd1 h,fun j f=>by unfold PvL.upd1;rw[if_neg (by omega)]⟩
def Gives (P:Program)(Pt:Prot)(ρ:Rho)(m:Mem)(w:World)(s:Sem Value)(v:LV)(g:Mem):Prop :=
 ∃ f v' h,s.run P w=.ok v' h/\Same ρ f m.next g.next/\VR f v v'/\Rel Pt f g h
section mem
variable {P:Program} {Pt:Prot} {ρ:Rho} {m:Mem} {w:World}
theorem Gives.pure {s:Sem Value}{v:LV}{v':Value}(h:Rel Pt ρ m w)(f:s.run P w=.ok v' w)(g:VR ρ v v'):Gives P Pt ρ m w s v m :=
 ⟨ρ,v',w,f,Same.refl _ _ _,g,h⟩
theorem z09 (ρ:Rho)(i:Nat)(x:Nat×Nat×Nat):upd1 ρ i x i=some x:=by unfold upd1;rw[if_pos rfl]
theorem z9w (h:plainT t=true):TyR t t 0:=.inl ⟨by unfold plainT at h;rw[Nat.ble_eq] at h;exact h,rfl,rfl⟩
theorem zgb {t s:Nat}:TyR (apE t) t s:=.inr rfl
theorem z4y (h:Rel Pt ρ m w)(hf:ρ m.next=none){cs:List LV}{e':TypeId}(f:CellsR ρ cs C 0)(g:TyR e e' 0) :
  Rel Pt (upd1 ρ m.next (w.heap.size,0,C.size)) (m.push (.cells true cs e)) { w with heap:=w.heap.push (.cells C e') } :=
 h.alloc hf rfl ⟨C,e',(0,0),rfl,fun _=>⟨.inl rfl,g⟩,rfl,f⟩
theorem VRs.cellsR {cs:List LV}(h:VRs ρ cs C.toList):CellsR ρ cs C 0:=fun k v f=>by
 obtain⟨v',e,g⟩:=h.get f
 exact⟨v',by simpa using e,g⟩
theorem VRs.cellsR_append {cs:List LV}{D:Array Value}(h:VRs ρ cs C.toList):CellsR ρ cs (C++D) 0:=fun k v f=>by
 obtain⟨v',e,g⟩:=h.get f
 refine⟨v',?_,g⟩
 simp only[Array.getElem?_toList] at e
 have:=(Array.getElem?_eq_some_iff.1 e).1
 rw[Nat.zero_add,Array.getElem?_append_left this];exact e
theorem zb9 {v:LV}{v':Value}(h:Rel Pt ρ m w)(hf:ρ m.next=none)(hv:VRs ρ v.cells v'.cells.toList)(ht:plainT t=true) :
  Gives P Pt ρ m w (do pure (.pointer (some (<- newVar t v'))):Sem Value) (.ptr (some (m.next,0))) (m.push (.cells true v.cells t)):=by
 refine⟨_,.pointer (some ⟨w.heap.size,0+0,none⟩),_,?_,Same.upd1 hf,.ptr (z09 _ _ _),z4y h hf (e':=t) (C:=v'.cells) hv.cellsR (z9w ht)⟩
 simp[newVar,newRow]
theorem z5d (n:Nat)(z:List LV):(rep n z).length=n*z.length:=by
 induction n with
 | zero=>show([]:List LV).length=_;simp
 | succ n f=>show(z++rep n z).length=_;rw[List.length_append,f,Nat.succ_mul];omega
theorem zm3 (z:List LV)(hz:0<z.length):∀(n k:Nat),k<n*z.length->(rep n z)[k]?=z[k%z.length]?
 | 0,k,h=>by simp at h
 | n+1,k,h=>by
  show(z++rep n z)[k]?=_
  by_cases f:k<z.length
  ·rw[List.getElem?_append_left f,Nat.mod_eq_of_lt f]
  ·rw[List.getElem?_append_right (by omega),zm3 z hz n (k-z.length) (by rw[Nat.succ_mul] at h;omega)]
   conv=>rhs;rw[show k=(k-z.length)+z.length from by omega,Nat.add_mod_right]
theorem zm4 {z:List LV}(h:VRs ρ z Z.toList)(hz:0<z.length)(n N:Nat)(q:n<=N) :
  VRs ρ (rep n z) (((Array.range (N*Z.size)).map (Z[· % Z.size]!)).toList.take (n*z.length)):=by
 have j:z.length=Z.size:=by simpa using h.length
 have p:n*z.length<=N*Z.size:=by rw[<-j];exact Nat.mul_le_mul_right _ q
 refine VRs.of_get ?_ fun k v g=>?_
 ·rw[z5d];simp;omega
 ·have f:=(List.getElem?_eq_some_iff.1 g).1
  rw[z5d] at f
  rw[zm3 z hz n k f] at g
  obtain⟨v',e,r⟩:=h.get g
  refine⟨v',?_,r⟩
  rw[List.getElem?_take,if_pos f]
  simp only[Array.toList_map,Array.toList_range,List.getElem?_map,List.getElem?_range (show k<N*Z.size by omega),Option.map_some]
  rw[j] at e
  simp only[Array.getElem?_toList] at e
  rw[getElem!_def,e]
theorem zot {z:List LV}(h:VRs ρ z Z.toList)(hz:0<z.length)(n:Nat):VRs ρ (rep n z) ((Array.range (n*Z.size)).map (Z[· % Z.size]!)).toList:=by
 have:=zm4 h hz n n (Nat.le_refl _)
 rw[List.take_of_length_le] at this
 ·exact this
 ·have f:z.length=Z.size:=by simpa using h.length
  simp[f]
theorem z24 (h:z16 P t=some e):P.underlying t=some (.slice e):=by
 unfold z16 at h
 split at h
 ·cases h;assumption
 ·cases h
theorem z8g {len:Nat}{ps:List (Nat×LV)}{r:R1}(h:buildSliceL P t len ps m rvm=some r) :
  ∃ v b,r=.val v (m.push b) /\ ∀(Pt:Prot) (ρ:Rho) (w:World) (ps':List (Nat×Value)),PR ρ ps ps'->Rel Pt ρ m w->ρ m.next=none ->
   Gives P Pt ρ m w (Instr.buildSlice t len ps'.toArray) v (m.push b):=by
 obtain⟨e,he,h1⟩:=z9.1 h
 obtain⟨n,hn,h2⟩:=z9.1 h1
 obtain⟨z,hz,h3⟩:=z9.1 h2
 obtain⟨hg,h4⟩:=za.1 h3
 obtain⟨c,hc,h5⟩:=z9.1 h4
 rw[Mem.new_eq] at h5
 cases h5
 simp only[Bool.and_eq_true,Nat.ble_eq,Nat.beq_eq] at hg
 obtain⟨hgt,hg1,hg2,hg3⟩:=hg
 refine⟨_,_,rfl,fun Pt ρ w ps' hp hrel hf=>?_⟩
 have hu:=z24 he
 obtain⟨zv,hz1,hz2,hzc,hzf⟩:=z3d (w:=w) (ρ:=ρ) hz
 have hzl:z.cells.length=zv.cells.size:=by simpa using hzc.length
 have hr:=zot hzc (by omega) len
 obtain⟨C',hfill,hv⟩:=z84 (ρ:=ρ) (pl:=fun i=>some (i*n,n)) (pl':=fun i=>some (i*n,n)) (fun i p hp=>hp) ps ps' _ _ _ hp hr hc
 have hlen:C'.size=len*n:=by
  have h1:=hv.length
  have:c.length=(rep len z.cells).length:=z7q _ _ _ hc
  rw[z5d] at this
  simp at h1;rw[hg3] at this;omega
 refine⟨_,.slice (some ⟨w.heap.size,0+0,none⟩) len len,_,?_,Same.upd1 hf,.slice (z09 _ _ _) (Nat.le_refl _) (fun _=>rfl) (by rw[hlen];omega),z4y hrel hf (e':=e) hv.cellsR (z9w hgt)⟩
 unfold Instr.buildSlice
 simp only[Sem.run_bind,Go.run_underlying hu,Result.andThen_ok,z03 hn]
 rw[if_neg (by omega)]
 rw[<-hzl,hg3] at hfill
 have hrow:∀ w,(do pure (.slice (some (<- newRow e C')) len len):Sem Value).run P w=.ok (.slice (some ⟨w.heap.size,0,none⟩) len len) { w with heap:=w.heap.push (.cells C' e) }:=fun w=>by
  simp[newRow]
 by_cases h0:len*n=0
 ·rw[if_pos h0]
  simp only[Sem.run_pure,Result.andThen_ok,Sem.run_bind]
  rw[h0] at hfill ⊢
  have e0:∀ Z:Array Value,(Array.range 0).map (fun x=>Z[x%n]!)=#[]:=fun Z=>by simp
  have e1:∀ Z:Array Value,(Array.range 0).map (fun x=>Z[x%Z.size]!)=#[]:=fun Z=>by simp
  rw[e0] at hfill
  rw[e1,hfill]
  exact hrow w
 ·rw[if_neg h0]
  simp only[Sem.run_bind,hz1,Sem.run_pure,Result.andThen_ok]
  rw[<-hzl,hg3,hfill]
  exact hrow w
theorem zaj {l c:LV}{r:R1}(h:makeSliceL P t l c m rvm=some r) :
  ∃ v b,r=.val v (m.push b) /\ ∀(Pt:Prot) (ρ:Rho) (w:World) (l' L:Value),VR ρ l l'->VR ρ c L->Rel Pt ρ m w->ρ m.next=none ->
   Gives P Pt ρ m w (Instr.makeSlice t l' L) v (m.push b):=by
 obtain⟨e,he,M⟩:=z9.1 h
 obtain⟨k1,li,rfl,h2⟩:=zj.1 M
 obtain⟨k2,ci,rfl,h3⟩:=(zj (v:=c)).1 h2
 obtain⟨u,rfl,h4⟩:=nat?_eq.1 h3
 obtain⟨g,rfl,h5⟩:=nat?_eq.1 h4
 obtain⟨n,hn,h6⟩:=z9.1 h5
 obtain⟨z,hz,h7⟩:=z9.1 h6
 obtain⟨a0,O,h8⟩:=z9.1 h7
 obtain⟨hg,h9⟩:=za.1 h8
 rw[Mem.new_eq] at h9
 cases h9
 simp only[Bool.and_eq_true,Nat.ble_eq,Nat.beq_eq] at hg
 obtain⟨⟨R,p⟩,Q,a1,a2,q⟩:=hg
 refine⟨_,_,rfl,fun Pt ρ w l' L hl hc E hf=>?_⟩
 have hu:=z24 he
 obtain⟨i,hi,S⟩:=zec (w:=w) O
 obtain⟨H,Y,a3,F,a4⟩:=z3d (w:=w) (ρ:=ρ) hz
 have G:z.cells.length=H.cells.size:=by simpa using F.length
 rw[hl.int_inv,hc.int_inv]
 let C:Array Value:=if g*n=0 then #[] else(Array.range (g*n)).map (H.cells[· % H.cells.size]!)
 have hC:C.size=g*n:=by
  show(if g*n=0 then #[] else _).size=_
  split
  ·simp;omega
  ·simp
 have j:CellsR ρ (rep u z.cells) C 0:=by
  intro k v hk
  have D:=(List.getElem?_eq_some_iff.1 hk).1
  rw[z5d,q] at D
  have hr:=zm4 F (by omega) u g p
  obtain⟨v',J,hv⟩:=hr.get hk
  refine⟨v',?_,hv⟩
  rw[List.getElem?_take,if_pos (by rw[q];exact D)] at J
  have U:g*n≠0:=by
   have:u*n<=g*n:=Nat.mul_le_mul_right _ p
   omega
  show(if g*n=0 then #[] else _)[0+k]?=_
  rw[if_neg U,Nat.zero_add]
  rw[<-G,q] at J
  rw[<-G,q]
  simp only[Array.getElem?_map,Array.getElem?_range,List.getElem?_map,Array.toList_map,Array.toList_range] at J ⊢
  have B:k<g*n:=by have:u*n<=g*n:=Nat.mul_le_mul_right _ p;omega
  rw[<-J,if_pos B,List.getElem?_range B]
 refine⟨_,.slice (some ⟨w.heap.size,0+0,none⟩) u g,_,?_,Same.upd1 hf,
  .slice (z09 _ _ _) p (fun N=>by rw[Nat.beq_eq] at N;exact N.symm) (by rw[hC];omega),z4y E hf (e':=e) (C:=C) j (z9w R)⟩
 have V:IntKind.i64.wrap (u:Int)=u:=by rw[IntKind.wrap_i64];omega
 have X:IntKind.i64.wrap (g:Int)=g:=by rw[IntKind.wrap_i64];omega
 have N:(i.bytes:Int)*(g:Int)<=140737488355328:=by
  rw[S];have M:=Int.ofNat_le.2 Q;rw[Int.natCast_mul] at M;omega
 unfold Instr.makeSlice
 simp only[Sem.run_bind,Go.run_underlying hu,Result.andThen_ok,Go.asInt,Go.asIntOf,Sem.run_pure,hi,V,X]
 have A:((decide ((g:Int)<0)||decide ((i.bytes:Int)*(g:Int)>2^48))||decide ((u:Int)<0)||decide ((u:Int) >(g:Int)))=false:=by
  simp;omega
 simp only[A,Bool.false_eq_true,if_false]
 simp only[run_askRoom,Result.andThen_ok,z03 hn,Sem.run_bind,Int.toNat_natCast]
 by_cases K:g*n=0
 ·have x:C=#[]:=by show(if g*n=0 then #[] else _)=_;rw[if_pos K]
  have e0:∀ f:Nat->Value,(Array.range 0).map f=#[]:=fun f=>by simp
  simp[K,x,newRow,e0]
 ·have x:C=(Array.range (g*n)).map (H.cells[· % H.cells.size]!):=by show(if g*n=0 then #[] else _)=_;rw[if_neg K]
  simp[K,x,newRow,Y]
end mem
end PvL
end
section
namespace PvL
open Go
section pure1
variable {P:Program} {ρ:Rho} {w:World}
theorem z12{α:Type}{x:LV}{f g:Nat}{k:Nat->Option α}{y:α}(h:boundL x f k=some y)(B:f<=g) :
  ∃ n:Nat,n<=f/\k n=some y /\ ∀(code:BoundsCode) (x':Value),VR ρ x x'->(Instr.sliceBound x' g code).run P w=.ok n w:=by
 obtain⟨q,i,rfl,p⟩:=zj.1 h
 obtain⟨n,rfl,r⟩:=nat?_eq.1 p
 obtain⟨j,u⟩:=za.1 r
 rw[Nat.ble_eq] at j
 refine⟨n,j,u,fun code x' A=>?_⟩
 rw[A.int_inv]
 unfold Instr.sliceBound
 simp only[Go.asIntOf,Sem.run_bind,Sem.run_pure,Result.andThen_ok]
 rw[if_pos ⟨by omega,by omega⟩]
 simp
def OR(ρ:Rho):Option LV->Option Value->Prop
 | none,none=>True
 | some v,some v'=>VR ρ v v'
 | _,_=>False
theorem z29{α:Type}(f d:Nat)(k:Nat->Option α):z0d none f d k=k d:=rfl
theorem z0h{α:Type}(v:LV)(f d:Nat)(k:Nat->Option α):z0d (some v) f d k=boundL v f k:=rfl
theorem zfv{t e:TypeId}{n:Nat}(hu:P.underlying t=some (.slice e))(hn:szOf P e=some n){a:Option (Nat×Nat)}{len es:Nat}{f:Bool}{lo hi q:Option LV}{v:LV}
  (h:sliceSl n a len f es lo hi q=some v) {x':Value} {u K O:Option Value} (hx:VR ρ (.slice a len f es) x') (F:OR ρ lo u) (J:OR ρ hi K) (U:OR ρ q O) :
  ∃ v',(Instr.slice t x' u K O).run P w=.ok v' w/\VR ρ v v':=by
 unfold sliceSl at h
 obtain⟨hg,h⟩:=za.1 h
 have fin:∀(m M r l:Nat) (cap:Nat) (A:Option Addr),len<=cap->(q.isSome=true->M=m)->(q=none->M=cap/\m=len)->m<=len->r<=m->l<=r ->
   x'=.slice A len cap ->
   (oe a (some (.slice none 0 true 0)) fun p=>pr p fun id off=>
    guard' (Nat.beq es n) (ifb (q.isSome ||(f ||(Nat.ble (l+1) len||Nat.beq l 0))) (fN (ifb (Nat.beq m l&&(f||q.isSome)) off (off+l*n)) fun a6=>fN (r-l) fun a4=>
     some (.slice (some (id,a6)) a4 (ifb q.isSome (Nat.beq r m) (f&&Nat.beq r len)) es)) (some (.slice (some (id,off)) 0 false 0))))=some v ->
   VR ρ v (.slice (if M=l then A else A.map (·.add (l*n))) (r-l) (M-l)):=by
  intro m M r l cap A g B G hm b4 hl S hv
  subst S
  cases a with
  | none=>
   cases hv
   cases hx
   have:M-l=0:=by
    cases q with
    | none=>have:=G rfl;omega
    | some _=>have:=B rfl;omega
   have h0:r-l=0:=by omega
   rw[this,h0]
   split<;>exact .sliceNil _ _
  | some p=>
   obtain⟨id,off⟩:=p
   obtain⟨a7,V⟩:=za.1 (show guard' (Nat.beq es n) _=some v from hv)
   obtain rfl:=Nat.eq_of_beq_eq_true a7
   cases N:(q.isSome ||(f ||(Nat.ble (l+1) len||Nat.beq l 0))) with
   | false=>
    rw[N,ze] at V
    cases V
    simp only[Bool.or_eq_false_iff] at N
    obtain⟨q1,rfl,q3,q4⟩:=N
    have b5:l=len:=by
     have:¬ l+1<=len:=fun h=>by rw[Nat.ble_eq_true_of_le h] at q3;cases q3
     omega
    have h0:r-l=0:=by omega
    rw[h0]
    cases hx with
    | slice a2 E hf hc=>
     split
     ·exact .sliceE
     ·exact .sliceE
    | sliceE=>
     split
     ·exact .sliceE
     ·exact .sliceE
   | true=>
   rw[N,zq,z19,z19] at V
   cases V
   have D:q.isSome=true∨f=true∨l+1<=len∨l=0:=by
    simp only[Bool.or_eq_true,Nat.beq_eq,Nat.ble_eq] at N
    exact N
   cases hx with
   | sliceE=>
    have e1:m=0:=by omega
    have e2:r=0:=by omega
    have e3:l=0:=by omega
    subst e1;subst e2;subst e3
    cases q with
    | none=>
     show VR ρ (.slice (some (id,_)) 0 false 0) _
     split
     ·exact .sliceE
     ·exact .sliceE
    | some _=>
     have e4:M=0:=B rfl
     subst e4
     rw[if_pos rfl]
     exact .sliceZ
   | sliceZ=>
    have e1:m=0:=by omega
    have e2:r=0:=by omega
    have e3:l=0:=by omega
    have e4:M=0:=by
     cases q with
     | none=>exact(G rfl).1
     | some _=>rw[B rfl,e1]
    subst e1;subst e2;subst e3;subst e4
    have a0:ifb q.isSome (Nat.beq 0 0) (true&&Nat.beq 0 0)=true:=by cases q<;>rfl
    rw[a0,if_pos rfl]
    exact .sliceZ
   | slice a2 E hf hc=>
    rename_i b s c
    have Q:(if M=l then some (⟨b,s+off,none⟩:Addr) else(some (⟨b,s+off,none⟩:Addr)).map (·.add (l*es))) =
      some ⟨b,s+(ifb (Nat.beq m l&&(f||q.isSome)) off (off+l*es)),none⟩ /\
      s+(ifb (Nat.beq m l&&(f||q.isSome)) off (off+l*es))+(M-l)*es<=c:=by
     have b3:M<=cap:=by
      cases q with
      | none=>have:=G rfl;omega
      | some _=>have:=B rfl;omega
     have R:l*es+(M-l)*es<=cap*es∨M<l:=by
      by_cases a9:M<l
      ·exact .inr a9
      ·left;rw[<-Nat.add_mul];exact Nat.mul_le_mul_right _ (by omega)
     have b2:l<=M:=by
      cases q with
      | none=>have:=G rfl;omega
      | some _=>have:=B rfl;omega
     cases j:Nat.beq m l&&(f||q.isSome) with
     | true=>
      simp only[Bool.and_eq_true,Nat.beq_eq,Bool.or_eq_true] at j
      have L:M=l:=by
       cases q with
       | none=>
        have h2:=G rfl
        rcases j.2 with H|H
        ·have:=hf H;omega
        ·cases H
       | some _=>have:=B rfl;omega
      rw[if_pos L,L]
      refine⟨rfl,?_⟩
      simp
      have:0<=cap*es:=Nat.zero_le _
      omega
     | false=>
      by_cases L:M=l
      · -- at the very end of a slice that may have room: only from 0
       have:l=0:=by
        simp only[Bool.and_eq_false_iff,Bool.or_eq_false_iff] at j
        cases q with
        | none=>
         have h2:=G rfl
         rcases D with D|D|D|D
         ·cases D
         ·rcases j with j|j
          ·have:=hf D
           have:m=l:=by omega
           rw[this] at j;simp at j
          ·rw[D] at j;cases j.1
         ·omega
         ·exact D
        | some _=>
         have h1:=B rfl
         rcases j with j|j
         ·have:m=l:=by omega
          rw[this] at j;simp at j
         ·cases j.2
       subst this
       rw[if_pos L]
       refine⟨by simp,?_⟩
       rw[L];simp
       have:0<=cap*es:=Nat.zero_le _
       omega
      ·rw[if_neg L]
       refine⟨by simp only[Option.map_some,z2n];simp[Nat.add_assoc],?_⟩
       simp only[ze]
       rcases R with R|R
       ·omega
       ·omega
    rw[Q.1]
    have b6:m<=M:=by
     cases q with
     | none=>have:=G rfl;omega
     | some _=>have:=B rfl;omega
    refine .slice a2 (by omega) ?_ Q.2
    intro Y
    cases q with
    | none=>
     have h2:=G rfl
     simp only[Option.isSome_none,ze,Bool.and_eq_true,Nat.beq_eq] at Y
     have:=hf Y.1
     omega
    | some _=>
     have h1:=B rfl
     simp only[Option.isSome_some,zq,Nat.beq_eq] at Y
     omega
 have b1:∃ A cap,x'=.slice A len cap/\len<=cap:=by
  cases hx with
  | sliceNil=>exact⟨none,0,rfl,Nat.le_refl _⟩
  | slice a2 E hf hc=>exact⟨_,_,rfl,E⟩
  | sliceZ=>exact⟨_,_,rfl,Nat.le_refl _⟩
  | sliceE=>exact⟨_,_,rfl,Nat.zero_le _⟩
 obtain⟨A,cap,S,g⟩:=b1
 have x:∀ l h m:Nat,(Instr.sliceBounds true len cap u K O).run P w=.ok (l,h,m) w ->
   (Instr.slice t x' u K O).run P w=.ok (.slice (if m=l then A else A.map (·.add (l*n))) (h-l) (m-l)) w:=by
  intro l h m j
  unfold Instr.slice
  simp only[Sem.run_bind,Go.run_underlying hu,Result.andThen_ok]
  rw[S]
  simp only[Sem.run_bind,j,Result.andThen_ok,z03 hn]
  rfl
 cases q with
 | none=>
  cases O with
  | some _=>exact U.elim
  | none=>
   rw[z29] at h
   cases hi with
   | none=>
    cases K with
    | some _=>exact J.elim
    | none=>
     rw[z29] at h
     cases lo with
     | none=>
      cases u with
      | some _=>exact F.elim
      | none=>
       exact⟨_,x 0 len cap (by simp[Instr.sliceBounds]),fin len cap len 0 cap A g (by simp) (by simp) (Nat.le_refl _) (Nat.le_refl _) (Nat.zero_le _) S h⟩
     | some lv=>
      cases u with
      | none=>exact F.elim
      | some a5=>
       obtain⟨l,hl,hk,j⟩:=z12 (P:=P) (ρ:=ρ) (w:=w) (z0h _ _ _ _▸h) (Nat.le_refl _)
       exact⟨_,x l len cap (by simp[Instr.sliceBounds,j _ _ F]),fin len cap len l cap A g (by simp) (by simp) (Nat.le_refl _) (Nat.le_refl _) hl S hk⟩
   | some hv=>
    cases K with
    | none=>exact J.elim
    | some b0=>
     obtain⟨r,E,hk,j⟩:=z12 (P:=P) (ρ:=ρ) (w:=w) (z0h _ _ _ _▸h) g
     cases lo with
     | none=>
      cases u with
      | some _=>exact F.elim
      | none=>
       exact⟨_,x 0 r cap (by simp[Instr.sliceBounds,j _ _ J]),fin len cap r 0 cap A g (by simp) (by simp) (Nat.le_refl _) E (Nat.zero_le _) S hk⟩
     | some lv=>
      cases u with
      | none=>exact F.elim
      | some a5=>
       obtain⟨l,hl,a1,H⟩:=z12 (P:=P) (ρ:=ρ) (w:=w) (z0h _ _ _ _▸hk) (Nat.le_refl _)
       exact⟨_,x l r cap (by simp[Instr.sliceBounds,j _ _ J,H _ _ F]),fin len cap r l cap A g (by simp) (by simp) (Nat.le_refl _) E hl S a1⟩
 | some mv=>
  cases O with
  | none=>exact U.elim
  | some b7=>
   obtain⟨mm,X,a8,a3⟩:=z12 (P:=P) (ρ:=ρ) (w:=w) (z0h _ _ _ _▸h) g
   cases hi with
   | none=>cases hg
   | some hv=>
    cases K with
    | none=>exact J.elim
    | some b0=>
     obtain⟨r,E,hk,j⟩:=z12 (P:=P) (ρ:=ρ) (w:=w) (z0h _ _ _ _▸a8) (Nat.le_refl _)
     cases lo with
     | none=>
      cases u with
      | some _=>exact F.elim
      | none=>
       exact⟨_,x 0 r mm (by simp[Instr.sliceBounds,a3 _ _ U,j _ _ J]),fin mm mm r 0 cap A g (fun _=>rfl) (by simp) X E (Nat.zero_le _) S hk⟩
     | some lv=>
      cases u with
      | none=>exact F.elim
      | some a5=>
       obtain⟨l,hl,a1,H⟩:=z12 (P:=P) (ρ:=ρ) (w:=w) (z0h _ _ _ _▸hk) (Nat.le_refl _)
       exact⟨_,x l r mm (by simp[Instr.sliceBounds,a3 _ _ U,j _ _ J,H _ _ F]),fin mm mm r l cap A g (fun _=>rfl) (by simp) X E hl S a1⟩
end pure1
end PvL
end
section
namespace PvL
open Go
section pure2
variable {P:Program} {ρ:Rho} {w:World}
theorem zhz{α:Type}{len:Nat}{lo hi J:Option LV}{g j u:Option Value}{k:Nat->Nat->Nat->Option α}{y:α}(X:(J.isNone||hi.isSome)=true)
  (h:z0d J len len (fun m=>z0d hi m len fun h=>z0d lo h 0 fun l=>k m h l)=some y) (p:OR ρ lo g) (A:OR ρ hi j) (B:OR ρ J u) :
  ∃ m f l,k m f l=some y/\l<=f/\f<=m/\m<=len/\(Instr.sliceBounds false len len g j u).run P w=.ok (l,f,m) w:=by
 have hm:∃ m,m<=len/\(z0d hi m len fun h=>z0d lo h 0 fun l=>k m h l)=some y/\(J=none->m=len) /\ ∀ x,u=some x->∀ code,(Instr.sliceBound x len code).run P w=.ok m w:=by
  cases J with
  | none=>cases u with
   | none=>exact⟨len,Nat.le_refl _,h,fun _=>rfl,fun x e=>by cases e⟩
   | some _=>exact B.elim
  | some v=>cases u with
   | none=>exact B.elim
   | some v'=>
    rw[z0h] at h
    obtain⟨m,K,L,M⟩:=z12 (P:=P) (ρ:=ρ) (w:=w) h (Nat.le_refl _)
    exact⟨m,K,L,fun e=>by(cases e),fun x e code=>by cases e;exact M code v' B⟩
 obtain⟨m,V,H,N,O⟩:=hm
 have f:∃ f,f<=m/\(z0d lo f 0 fun l=>k m f l)=some y/\(hi=none->f=len) /\ ∀ x,j=some x->∀ code,(Instr.sliceBound x m code).run P w=.ok f w:=by
  cases hi with
  | none=>cases j with
   | none=>
    cases J with
    | none=>exact⟨len,by have:=N rfl;omega,H,fun _=>rfl,fun x e=>by cases e⟩
    | some _=>cases X
   | some _=>exact A.elim
  | some v=>cases j with
   | none=>exact A.elim
   | some v'=>
    rw[z0h] at H
    obtain⟨q,K,L,M⟩:=z12 (P:=P) (ρ:=ρ) (w:=w) H (Nat.le_refl _)
    exact⟨q,K,L,fun e=>by(cases e),fun x e code=>by cases e;exact M code v' A⟩
 obtain⟨f,Q,E,R,D⟩:=f
 have Y:∃ l,l<=f/\k m f l=some y/\(lo=none->l=0) /\ ∀ x,g=some x->∀ code,(Instr.sliceBound x f code).run P w=.ok l w:=by
  cases lo with
  | none=>cases g with
   | none=>exact⟨0,Nat.zero_le _,E,fun _=>rfl,fun x e=>by cases e⟩
   | some _=>exact p.elim
  | some v=>cases g with
   | none=>exact p.elim
   | some v'=>
    rw[z0h] at E
    obtain⟨q,K,L,M⟩:=z12 (P:=P) (ρ:=ρ) (w:=w) E (Nat.le_refl _)
    exact⟨q,K,L,fun e=>by(cases e),fun x e code=>by cases e;exact M code v' p⟩
 obtain⟨l,S,U,F,G⟩:=Y
 refine⟨m,f,l,U,S,Q,V,?_⟩
 unfold Instr.sliceBounds
 have r:∀ {a:Option LV} {b:Option Value},OR ρ a b->b=none->a=none:=fun {a b} h e=>by subst e;cases a with
  | none=>rfl
  | some _=>exact h.elim
 cases u with
 | none=>
  obtain rfl:=N (r B rfl)
  cases j with
  | none=>
   obtain rfl:=R (r A rfl)
   cases g with
   | none=>obtain rfl:=F (r p rfl);rfl
   | some x=>simp[G x rfl]
  | some x=>
   cases g with
   | none=>obtain rfl:=F (r p rfl);simp[D x rfl]
   | some z=>simp[D x rfl,G z rfl]
 | some q=>
  cases j with
  | none=>
   have:=r A rfl
   subst this
   cases J with
   | none=>exact B.elim
   | some _=>cases X
  | some x=>
   cases g with
   | none=>obtain rfl:=F (r p rfl);simp[O q rfl,D x rfl]
   | some z=>simp[O q rfl,D x rfl,G z rfl]
theorem zj8{Pt:Prot}{m:Mem}(N:Rel Pt ρ m w){t:TypeId}{x v:LV}{lo hi mx:Option LV}(h:sliceL P t x lo hi mx m=some v){x':Value}{g j A:Option Value}(R:VR ρ x x')(p:OR ρ lo g)(r:OR ρ hi j)(K:OR ρ mx A) :
  ∃ v',(Instr.sliceAt t x' g j A).run P w=.ok v' w/\VR ρ v v':=by
 have f:∀ d,P.underlying t=some d->(∀ n e,d≠.array n e)->(Instr.sliceAt t x' g j A).run P w=(Instr.slice t x' g j A).run P w:=by
  intro d F hd
  unfold Instr.sliceAt
  rw[Sem.run_bind,Go.run_underlying F,Result.andThen_ok]
  cases d<;>first|rfl|exact absurd rfl (hd _ _)
 unfold sliceL at h
 split at h
 ·rename_i e F
  obtain⟨a,len,a2,es,rfl,J⟩:=z0m.1 h
  obtain⟨n,hn,D⟩:=z9.1 J
  obtain⟨v',hr,hv⟩:=zfv (P:=P) (w:=w) F hn D R p r K
  exact⟨v',by rw[f _ F (by simp)];exact hr,hv⟩
 ·rename_i len e F
  obtain⟨V,J⟩:=za.1 h
  obtain⟨n,hn,D⟩:=z9.1 J
  obtain⟨i,o,rfl,h3⟩:=z0v.1 D
  obtain⟨own,Q,ty,X,h4⟩:=z1q.1 h3
  obtain⟨E,h5⟩:=za.1 h4
  simp only[Bool.and_eq_true,Nat.ble_eq] at E
  obtain⟨a3,E⟩:=E
  obtain⟨B,G,l,h6,hl,a4,a0,O⟩:=zhz (P:=P) (w:=w) V h5 p r K
  rw[z19,z19] at h6
  cases h6
  cases R with
  | ptr L=>
   rename_i b s c
   obtain⟨C,e',fr,a5,_,b0,hC⟩:=N.cells X L
   have a9:s+Q.length<=c:=by
    obtain⟨v',J,_⟩:=hC (Q.length-1) (Q[Q.length-1]'(by omega)) (List.getElem?_eq_getElem _)
    have:=(Array.getElem?_eq_some_iff.1 J).1
    omega
   have a7:l*n<=len*n:=Nat.mul_le_mul_right _ (by omega)
   have a8:B*n<=len*n:=Nat.mul_le_mul_right _ a0
   have H:(B-l)*n=B*n-l*n:=Nat.sub_mul _ _ _
   have a6:l*n<=B*n:=Nat.mul_le_mul_right _ (by omega)
   refine⟨.slice (some (if B=l then⟨b,s+o,none⟩ else(⟨b,s+o,none⟩:Addr).add (l*n))) (G-l) (B-l),?_,?_⟩
   ·unfold Instr.sliceAt
    simp only[Sem.run_bind,Go.run_underlying F,Result.andThen_ok,Instr.sureAddr,Sem.run_pure,O,z03 hn]
   ·by_cases u:B=l
    ·rw[if_pos u,show Nat.beq B l=true by simp[u],zq]
     exact .slice L (by omega) (fun U=>by have:=Nat.eq_of_beq_eq_true U;omega) (by rw[H];omega)
    ·rw[if_neg u,show Nat.beq B l=false by
      cases h:Nat.beq B l with
      | false=>rfl
      | true=>exact absurd (Nat.eq_of_beq_eq_true h) u,ze,z2n,Nat.add_assoc]
     exact .slice L (by omega) (fun U=>by have:=Nat.eq_of_beq_eq_true U;omega) (by rw[H];omega)
 ·rename_i F
  obtain⟨s,rfl,J⟩:=z0g.1 h
  obtain⟨V,D⟩:=za.1 J
  rw[R.str_inv]
  rw[R.str_inv] at f
  cases mx with
  | some _=>cases V
  | none=>
   cases A with
   | some _=>exact K.elim
   | none=>
    have q:∀ l G:Nat,(Instr.sliceBounds false s.size s.size g j none).run P w=.ok (l,G,s.size) w ->
      (Instr.sliceAt t (.string s) g j none).run P w=.ok (.string (s.extract l G)) w:=by
     intro l G u
     rw[f _ F (by simp)]
     unfold Instr.slice
     simp only[Sem.run_bind,Go.run_underlying F,Result.andThen_ok,Option.isSome_none,Bool.false_eq_true,if_false,u,Sem.run_pure]
    cases hi with
    | none=>
     cases j with
     | some _=>exact r.elim
     | none=>
      rw[z29] at D
      cases lo with
      | none=>
       cases g with
       | some _=>exact p.elim
       | none=>
        rw[z29] at D
        cases D
        exact⟨_,q 0 s.size (by simp[Instr.sliceBounds]),.str _⟩
      | some lv=>
       cases g with
       | none=>exact p.elim
       | some a1=>
        obtain⟨l,hl,M,u⟩:=z12 (P:=P) (ρ:=ρ) (w:=w) (z0h _ _ _ _▸D) (Nat.le_refl _)
        cases M
        exact⟨_,q l s.size (by simp[Instr.sliceBounds,u _ _ p]),.str _⟩
    | some hv=>
     cases j with
     | none=>exact r.elim
     | some b1=>
      obtain⟨G,E,M,u⟩:=z12 (P:=P) (ρ:=ρ) (w:=w) (z0h _ _ _ _▸D) (Nat.le_refl _)
      cases lo with
      | none=>
       cases g with
       | some _=>exact p.elim
       | none=>
        rw[z29] at M
        cases M
        exact⟨_,q 0 G (by simp[Instr.sliceBounds,u _ _ r]),.str _⟩
      | some lv=>
       cases g with
       | none=>exact p.elim
       | some a1=>
        obtain⟨l,hl,Y,S⟩:=z12 (P:=P) (ρ:=ρ) (w:=w) (z0h _ _ _ _▸M) (Nat.le_refl _)
        cases Y
        exact⟨_,q l G (by simp[Instr.sliceBounds,u _ _ r,S _ _ p]),.str _⟩
 ·cases h
theorem zv0{t:TypeId}{q:Option Nat×Nat}(h:ixK P t=some q):(∃ e,P.underlying t=some (.slice e)/\szOf P e=some q.2/\q.1=none) ∨ ∃ len e,P.underlying t=some (.array len e)/\szOf P e=some q.2/\q.1=some len:=by
 unfold ixK at h
 split at h
 ·rename_i e g
  obtain⟨n,f,h⟩:=z9.1 h
  cases h
  exact .inl ⟨e,g,f,rfl⟩
 ·rename_i len e g
  obtain⟨n,f,h⟩:=z9.1 h
  cases h
  exact .inr ⟨len,e,g,f,rfl⟩
 ·cases h
theorem zgz{id off i n len:Nat}{v:LV}(h:idxAt id off i n len=some v):i<len/\v=.ptr (some (id,off+i*n)):=by
 obtain⟨f,h⟩:=za.1 h
 rw[z19] at h
 cases h
 exact⟨Nat.le_of_ble_eq_true f,rfl⟩
theorem zah{t:TypeId}{x i v:LV}(h:indexAddrL P t x i=some v){x' F:Value}(E:VR ρ x x')(hi:VR ρ i F) :
  ∃ v',(Instr.indexAt t x' F).run P w=.ok v' w/\VR ρ v v':=by
 obtain⟨q,K,G⟩:=z9.1 h
 obtain⟨len,n⟩:=q
 obtain⟨k,z,rfl,H⟩:=zj.1 (show asInt i _=some v from G)
 obtain⟨j,rfl,D⟩:=nat?_eq.1 H
 rw[hi.int_inv]
 rcases zv0 K with⟨e,A,u,f⟩|⟨l,e,A,u,f⟩
 ·have f:len=none:=f
  subst f
  obtain⟨a,O,B,L,rfl,r⟩:=z0m.1 (show asSlice x _=some v from D)
  obtain⟨⟨id,off⟩,rfl,h5⟩:=z9.1 r
  obtain⟨g,rfl⟩:=zgz h5
  cases E with
  | sliceZ=>exact absurd g (Nat.not_lt_zero _)
  | sliceE=>exact absurd g (Nat.not_lt_zero _)
  | slice p J N M=>
   rename_i b s c cap
   refine⟨.pointer (some ⟨b,s+(off+j*n),none⟩),?_,.ptr p⟩
   unfold Instr.indexAt
   simp only[Go.asIntOf,Sem.run_bind,Sem.run_pure,Result.andThen_ok,Go.run_underlying A]
   rw[if_pos ⟨by omega,by omega⟩]
   simp[z03 u,z2n,Nat.add_assoc]
 ·have f:len=some l:=f
  subst f
  obtain⟨id,off,rfl,r⟩:=z0v.1 (show asPtr x _=some v from D)
  obtain⟨g,rfl⟩:=zgz r
  cases E with
  | ptr p=>
   rename_i b s c
   refine⟨.pointer (some ⟨b,s+(off+j*n),none⟩),?_,.ptr p⟩
   unfold Instr.indexAt Instr.sureAddr
   simp only[Go.asIntOf,Sem.run_bind,Sem.run_pure,Result.andThen_ok,Go.run_underlying A]
   rw[if_pos ⟨by omega,by omega⟩]
   simp[z03 u,z2n,Nat.add_assoc]
theorem z9u{t:TypeId}{ag:Bool}{n off:Nat}{cs:List LV}{v:LV}(h:partL ag n off cs=some v)(g:isAggT P t=some ag)(p:szOf P t=some n){f:Array Value}(j:VRs ρ cs f.toList) :
  ∃ v',(part t f off).run P w=.ok v' w/\VR ρ v v':=by
 cases ag with
 | false=>exact z3c j (s:=none) (by unfold aggSz;rw[g];rfl) h
 | true=>exact z3c j (s:=some n) (by unfold aggSz;rw[g];show ob (szOf P t) _=_;rw[p];rfl) h
theorem zij{t:TypeId}{x i v:LV}(h:indexL P t x i=some v){x' E:Value}(D:VR ρ x x')(hi:VR ρ i E) :
  ∃ v',(Instr.index t x' E).run P w=.ok v' w/\VR ρ v v':=by
 unfold indexL at h
 split at h
 ·rename_i len e A
  obtain⟨N,rfl,f⟩:=z1b.1 h
  obtain⟨k,z,rfl,g⟩:=(zj (v:=i)).1 f
  obtain⟨j,rfl,p⟩:=nat?_eq.1 g
  obtain⟨n,B,q⟩:=z9.1 p
  obtain⟨M,r,h5⟩:=z9.1 q
  obtain⟨u,G⟩:=za.1 h5
  rw[Nat.ble_eq] at u
  rw[hi.int_inv]
  obtain⟨F,rfl,J⟩:=D.agg_inv
  obtain⟨v',K,L⟩:=z9u (P:=P) (w:=w) G r B J
  refine⟨v',?_,L⟩
  unfold Instr.index
  simp only[Go.asIntOf,Sem.run_bind,Sem.run_pure,Result.andThen_ok,Go.run_underlying A]
  rw[if_pos ⟨by omega,by omega⟩]
  simp[z03 B,K]
 ·rename_i A
  obtain⟨s,rfl,f⟩:=z0g.1 h
  obtain⟨k,z,rfl,g⟩:=(zj (v:=i)).1 f
  obtain⟨j,rfl,p⟩:=nat?_eq.1 g
  obtain⟨b,H,q⟩:=z9.1 p
  cases q
  rw[hi.int_inv,D.str_inv]
  refine⟨_,?_,.int _ _⟩
  unfold Instr.index
  simp only[Go.asIntOf,Sem.run_bind,Sem.run_pure,Result.andThen_ok,Go.run_underlying A]
  rw[if_pos (by omega)]
  simp[H]
 ·cases h
theorem z75{t:TypeId}{f:Nat}{q:Nat×Nat×Bool}(h:fieldPl P t f=some q):∃ fs F,P.underlying t=some (.struct fs)/\fs[f]?=some F/\q.1=F.offset/\szOf P F.type=some q.2.1/\isAggT P F.type=some q.2.2:=by
 obtain⟨F,g,j⟩:=z9.1 h
 obtain⟨n,x,p⟩:=z9.1 j
 obtain⟨b,u,r⟩:=z9.1 p
 cases r
 unfold fieldOf at g
 split at g
 ·rename_i fs A
  exact⟨fs,F,A,g,rfl,x,u⟩
 ·cases g
theorem zie{t:TypeId}{x v:LV}{f:Nat}(h:fieldL P t x f=some v){x':Value}(J:VR ρ x x'):∃ v',(Instr.field t x' f).run P w=.ok v' w/\VR ρ v v':=by
 obtain⟨⟨off,n,K⟩,D,q⟩:=z9.1 h
 obtain⟨L,rfl,r⟩:=z1b.1 (show asAgg x _=some v from q)
 obtain⟨M,F,G,u,j,B,g⟩:=z75 D
 have j:off=F.offset:=j
 subst j
 obtain⟨p,rfl,A⟩:=J.agg_inv
 obtain⟨v',E,H⟩:=z9u (P:=P) (w:=w) r g B A
 refine⟨v',?_,H⟩
 unfold Instr.field
 simp only[Sem.run_bind,Go.run_underlying G,Result.andThen_ok,u]
 simp[Go.asAgg,E]
theorem zag{t:TypeId}{x v:LV}{f:Nat}(h:fieldAddrL P t x f=some v){x':Value}(H:VR ρ x x'):∃ v',(Instr.fieldAt t x' f).run P w=.ok v' w/\VR ρ v v':=by
 obtain⟨⟨off,n,J⟩,E,r⟩:=z9.1 h
 obtain⟨id,o,rfl,u⟩:=z0v.1 (show asPtr x _=some v from r)
 obtain⟨D,q⟩:=za.1 u
 rw[z19] at q
 cases q
 rw[Nat.ble_eq] at D
 obtain⟨K,F,G,A,j,g,B⟩:=z75 E
 have j:off=F.offset:=j
 subst j
 cases H with
 | ptr p=>
  rename_i b s c
  refine⟨.pointer (some ⟨b,s+(o+F.offset),none⟩),?_,.ptr p⟩
  unfold Instr.fieldAt Instr.sureAddr fieldPlace
  simp only[Sem.run_bind,Go.run_underlying G,Result.andThen_ok,A,Sem.run_pure]
  have g:szOf P F.type=some n:=g
  simp only[z03 g,Result.andThen_ok]
  rw[if_neg (by omega)]
  simp[z2n,Nat.add_assoc]
theorem zc9{x v:LV}(h:nilCheckL x=some v){x':Value}(g:VR ρ x x'):∃ a,x'=.pointer (some a)/\VR ρ v x':=by
 unfold nilCheckL at h
 split at h
 ·cases h
  cases g with
  | ptr f=>exact⟨_,rfl,.ptr f⟩
 ·cases h
theorem zfb{vs:List LV}{i:Nat}{v:LV}(h:nth vs i=some v){x':Value}(j:VR ρ (.tup vs) x'):∃ v',(Instr.extract x' i).run P w=.ok v' w/\VR ρ v v':=by
 cases j with
 | tup f=>
  rw[z7s] at h
  obtain⟨v',e,g⟩:=f.get h
  simp only[Array.getElem?_toList] at e
  exact⟨v',by simp[Instr.extract,e],g⟩
theorem zlh{a b v:LV}(h:max2L a b=some v){a' b':Value}(p:VR ρ a a')(q:VR ρ b b'):∃ v',(Builtin.max2 a' b').run P w=.ok v' w/\VR ρ v v':=by
 obtain⟨k,x,rfl,g⟩:=zj.1 h
 obtain⟨r,y,rfl,j⟩:=(zj (v:=b)).1 g
 cases j
 rw[p.int_inv,q.int_inv,z4h]
 refine⟨_,by simp only[Builtin.max2];rfl,?_⟩
 by_cases f:x<y
 ·simp only[f,decide_true,zq,if_true];exact .int _ _
 ·simp only[f,decide_false,ze,if_false];exact .int _ _
theorem zli{a b v:LV}(h:min2L a b=some v){a' b':Value}(p:VR ρ a a')(q:VR ρ b b'):∃ v',(Builtin.min2 a' b').run P w=.ok v' w/\VR ρ v v':=by
 obtain⟨k,x,rfl,g⟩:=zj.1 h
 obtain⟨r,y,rfl,j⟩:=(zj (v:=b)).1 g
 cases j
 rw[p.int_inv,q.int_inv,z4h]
 refine⟨_,by simp only[Builtin.min2];rfl,?_⟩
 by_cases f:y<x
 ·simp only[f,decide_true,zq,if_true];exact .int _ _
 ·simp only[f,decide_false,ze,if_false];exact .int _ _
theorem z95{f:LV->LV->Option LV}{g:Value->Value->Sem Value}(j:∀ a b v a' b',f a b=some v->VR ρ a a'->VR ρ b b'->∃ v',(g a' b').run P w=.ok v' w/\VR ρ v v') :
  ∀(q:List LV) (ys':List Value) (x v:LV) (x':Value),foldL f q x=some v->VR ρ x x'->VRs ρ q ys'->∃ v',(ys'.foldlM g x').run P w=.ok v' w/\VR ρ v v'
 | [],_,x,v,x',h,u,p=>by cases p;cases h;exact⟨x',rfl,u⟩
 | y::q,_,x,v,x',h,u,p=>by
  cases p with
  | cons p A=>
   obtain⟨z,hz,h1⟩:=z9.1 (show ob (f x y) _=some v from h)
   obtain⟨F,D,B⟩:=j _ _ _ _ _ hz u p
   obtain⟨v',r,E⟩:=z95 j q _ z v F h1 B A
   exact⟨v',by rw[List.foldlM_cons,Sem.run_bind,D];exact r,E⟩
