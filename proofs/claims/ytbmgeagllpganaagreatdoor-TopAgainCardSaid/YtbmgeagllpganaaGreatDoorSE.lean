/-
 Part of the proof of TopAgain. No condition beyond those in each theorem.
-/
import Derived.Test.YtbmgeagllpganaaGreatDoorSD
import Derived.Test.YtbmgeagllpganaaGreatDoorSA
import Derived.Test.YtbmgeagllpganaaGreatDoorTW
import Derived.Test.YtbmgeagllpganaaGreatDoorTX
section
open Go PvL Go.Proofs
set_option linter.unusedSimpArgs false
set_option linter.unusedVariables false
namespace Go.Proofs.YtbmgeagllpganaaGreatDoor.C
abbrev Rst:=Int × Int × Nat
def pk (s:List Int) (a b:Int) (G:Nat->Rst) (i:Nat):Nat->Rst
 | 0=>(0,0,0)
 | j+1 =>
  if spn s i (i+j)<=b /\ (j=0 ∨ a+spn s i (i+j)+(G (i+j+1)).1 < (pk s a b G i j).1 ∨ (a+spn s i (i+j)+(G (i+j+1)).1=(pk s a b G i j).1 /\ 1+(G (i+j+1)).2.1 < (pk s a b G i j).2.1))
  then (a+spn s i (i+j)+(G (i+j+1)).1,1+(G (i+j+1)).2.1,i+j) else pk s a b G i j
def tb (s:List Int) (a b:Int):Nat->Nat->Rst
 | 0,_=>(0,0,0)
 | m+1,i=>if i+(m+1)=s.length then pk s a b (tb s a b m) i (m+1) else tb s a b m i
def bs (s:List Int) (a b:Int) (i:Nat):Rst:=tb s a b s.length i
theorem ze2 {s:List Int} {a b:Int} {G G':Nat->Rst} {i:Nat}:∀ {j:Nat},(∀ t,i < t->t<=i+j->G t=G' t)->pk s a b G i j=pk s a b G' i j
 | 0,_=>rfl
 | j+1,h=>by
  have ih:=ze2 (s:=s) (a:=a) (b:=b) (j:=j) (fun t h1 h2=>h t h1 (by omega))
  unfold pk
  rw [ih,h (i+j+1) (by omega) (by omega)]
theorem zii {s:List Int} {a b:Int} {i:Nat}:∀ {m d:Nat},s.length<=i+m->tb s a b (m+d) i=tb s a b m i
 | m,0,h=>rfl
 | m,d+1,h=>by
  have ih:=zii (s:=s) (a:=a) (b:=b) (i:=i) (m:=m) (d:=d) h
  show (if i+(m+d+1)=s.length then _ else tb s a b (m+d) i)=_
  rw [if_neg (by omega),ih]
theorem znj {s:List Int} {a b:Int} {i m:Nat} (h:s.length<=i+m) (hm:m<=s.length):tb s a b m i=bs s a b i:=by
 unfold bs
 rw [show s.length=m+(s.length - m) from by omega]
 exact (zii h).symm
theorem zqj {s:List Int} {a b:Int} {i:Nat} (h:i < s.length):bs s a b i=pk s a b (bs s a b) i (s.length - i):=by
 obtain ⟨m,hm⟩:∃ m,s.length=i+(m+1):=⟨s.length - i - 1,by omega⟩
 rw [<-znj (m:=m+1) (by omega) (by omega),show s.length - i=m+1 from by omega]
 show (if i+(m+1)=s.length then _ else _)=_
 rw [if_pos hm.symm]
 exact ze2 fun t h1 h2=>znj (by omega) (by omega)
theorem zl7 {s:List Int} {a b:Int} {i:Nat} (h:s.length<=i):bs s a b i=(0,0,0):=by
 rw [<-znj (m:=0) (by omega) (by omega)];rfl
theorem zp9 {s:List Int} {a b:Int} {G:Nat->Rst} {i:Nat} (hs:spn s i i<=b):∀ {n:Nat},0 < n->∃ j,j < n /\ spn s i (i+j)<=b /\ pk s a b G i n=(a+spn s i (i+j)+(G (i+j+1)).1,1+(G (i+j+1)).2.1,i+j)
 | 0,h=>absurd h (Nat.lt_irrefl _)
 | n+1,_=>by
  unfold pk
  split
  ·rename_i hc
   exact ⟨n,by omega,hc.1,rfl⟩
  ·rename_i hc
   by_cases h0:n=0
   ·subst h0;exact absurd ⟨hs,.inl rfl⟩ hc
   ·obtain ⟨j,h1,h2,h3⟩:=zp9 (a:=a) (G:=G) hs (n:=n) (by omega)
    exact ⟨j,by omega,h2,h3⟩
theorem zn9 {s:List Int} {a b:Int} {G:Nat->Rst} {i:Nat} {c d:Int} (h:OkS s a b) (hG:∀ t,0<=(G t).1 /\ (G t).1<=c /\ 0<=(G t).2.1 /\ (G t).2.1<=d):∀ {n:Nat},i+n<=s.length->0<=(pk s a b G i n).1 /\ (pk s a b G i n).1<=2000+c /\ 0<=(pk s a b G i n).2.1 /\ (pk s a b G i n).2.1<=1+d
 | 0,_=>by have:=hG 0;unfold pk;dsimp only;omega
 | n+1,hn=>by
  have ih:=zn9 (a:=a) (b:=b) (G:=G) (i:=i) (c:=c) (d:=d) h hG (n:=n) (by omega)
  have h1:=hG (i+n+1)
  have h2:=h.spn (i:=i) (k:=i+n) (by omega) (by omega)
  have h3:=h.a0
  have h4:=h.b0
  unfold pk
  split
  ·rename_i hc
   have:=hc.1
   dsimp only
   omega
  ·exact ih
theorem zih {s:List Int} {a b:Int} (h:OkS s a b):∀ (m:Nat) (i:Nat),0<=(tb s a b m i).1 /\ (tb s a b m i).1<=2000*m /\ 0<=(tb s a b m i).2.1 /\ (tb s a b m i).2.1<=m
 | 0,i=>by unfold tb;dsimp only;omega
 | m+1,i=>by
  unfold tb
  split
  ·rename_i hc
   have:=zn9 (i:=i) h (zih h m) (n:=m+1) (by omega)
   omega
  ·have:=zih h m i
   omega
theorem zlq {s:List Int} {a b:Int} {G:Nat->Rst} {i k:Nat} (h:OkS s a b) (hl:spn s i (i+k) > b):∀ {n:Nat},k<=n->i+n<=s.length->pk s a b G i n=pk s a b G i k
 | 0,hn,_=>by obtain rfl:k=0:=by omega
              rfl
 | n+1,hn,hs=>by
  by_cases he:k=n+1
  ·subst he;rfl
  ·have h1:=zlq (a:=a) (G:=G) h hl (n:=n) (by omega) (by omega)
   have h2:spn s i (i+k)<=spn s i (i+n):=by
    by_cases hkn:k=n
    ·subst hkn;exact Int.le_refl _
    ·exact Int.le_of_lt (h.spn_lt (i:=i) (k:=i+k) (j:=i+n) (by omega) (by omega))
   rw [<-h1]
   show (if _ then _ else _)=_
   rw [if_neg (fun hc=>by have:=hc.1;omega)]
theorem zkj (s:List Int) (i:Nat):spn s i i=1:=by unfold spn;omega
theorem zeo {s:List Int} {a b:Int} (h:OkS s a b) {i:Nat} (hi:i < s.length):∃ k,i<=k /\ k < s.length /\ spn s i k<=b /\ bs s a b i=(a+spn s i k+(bs s a b (k+1)).1,1+(bs s a b (k+1)).2.1,k):=by
 obtain ⟨j,h1,h2,h3⟩:=zp9 (s:=s) (a:=a) (b:=b) (G:=bs s a b) (i:=i) (by rw [zkj];exact h.b0.1) (n:=s.length - i) (by omega)
 exact ⟨i+j,by omega,by omega,h2,by rw [zqj hi,h3]⟩
def fol (s:List Int) (G:Nat->Rst):Nat->Nat->List (Int × Int)
 | 0,_=>[]
 | f+1,i=>if i < s.length then (el s i,el s (G i).2.2) :: fol s G f ((G i).2.2+1) else []
def plan (s:List Int) (a b:Int) (i:Nat):List (Int × Int):=fol s (bs s a b) (s.length - i) i
theorem zdk {s:List Int} {G:Nat->Rst} (hG:∀ i,i < s.length->i<=(G i).2.2):∀ (f f' i:Nat),s.length - i<=f->s.length - i<=f'->fol s G f i=fol s G f' i
 | 0,0,i,_,_=>rfl
 | 0,f' + 1,i,h1,_=>by unfold fol;rw [if_neg (by omega)]
 | f+1,0,i,_,h2=>by unfold fol;rw [if_neg (by omega)]
 | f+1,f' + 1,i,h1,h2=>by
  unfold fol
  split
  ·rename_i hc
   have:=hG i hc
   rw [zdk hG f f' _ (by omega) (by omega)]
  ·rfl
theorem zj7 {s:List Int} {a b:Int} (h:OkS s a b) (i:Nat) (hi:i < s.length):i<=(bs s a b i).2.2 /\ (bs s a b i).2.2 < s.length:=by
 obtain ⟨k,h1,h2,_,h3⟩:=zeo h hi
 rw [h3];exact ⟨h1,h2⟩
theorem z4r {s:List Int} {a b:Int} {i:Nat} (hi:s.length<=i):plan s a b i=[]:=by
 unfold plan;rw [show s.length - i=0 from by omega];rfl
theorem z5f {s:List Int} {a b:Int} (h:OkS s a b) {i:Nat} (hi:i < s.length):plan s a b i=(el s i,el s (bs s a b i).2.2) :: plan s a b ((bs s a b i).2.2+1):=by
 unfold plan
 obtain ⟨m,hm⟩:∃ m,s.length - i=m+1:=⟨s.length - i - 1,by omega⟩
 rw [hm]
 show (if i < s.length then _ else _)=_
 rw [if_pos hi]
 have:=zj7 h i hi
 rw [zdk (fun i hi=>(zj7 h i hi).1) m _ _ (by omega) (Nat.le_refl _)]
theorem ze4 {s:List Int} {a b:Int} (h:OkS s a b):∀ (n i:Nat),s.length - i<=n->((plan s a b i).length:Int)=(bs s a b i).2.1
 | n,i,hn=>by
  by_cases hi:s.length<=i
  ·rw [z4r hi,zl7 hi];rfl
  ·match n with
   | 0=>omega
   | n+1 =>
    obtain ⟨k,h1,h2,h3,h4⟩:=zeo h (i:=i) (by omega)
    rw [z5f h (by omega),h4]
    have:=ze4 h n (k+1) (by omega)
    rw [List.length_cons]
    dsimp only
    omega
def agF (s:List Int) (a b:Int):List (Int × Int) × Int × Int:=if okS s a b then (plan s a b 0,(bs s a b 0).1,0) else ([],0,84)
def many (p:Int × Int):Int:=p.2 - p.1+1
def Pl (b:Int) (v:Int):List (Int × Int)->Prop
 | []=>True
 | p :: l=>(1<=many p /\ many p<=b) /\ v < p.1 /\ Pl b p.2 l
def cst (a:Int):List (Int × Int)->Int
 | []=>0
 | p :: l=>a+many p+cst a l
def Cov8 (x:Int) (l:List (Int × Int)):Prop:=∃ p ∈ l,p.1<=x /\ x<=p.2
theorem Pl.behind {b:Int}:∀ {l:List (Int × Int)} {v:Int},Pl b v l->∀ p ∈ l,v < p.1
 | [],_,_,p,hp=>by cases hp
 | q :: l,v,h,p,hp=>by
  rcases List.mem_cons.1 hp with rfl|hp
  ·exact h.2.1
  ·have:=h.2.2.behind p hp
   have:=h.1
   have:=h.2.1
   unfold many at *
   omega
theorem zhx {s:List Int} {a b:Int} (h:OkS s a b):∀ (n i:Nat) (v:Int),s.length - i<=n->(i < s.length->v < el s i)->Pl b v (plan s a b i)
 | n,i,v,hn,hv=>by
  by_cases hi:s.length<=i
  ·rw [z4r hi];trivial
  ·match n with
   | 0=>omega
   | n+1 =>
    obtain ⟨k,h1,h2,h3,h4⟩:=zeo h (i:=i) (by omega)
    rw [z5f h (by omega),h4]
    have:=h.spn h1 h2
    exact ⟨⟨by show 1<=el s k - el s i+1;exact this.1,h3⟩,hv (by omega),zhx h n (k+1) _ (by omega) (fun hk=>h.lt (Nat.lt_succ_self k) hk)⟩
theorem ze3 {s:List Int} {a b:Int} (h:OkS s a b):∀ (n i:Nat),s.length - i<=n->∀ k,i<=k->k < s.length->Cov8 (el s k) (plan s a b i)
 | n,i,hn,k,hk,hks=>by
  match n with
  | 0=>omega
  | n+1 =>
   obtain ⟨e,h1,h2,h3,h4⟩:=zeo h (i:=i) (by omega)
   rw [z5f h (by omega),h4]
   by_cases hke:k<=e
   ·exact ⟨_,List.mem_cons_self,h.le hk hks,h.le hke h2⟩
   ·obtain ⟨q,hq,hq2⟩:=ze3 h n (e+1) (by omega) k (by omega) hks
    exact ⟨q,List.mem_cons_of_mem _ hq,hq2⟩
def mn (s:List Int) (a b:Int) (G:Nat->Int) (k:Nat):Nat->Int
 | 0=>a+spn s k k+G k
 | j+1=>if spn s (k - 1 - j) k<=b then iMin (mn s a b G k j) (a+spn s (k - 1 - j) k+G (k - 1 - j)) else mn s a b G k j
def ls (s:List Int) (a b:Int):Nat->Nat->Int
 | 0,_=>0
 | m+1,i=>if i=m+1 then mn s a b (ls s a b m) m m else ls s a b m i
def lst (s:List Int) (a b:Int) (i:Nat):Int:=ls s a b i i
def prices (s:List Int) (a b:Int):List Int:=(List.range s.length).map fun k=>lst s a b (k+1) - lst s a b k
theorem zi8 (y:List Int) (i:Nat):∀ (k j:Nat),seg y i (k+j)=seg y i k+seg y (i+k) j
 | k,0=>by show seg y i k=seg y i k+0;omega
 | k,j+1=>by
  show seg y i (k+j)+el y (i+(k+j))=seg y i k+(seg y (i+k) j+el y (i+k+j))
  rw [zi8 y i k j,show i+(k+j)=i+k+j from by omega]
  omega
theorem zlt {s y:List Int} {a b:Int} (h:OkS s a b) (hb:badA s y a b s.length=false):∀ (n i:Nat),i<=s.length->s.length - i<=n->seg y i (s.length - i)<=(bs s a b i).1
 | n,i,hi,hn=>by
  by_cases he:i=s.length
  ·subst he;rw [zl7 (Nat.le_refl _),Nat.sub_self];exact Int.le_refl _
  ·match n with
   | 0=>omega
   | n+1 =>
    obtain ⟨k,h1,h2,h3,h4⟩:=zeo h (i:=i) (by omega)
    have ih:=zlt h hb n (k+1) (by omega) (by omega)
    have hr:badR s y a b i (s.length - i)=false:=by
     cases hq:badR s y a b i (s.length - i) with
     | false=>rfl
     | true=>rw [zdc (n:=s.length) (by omega) hq] at hb;cases hb
    have h5:¬ seg y i (k - i+1) > a+spn s i k:=fun hc=>by
     have:=zdd (s:=s) (y:=y) (a:=a) (b:=b) (i:=i) (k:=k - i) (n:=s.length - i) (by omega) (by rw [show i+(k - i)=k from by omega];exact h3) (by rw [show i+(k - i)=k from by omega];exact hc)
     rw [hr] at this;cases this
    rw [show s.length - i=(k - i+1)+(s.length - (k+1)) from by omega,zi8,show i+(k - i+1)=k+1 from by omega,h4]
    dsimp only
    omega
def pe (l:List (Int × Int)) (i:Nat):Int × Int:=l.getD i (0,0)
theorem zk9 {l:List (Int × Int)} {i:Nat} (h:i < l.length):pe l i=l[i]:=by unfold pe;rw [List.getD_eq_getElem?_getD,List.getElem?_eq_getElem h];rfl
def mW (p:Int × Int):Int:=IntKind.wrap .i64 (IntKind.wrap .i64 (p.2 - p.1)+1)
def okC (b:Int) (l:List (Int × Int)):Nat->Bool
 | 0=>true
 | k+1=>okC b l k && (btB (mW (pe l k)) 1 b && (decide (k=0) || decide ((pe l (k - 1)).2 < (pe l k).1)))
def sumC (a:Int) (l:List (Int × Int)):Nat->Int
 | 0=>0
 | k+1=>sumC a l k+(a+mW (pe l k))
def covB (x:Int) (l:List (Int × Int)):Nat->Bool
 | 0=>false
 | j+1=>covB x l j || btB x (pe l j).1 (pe l j).2
def allC (s:List Int) (l:List (Int × Int)):Nat->Bool
 | 0=>true
 | i+1=>allC s l i && covB (el s i) l l.length
def costF (s:List Int) (a b:Int) (l:List (Int × Int)):Int × Bool:=if okC b l l.length && allC s l s.length then (sumC a l l.length,true) else (0,false)
def Sml (l:List (Int × Int)):Prop:=∀ p ∈ l,(0<=p.1 /\ p.1<=60000) /\ 0<=p.2 /\ p.2<=60000
theorem zlr {b:Int}:∀ {l:List (Int × Int)} {v:Int},Pl b v l ↔ (∀ k,k < l.length->1<=many (pe l k) /\ many (pe l k)<=b) /\ (0 < l.length->v < (pe l 0).1) /\ ∀ k,k+1 < l.length->(pe l k).2 < (pe l (k+1)).1
 | [],v=>⟨fun _=>⟨fun k hk=>absurd hk (Nat.not_lt_zero _),fun h=>absurd h (Nat.not_lt_zero _),fun k hk=>absurd hk (Nat.not_lt_zero _)⟩,fun _=>trivial⟩
 | p :: l,v=>by
  have ih:=zlr (b:=b) (l:=l) (v:=p.2)
  have e0:pe (p :: l) 0=p:=rfl
  have es:∀ k,pe (p :: l) (k+1)=pe l k:=fun k=>rfl
  constructor
  ·rintro ⟨h1,h2,h3⟩
   obtain ⟨h4,h5,h6⟩:=ih.1 h3
   refine ⟨fun k hk=>?_,fun _=>h2,fun k hk=>?_⟩
   ·match k with
    | 0=>exact h1
    | k+1=>rw [es];exact h4 k (by simpa using hk)
   ·rw [es]
    match k with
    | 0=>rw [e0];exact h5 (by simpa using hk)
    | k+1=>rw [es];exact h6 k (by simpa using hk)
  ·rintro ⟨h1,h2,h3⟩
   refine ⟨h1 0 (by simp),h2 (by simp),ih.2 ⟨fun k hk=>?_,fun h0=>?_,fun k hk=>?_⟩⟩
   ·have:=h1 (k+1) (by simpa using hk)
    rw [es] at this;exact this
   ·have:=h3 0 (by simpa using h0)
    rw [es,e0] at this;exact this
   ·have:=h3 (k+1) (by simpa using hk)
    rw [es,es] at this;exact this
theorem z9v {s:List Int} {a b:Int} (h:OkS s a b):∀ (n i:Nat),s.length - i<=n->Sml (plan s a b i)
 | n,i,hn=>by
  by_cases hi:s.length<=i
  ·rw [z4r hi];intro p hp;cases hp
  ·match n with
   | 0=>omega
   | n+1 =>
    obtain ⟨e,h1,h2,h3,h4⟩:=zeo h (i:=i) (by omega)
    rw [z5f h (by omega),h4]
    intro p hp
    rcases List.mem_cons.1 hp with rfl|hp
    ·exact ⟨h.at (by omega),h.at h2⟩
    ·exact z9v h n (e+1) (by omega) p hp
theorem zpc {s y:List Int} {a b:Int} (h:okS s a b=true):((prF s y a b).2=85 /\ (prF s y a b).1=0) ∨ ((prF s y a b).2=0 /\ (prF s y a b).1<=(bs s a b 0).1):=by
 unfold prF
 rw [if_pos h]
 split
 ·rename_i hn
  split
  ·cases hq:badA s y a b s.length with
   | true=>exact .inl ⟨rfl,rfl⟩
   | false =>
    refine .inr ⟨rfl,?_⟩
    have:=zlt (zhq h) hq s.length 0 (by omega) (by omega)
    rw [hn]
    exact this
  ·exact .inl ⟨rfl,rfl⟩
 ·exact .inl ⟨rfl,rfl⟩
def fewL (s:List Int) (k:Nat):List Int:=s.take k ++ s.drop (k+1)
theorem zln {s:List Int}:∀ {n:Nat},(∀ i,i < n->0<=el s i /\ el s i<=60000)->(∀ i,i+1 < n->el s i < el s (i+1))->okT s n=true
 | 0,_,_=>rfl
 | n+1,h1,h2=>by
  show (okT s n && (btB (el s n) 0 60000 && (decide (n=0) || decide (el s (n - 1) < el s n))))=true
  rw [zln (fun i hi=>h1 i (by omega)) (fun i hi=>h2 i (by omega)),show btB (el s n) 0 60000=true from decide_eq_true (h1 n (by omega))]
  match n with
  | 0=>rfl
  | n+1=>rw [show decide (el s (n+1 - 1) < el s (n+1))=true from decide_eq_true (h2 n (by omega)),Bool.or_true];rfl
theorem OkS.s {s:List Int} {a b:Int} (h:OkS s a b):okS s a b=true:=by
 unfold okS btB
 rw [decide_eq_true h.len,decide_eq_true h.a0,decide_eq_true h.b0,h.t];rfl
def rst8 (n m:Int):Int:=if m < 1 then 0 else (if Int.tmod n m < 0 then Int.tmod n m+m else Int.tmod n m)
theorem zi7 {n m:Int} (h:1<=m):0<=rst8 n m /\ rst8 n m < m:=by
 unfold rst8
 rw [if_neg (by omega)]
 have h1:=Int.tmod_lt_of_pos n (show 0 < m by omega)
 have h2:=Int.lt_tmod_of_pos n (show 0 < m by omega)
 split<;>omega
end Go.Proofs.YtbmgeagllpganaaGreatDoor.C
end
section
open Go PvL
set_option linter.unusedSimpArgs false
set_option linter.unusedVariables false
namespace Go.Proofs.YtbmgeagllpganaaGreatDoor.C
def smK (l:List Int):Nat->List Int->List Int
 | 0,o=>o
 | k+1,o=>if knB (getG l k) then (smK l k o).set k (getG l k) else smK l k o
theorem zpo (l:List Int) (k:Nat) (o:List Int):smK l (k+1) o=if knB (getG l k) then (smK l k o).set k (getG l k) else smK l k o:=rfl
theorem za0 (l:List Int):∀ (k:Nat) (o:List Int),(smK l k o).length=o.length
 | 0,_=>rfl
 | k+1,o=>by rw [zpo];split<;>simp [za0 l k o]
theorem zb4 {l:List Int} {k i:Nat} {v:Int} (hi:i < l.length):getG (l.set k v) i=if i=k then v else getG l i:=by
 unfold getG
 rw [List.getD_eq_getElem?_getD,List.getD_eq_getElem?_getD,List.getElem?_set]
 by_cases h:k=i
 ·subst h;rw [if_pos rfl,if_pos rfl,if_pos hi];rfl
 ·rw [if_neg h,if_neg (fun e=>h e.symm)]
theorem zia {l:List Int} {o:List Int} {i:Nat} (hi:i < o.length):∀ k,getG (smK l k o) i=if i < k /\ knB (getG l i)=true then getG l i else getG o i
 | 0=>by rw [if_neg (fun h=>absurd h.1 (Nat.not_lt_zero i))];rfl
 | k+1=>by
  have ih:=zia (l:=l) hi k
  have hl:i < (smK l k o).length:=by rw [za0];exact hi
  rw [zpo]
  by_cases hik:i=k
  ·subst hik
   rw [if_neg (fun h=>absurd h.1 (Nat.lt_irrefl i))] at ih
   cases hk:knB (getG l i) with
   | true=>rw [if_pos rfl,zb4 hl,if_pos rfl,if_pos ⟨by omega,rfl⟩]
   | false=>simp [ih]
  ·have hset:getG (if knB (getG l k)=true then (smK l k o).set k (getG l k) else smK l k o) i=getG (smK l k o) i:=by
    split
    ·rw [zb4 hl,if_neg hik]
    ·rfl
   rw [hset,ih]
   by_cases h:i < k
   ·simp [h,show i < k+1 by omega]
   ·simp [h,show ¬ i < k+1 by omega]
theorem zpn {l:List Int} {S:Nat}:∀ (k:Nat) (o:List Int),o.length=S->allK o S=true->allK (smK l k o) S=true:=fun k o ho h=>by
 rw [z35] at h ⊢
 intro i hi
 rw [zia (by omega)]
 split
 ·rename_i h2;exact h2.2
 ·exact h i hi
def smI (L:List Fr) (s c:Int) (S:Nat):Nat->List Int
 | 0=>List.replicate S 0
 | i+1=>if mtB s c (fe L i) then smK (fe L i).2.2 (min (fe L i).2.2.length S) (smI L s c S i) else smI L s c S i
theorem zne (L:List Fr) (s c:Int) (S i:Nat):smI L s c S (i+1)=if mtB s c (fe L i) then smK (fe L i).2.2 (min (fe L i).2.2.length S) (smI L s c S i) else smI L s c S i:=rfl
theorem z2n (L:List Fr) (s c:Int) (S:Nat):∀ i,(smI L s c S i).length=S
 | 0=>List.length_replicate
 | i+1=>by rw [zne];split<;>simp [za0,z2n L s c S i]
theorem zbx (L:List Fr) (s c:Int) (S:Nat):∀ i,allK (smI L s c S i) S=true
 | 0=>by
  rw [z35]
  intro k hk
  have e:getG (smI L s c S 0) k=0:=by
   show getG (List.replicate S (0:Int)) k=0
   rw [z11 (by rw [List.length_replicate];exact hk)]
   exact List.getElem_replicate _
  rw [e];rfl
 | i+1=>by
  rw [zne]
  split
  ·exact zpn _ _ (z2n L s c S i) (zbx L s c S i)
  ·exact zbx L s c S i
theorem zpm {L:List Fr} {s c:Int} {S n i k:Nat} (h:rlK L n=true) (hi:i < n) (hm:mtB s c (fe L i)=true) (hk:k < S) (hl:k < (fe L i).2.2.length) (hkn:knB (getG (fe L i).2.2 k)=true):getG (smI L s c S n) k=getG (fe L i).2.2 k:=by
 have hother:∀ j,j < n->j ≠ i->mtB s c (fe L j)=false:=fun j hj hji=>by
  cases hmj:mtB s c (fe L j) with
  | false=>rfl
  | true =>
   have:=zlk hm hmj
   rcases Nat.lt_or_ge i j with h1|h1
   ·have:=ze8 h h1 hj;omega
   ·have:=ze8 h (show j < i by omega) hi;omega
 have key:∀ m,i < m->m<=n->getG (smI L s c S m) k=getG (fe L i).2.2 k:=by
  intro m
  induction m with
  | zero=>intro h;omega
  | succ m ih =>
   intro h1 h2
   rw [zne]
   by_cases hmi:m=i
   ·subst hmi
    rw [if_pos hm,zia (by rw [z2n];exact hk),if_pos ⟨by omega,hkn⟩]
   ·rw [hother m (by omega) hmi]
    exact ih (by omega) (by omega)
 exact key n hi (Nat.le_refl n)
def chF (L:List Fr) (s:Int) (S:Nat) (n:Nat):List Fr:=(List.range n).map fun (c:Nat)=>(s,(c:Int),smI L s c S L.length)
theorem zqn (L:List Fr) (s:Int) (S n:Nat):chF L s S (n+1)=chF L s S n ++ [(s,(n:Int),smI L s n S L.length)]:=by unfold chF;rw [List.range_succ,List.map_append];rfl
theorem zgg (L:List Fr) (s:Int) (S n:Nat):(chF L s S n).length=n:=by unfold chF;simp
def shF (L:List Fr) (lo:Int) (S Ch:Nat) (m:Nat):List Fr:=(List.range m).flatMap fun (j:Nat)=>chF L (lo+j) S Ch
theorem zpj (L:List Fr) (lo:Int) (S Ch m:Nat):shF L lo S Ch (m+1)=shF L lo S Ch m ++ chF L (lo+m) S Ch:=by unfold shF;rw [List.range_succ,List.flatMap_append];simp
theorem zd1 (L:List Fr) (lo:Int) (S Ch:Nat):∀ m,(shF L lo S Ch m).length=m*Ch
 | 0=>by simp [shF]
 | m+1=>by rw [zpj,List.length_append,zd1 L lo S Ch m,zgg,Nat.succ_mul]
def paF (L:List Fr) (l:List (Int × Int)) (S Ch:Nat) (n:Nat):List Fr:=(List.range n).flatMap fun (i:Nat)=>shF L (pe l i).1 S Ch (many (pe l i)).toNat
theorem zp8 (L:List Fr) (l:List (Int × Int)) (S Ch n:Nat):paF L l S Ch (n+1)=paF L l S Ch n ++ shF L (pe l n).1 S Ch (many (pe l n)).toNat:=by unfold paF;rw [List.range_succ,List.flatMap_append];simp
theorem zcv {L:List Fr} {l:List (Int × Int)} {S Ch:Nat} (h:∀ i,i < l.length->many (pe l i)<=1000) (hc:Ch<=24):∀ n,n<=l.length->(paF L l S Ch n).length<=n*24000
 | 0,_=>by simp [paF]
 | n+1,hn=>by
  rw [zp8,List.length_append,zd1]
  have h1:=zcv (L:=L) (S:=S) h hc n (by omega)
  have h2:=h n (by omega)
  have h3:(many (pe l n)).toNat*Ch<=1000*24:=Nat.mul_le_mul (by omega) hc
  omega
theorem zcw {L:List Fr} {l:List (Int × Int)} {S Ch n:Nat} {x:Fr}:x ∈ paF L l S Ch n ↔ ∃ i,i < n /\ ∃ j:Nat,j < (many (pe l i)).toNat /\ ∃ c:Nat,c < Ch /\ x=((pe l i).1+j,(c:Int),smI L ((pe l i).1+j) c S L.length):=by
 unfold paF shF chF
 simp only [List.mem_flatMap,List.mem_range,List.mem_map]
 constructor
 ·rintro ⟨i,h1,j,h2,c,h3,rfl⟩;exact ⟨i,h1,j,h2,c,h3,rfl⟩
 ·rintro ⟨i,h1,j,h2,c,h3,rfl⟩;exact ⟨i,h1,j,h2,c,h3,rfl⟩
theorem zbp {L:List Fr} {w:Wn}:∀ n,(poorL L w n).Pairwise (fun a b=>a < b) /\ ∀ x ∈ poorL L w n,w.1<=x /\ x < w.1+n
 | 0=>⟨List.Pairwise.nil,fun _ h=>(nomatch h)⟩
 | n+1=>by
  obtain ⟨h1,h2⟩:=zbp (L:=L) (w:=w) n
  rw [z9x]
  split
  ·refine ⟨List.pairwise_append.2 ⟨h1,List.pairwise_singleton _ _,fun a ha b hb=>?_⟩,fun x hx=>?_⟩
   ·have:=h2 a ha
    have hb:b=w.1+n:=by simpa using hb
    omega
   ·rcases List.mem_append.1 hx with hx|hx
    ·have:=h2 x hx;omega
    ·have hx:x=w.1+n:=by simpa using hx
     omega
  ·rw [List.append_nil]
   exact ⟨h1,fun x hx=>by have:=h2 x hx;omega⟩
theorem zbo {x:Rl} {w:Wn} {a b:Int} (he:(poorF x w).2=0) (hl:(poorF x w).1.length<=128) (ha:0<=a /\ a<=1000) (hb:1<=b /\ b<=1000):okS (poorF x w).1 a b=true:=by
 obtain ⟨h1,h2⟩:=z9w he
 have hw:=zc1 h2
 have e:(poorF x w).1=poorL x.2 w (w.2.1 - w.1+1).toNat:=by unfold poorF;rw [if_pos h1,if_pos h2]
 rw [e] at hl ⊢
 obtain ⟨h3,h4⟩:=zbp (L:=x.2) (w:=w) (w.2.1 - w.1+1).toNat
 generalize poorL x.2 w (w.2.1 - w.1+1).toNat=PL at *
 unfold okS
 rw [decide_eq_true hl,show btB a 0 1000=true from by unfold btB;rw [decide_eq_true];exact ha,show btB b 1 1000=true from by unfold btB;rw [decide_eq_true];exact hb]
 show (true && okT PL PL.length)=true
 rw [Bool.true_and]
 refine zln (fun i hi=>?_) fun i hi=>?_
 ·rw [z4e hi]
  have:=h4 _ (List.getElem_mem hi)
  omega
 ·rw [z4e hi,z4e (show i < PL.length by omega)]
  exact List.pairwise_iff_getElem.1 h3 i (i+1) (by omega) hi (by omega)
theorem zag {L:List Fr} {sm:Nat} {s:Int} {n:Nat}:∀ {c:Nat},(∀ d:Nat,d < c->goodB L sm s n d=true)->badN L sm s n c=0
 | 0,_=>rfl
 | c+1,h=>by rw [z5n,zag (fun d hd=>h d (by omega)),h c (by omega)];rfl
theorem zmz {r more:List Fr} {S:Nat} (hr:GdL r) (hm:GdL more) (hall:∀ x ∈ more,x.2.2=smI r x.1 x.2.1 S r.length) (ht:∀ z ∈ r,40001 ∉ z.2.2):∀ z ∈ jnL r more,40001 ∉ z.2.2:=by
 obtain ⟨hJ,hlk⟩:=z5v hr hm
 intro z hz hc
 have h1:=z8l hJ.s z hz
 rw [hlk] at h1
 have hB:∀ y ∈ more,∀ k,k < y.2.2.length->knB (getG y.2.2 k)=true:=fun y hy k hk=>by
  rw [hall y hy] at hk ⊢
  rw [z2n] at hk
  exact z35.1 (zbx r y.1 y.2.1 S r.length) k hk
 have hBt:∀ y ∈ more,40001 ∉ y.2.2:=fun y hy h=>by
  obtain ⟨k,hk,he⟩:=List.mem_iff_getElem.1 h
  have:=hB y hy k hk
  rw [z11 hk,he] at this
  exact absurd this (by decide)
 cases ha:lkJ r (fky z) with
 | none =>
  cases hb:lkJ more (fky z) with
  | none=>rw [ha,hb] at h1;cases h1
  | some b =>
   rw [ha,hb] at h1
   have e:b=z.2.2:=Option.some.inj h1
   obtain ⟨y,hy,_,e2⟩:=z39 hb
   exact hBt y hy (by rw [e2,e];exact hc)
 | some a =>
  obtain ⟨x,hx,hxk,e1⟩:=z39 ha
  cases hb:lkJ more (fky z) with
  | none =>
   rw [ha,hb] at h1
   have e:a=z.2.2:=Option.some.inj h1
   exact ht x hx (by rw [e1,e];exact hc)
  | some b =>
   obtain ⟨y,hy,hyk,e2⟩:=z39 hb
   rw [ha,hb] at h1
   have e:bothL a b=z.2.2:=Option.some.inj h1
   rw [<-e] at hc
   obtain ⟨k,hk,he⟩:=List.mem_iff_getElem.1 hc
   have hj:joinI (getG a k) (getG b k)=40001:=by rw [<-z1k,z11 hk,he]
   have hat:getG a k ≠ 40001:=fun h=>by
    by_cases hl:k < a.length
    ·rw [z11 hl] at h
     exact ht x hx (by rw [e1,<- h];exact List.getElem_mem hl)
    ·rw [z2h (by omega)] at h;exact absurd h (by decide)
   unfold joinI at hj
   by_cases h2:getG a k=getG b k ∨ getG b k=40000
   ·rw [if_pos h2] at hj;exact hat hj
   rw [if_neg h2] at hj
   have h2a:getG a k ≠ getG b k:=fun h=>h2 (.inl h)
   have h2b:getG b k ≠ 40000:=fun h=>h2 (.inr h)
   have hbl:k < b.length:=Nat.lt_of_not_le fun h=>h2b (z2h h)
   by_cases h3:getG a k=40000
   ·rw [if_pos h3] at hj
    have:=hB y hy k (by rw [e2];exact hbl)
    rw [e2,hj] at this
    exact absurd this (by decide)
   have hal:k < a.length:=Nat.lt_of_not_le fun h=>h3 (z2h h)
   obtain ⟨n,hn,rfl⟩:=List.mem_iff_getElem.1 hx
   have hsm:smB (getG a k)=true:=by
    have hf:=hr.b _ (List.getElem_mem hn)
    have hs:smsB r[n].2.2=true:=by
     unfold frB at hf
     simp only [Bool.and_eq_true] at hf
     exact hf.2.2
    unfold smsB at hs
    simp only [Bool.and_eq_true] at hs
    rw [z11 hal]
    have hs2:=hs.2
    rw [e1] at hs2
    exact List.all_eq_true.1 hs2 _ (List.getElem_mem hal)
   have hkn:knB (getG a k)=true:=by
    unfold smB at hsm
    simp only [Bool.or_eq_true,decide_eq_true_eq] at hsm
    rcases hsm with h|h|h
    ·exact h
    ·exact absurd h h3
    ·exact absurd h hat
   have hS:k < S:=by
    have:=hall y hy
    rw [e2] at this
    rw [this,z2n] at hbl
    exact hbl
   have hmt:mtB y.1 y.2.1 (fe r n)=true:=by
    rw [z1z hn]
    have hk2:fky r[n]=fky y:=hxk.trans hyk.symm
    unfold mtB
    have hk3:(r[n].1,r[n].2.1)=(y.1,y.2.1):=hk2
    injection hk3 with hk4 hk5
    rw [decide_eq_true hk4,decide_eq_true hk5]
    rfl
   have e3:(fe r n).2.2=a:=by rw [z1z hn];exact e1
   have:=zpm (S:=S) (hr.rlK _ (Nat.le_refl _)) hn hmt hS (by rw [e3];exact hal) (by rw [e3];exact hkn)
   rw [e3,<- hall y hy,e2] at this
   exact h2a this.symm
theorem zfx {x:Rl} {w:Wn} {a b:Int} (he:(poorF x w).2=0) (hl:(poorF x w).1.length<=128) (ha:0<=a /\ a<=1000) (hb:1<=b /\ b<=1000)
  (hm:mgOk x (x.1,paF x.2 (plan (poorF x w).1 a b 0) w.2.2.2.1.toNat w.2.2.1.toNat (plan (poorF x w).1 a b 0).length)) (ht:∀ z ∈ x.2,40001 ∉ z.2.2) :
  (poorF (x.1,jnL x.2 (paF x.2 (plan (poorF x w).1 a b 0) w.2.2.2.1.toNat w.2.2.1.toNat (plan (poorF x w).1 a b 0).length)) w).1=[]:=by
 obtain ⟨h1,h2⟩:=z9w he
 have hw:=zc1 h2
 have hok:=zhq (zbo he hl ha hb)
 have hg1:=(err0 h1).2.2
 have hcov:=ze3 hok _ 0 (Nat.le_refl _)
 have hsml:=z9v hok _ 0 (Nat.le_refl _)
 have hri:=zhy (x:=x) (y:=(x.1,paF x.2 (plan (poorF x w).1 a b 0) w.2.2.2.1.toNat w.2.2.1.toNat (plan (poorF x w).1 a b 0).length)) hm h2
 generalize hPL:plan (poorF x w).1 a b 0=PL at *
 generalize hmo:paF x.2 PL w.2.2.2.1.toNat w.2.2.1.toNat PL.length=MO at *
 have hg2:GdL MO:=(err0 hm.2.1).2.2
 have hnt:=zmz hg1 hg2 (fun y hy=>by
  rw [<-hmo] at hy
  obtain ⟨i,_,j,_,c,_,rfl⟩:=zcw.1 hy
  rfl) ht
 have hri:=hri hnt
 refine List.eq_nil_iff_forall_not_mem.2 fun s hs=>?_
 have hs1:=hri s hs
 obtain ⟨k,hk,rfl⟩:=List.mem_iff_getElem.1 hs1
 obtain ⟨p,hp,hp1,hp2⟩:=hcov k (Nat.zero_le _) hk
 rw [z4e hk] at hp1 hp2
 obtain ⟨i,hi,rfl⟩:=List.mem_iff_getElem.1 hp
 have hpe:pe PL i=PL[i]:=zk9 hi
 have hgood:∀ d:Nat,d < w.2.2.1.toNat->goodB MO w.2.2.2.1.toNat (poorF x w).1[k] MO.length d=true:=fun d hd=>by
  have hmem:((PL[i].1+(((poorF x w).1[k] - PL[i].1).toNat:Nat)),(d:Int),smI x.2 (PL[i].1+(((poorF x w).1[k] - PL[i].1).toNat:Nat)) d w.2.2.2.1.toNat x.2.length) ∈ MO:=by
   rw [<-hmo]
   refine zcw.2 ⟨i,hi,((poorF x w).1[k] - PL[i].1).toNat,?_,d,hd,?_⟩
   ·rw [hpe];unfold many;omega
   ·rw [hpe]
  rw [show PL[i].1+(((poorF x w).1[k] - PL[i].1).toNat:Int)=(poorF x w).1[k] by omega] at hmem
  obtain ⟨n,hn,he⟩:=List.mem_iff_getElem.1 hmem
  refine z4h.2 ⟨n,hn,?_,?_⟩
  ·rw [z1z hn,he]
   exact zbx _ _ _ _ _
  ·rw [z1z hn,he]
   unfold mtB
   simp
 have hbad:=zag hgood
 have hpq:pq MO w (poorF x w).1[k]=false:=by
  rw [zna (hg2.rlK _ (Nat.le_refl _)) h2,hbad,decide_eq_false_iff_not]
  omega
 have hpq2:pq MO w (poorF x w).1[k]=true:=by
  refine zhz hg2 hg1 h2 (fun y hy=>hnt y (by rw [zdp hg1 hg2];exact hy)) ?_
  rw [zdp hg2 hg1]
  have hs2:=hs
  unfold poorF at hs2
  rw [if_pos (zdw hm),if_pos h2] at hs2
  exact (z4s.1 hs2).choose_spec.2.2
 rw [hpq] at hpq2
 cases hpq2
theorem zhh {x:Rl} {l:List Fr} (h1:errRl x=0) (h:(mergeF x (x.1,l)).2 ≠ 0):(mergeF x (x.1,l)).2=6 ∨ (mergeF x (x.1,l)).2=81:=by
 unfold mergeF at *
 rw [if_pos h1] at h ⊢
 by_cases h2:errRl (x.1,l)=0
 ·rw [if_pos h2,if_pos rfl] at h ⊢
  split
  ·rename_i h3;rw [if_pos h3] at h;exact absurd rfl h
  ·exact .inl rfl
 ·rw [if_neg h2]
  right
  unfold errRl at h2 ⊢
  split
  ·rename_i h3;rw [if_pos h3] at h2;exact absurd rfl h2
  ·rfl
end Go.Proofs.YtbmgeagllpganaaGreatDoor.C
end
section
open Go PvL Go.Proofs
set_option linter.unusedSimpArgs false
set_option linter.unusedVariables false
namespace Go.Proofs.YtbmgeagllpganaaGreatDoor.C
theorem FsV.at8 {M:Mem} {a:Option (Nat × Nat)} {L:List Fr} (h:FsV M a L) {k:Nat} (hk:k < L.length):∃ i o b g u,a=some (i,o) /\ Rd M i (o+k*3) 3 [I (fe L k).1,I (fe L k).2.1,.slice b (fe L k).2.2.length g u] /\ SlI M b (fe L k).2.2:=by
 obtain ⟨i,o,b,g,u,h1,h2,b',g',u',h3,h4⟩:=h.rd hk
 cases h3
 exact ⟨i,o,b,g,u,h1,h2,h4⟩
theorem zmd {M:Mem} {a:Option (Nat × Nat)} {l:List Int} {f:Bool} {e:Nat} {v:Int} (hs:SlI M a l) (hl:l.length<=1000000):CallOk Tryz.prog 25 [.slice a l.length f e,I v] M (fun w M'=>(∃ r:Int,w=I r /\ (0<=r ↔ v ∈ l) /\ -1<=r /\ r<=1000000) /\ M'=M):=by
 refine zj k25 rfl ?_
 dsimp only [x25,zipE,Nat.reduceAdd]
 (repeat' (first|(with_reducible intro _)|refine sv ?_|(refine sc ?_ ?_<;>(intro h;try first|exact h.elim|exact absurd rfl h|(exfalso;omega)))|(refine sg ?_ ?_<;>(intro h;(fail_if_success (have:True:=h));try first|exact h.elim|exact absurd rfl h|(exfalso;omega)))|assumption|exact xm|exact rfl))
 refine zg (fun m E ms M'=>∃ k:Nat,m=l.length - k /\ k<=l.length /\ ms=[] /\ Has E [(0,.slice a l.length f e),(1,I v),(5,I k)] /\ M'=M /\ ∀ j,j < k->∀ hj:j < l.length,l[j] ≠ v)
  ?_ l.length _ _ _ ⟨0,by omega,by omega,rfl,.cons rfl (.cons rfl (.cons rfl .nil)),rfl,fun j hj=>absurd hj (Nat.not_lt_zero _)⟩
 rintro m E ms M1 ⟨k,rfl,hk,rfl,hE,rfl,hall⟩
 refine z02 hE ?_
 by_cases hlast:k=l.length
 ·subst hlast
  (repeat' (first|(with_reducible intro _)|refine sv ?_|(refine sc ?_ ?_<;>(intro h;try first|exact h.elim|exact absurd rfl h|(exfalso;omega)))|(refine sg ?_ ?_<;>(intro h;(fail_if_success (have:True:=h));try first|exact h.elim|exact absurd rfl h|(exfalso;omega)))|assumption|exact xm|exact rfl))
  ((with_reducible first|apply zi|apply zc);exact rx)
  refine ⟨⟨-1,rfl,⟨fun h=>absurd h (by decide),fun h=>?_⟩,by decide,by decide⟩,rfl⟩
  obtain ⟨j,hj,hj2⟩:=List.mem_iff_getElem.1 h
  exact absurd hj2 (hall j hj hj)
 have hlt:k < l.length:=by omega
 obtain ⟨i,o,rfl,hr⟩:=hs.rd hlt
 (have hrd0:=hr;repeat' (first|(with_reducible intro _)|refine sv ?_|(refine sc ?_ ?_<;>(intro h;try first|exact h.elim|exact absurd rfl h|(exfalso;omega)))|(refine sg ?_ ?_<;>(intro h;(fail_if_success (have:True:=h));try first|exact h.elim|exact absurd rfl h|(exfalso;omega)))|assumption|exact xm|exact rfl))
 ·((with_reducible first|apply zi|apply zc);exact rx)
  exact ⟨⟨k,rfl,⟨fun _=>by rw [<-h];exact List.getElem_mem hlt,fun _=>by omega⟩,by omega,by omega⟩,rfl⟩
 ·refine zk (l.length - (k+1)) (by omega) ⟨k+1,rfl,by omega,rfl,.cons rfl (.cons rfl (.cons rfl .nil)),rfl,fun j hj hj'=>?_⟩
  by_cases hjk:j=k
  ·subst hjk;exact h
  ·exact hall j (by omega) hj'
theorem zok {M:Mem} {v:LV} {x:Rl} (hv:RlV M v x) (hx:errRl x=0):CallOk Tryz.prog 11 [v] M (fun w M'=>∃ b,w=.bool b /\ (b=false->∀ z ∈ x.2,40001 ∉ z.2.2) /\ Grow M M'):=by
 obtain ⟨hx1,hx2,hx3⟩:=err0 hx
 obtain ⟨a,f,e,rfl,hs⟩:=hv
 refine zj k11 rfl ?_
 dsimp only [x11,zipE,Nat.reduceAdd]
 (repeat' (first|(with_reducible intro _)|refine sv ?_|(refine sc ?_ ?_<;>(intro h;try first|exact h.elim|exact absurd rfl h|(exfalso;omega)))|(refine sg ?_ ?_<;>(intro h;(fail_if_success (have:True:=h));try first|exact h.elim|exact absurd rfl h|(exfalso;omega)))|assumption|exact xm|exact rfl))
 rename_i n1 M1 hN1 q1 q2
 have a1:At M1 n1 (.cells true [.str x.1,.slice a x.2.length f e] 24):=At.new_same hN1
 have hg1:=hN1.grow
 clear hN1
 refine zg (fun m E ms M'=>∃ k:Nat,m=x.2.length - k /\ k<=x.2.length /\ ms=[] /\ Has E [(1,.ptr (some (n1,0))),(3,I k)] /\ M'=M1 /\ ∀ j,j < k->∀ hj:j < x.2.length,40001 ∉ x.2[j].2.2)
  ?_ x.2.length _ _ _ ⟨0,by omega,by omega,rfl,.cons rfl (.cons rfl .nil),rfl,fun j hj=>absurd hj (Nat.not_lt_zero _)⟩
 rintro m E ms M2 ⟨k,rfl,hk,rfl,hE,rfl,hall⟩
 refine z02 hE ?_
 have r1:Rd1 M2 n1 (0+1) (.slice a x.2.length f e):=Rd1.of_at a1 rfl
 by_cases hlast:k=x.2.length
 ·rw [hlast]
  (have hrd0:=r1;repeat' (first|(with_reducible intro _)|refine sv ?_|(refine sc ?_ ?_<;>(intro h;try first|exact h.elim|exact absurd rfl h|(exfalso;omega)))|(refine sg ?_ ?_<;>(intro h;(fail_if_success (have:True:=h));try first|exact h.elim|exact absurd rfl h|(exfalso;omega)))|assumption|exact xm|exact rfl))
  all_goals try (exfalso;omega)
  ((with_reducible first|apply zi|apply zc);exact rx)
  refine ⟨false,rfl,fun _ z hz=>?_,hg1⟩
  obtain ⟨j,hj,rfl⟩:=List.mem_iff_getElem.1 hz
  exact hall j (by omega) hj
 have hlt:k < x.2.length:=by omega
 obtain ⟨i,o,bk,gk,uk,rfl,hrk,hsk⟩:=FsV.at8 (hs.grow hg1) hlt
 have r6:Rd1 M2 i (o+k*3+2) (.slice bk (fe x.2 k).2.2.length gk uk):=Rd.nth (j:=2) hrk rfl
 have hln:=(z6x (hx3.b (fe x.2 k) (by rw [z1z hlt];exact List.getElem_mem hlt))).2
 have ci:=zmd (f:=gk) (e:=uk) (v:=40001) hsk (by omega)
 (have hrd0:=r1;have hrd1:=r6;repeat' (first|(with_reducible intro _)|refine sv ?_|(refine sc ?_ ?_<;>(intro h;try first|exact h.elim|exact absurd rfl h|(exfalso;omega)))|((with_reducible first|apply zw|apply zy|apply zn);exact gd;exact rfl;exact rfl;(first|exact ci))|(refine sg ?_ ?_<;>(intro h;(fail_if_success (have:True:=h));try first|exact h.elim|exact absurd rfl h|(exfalso;omega)))|assumption|exact xm|exact rfl))
 rename_i w9 M9 hq
 obtain ⟨⟨r,rfl,hr1,hr2,hr3⟩,rfl⟩:=hq
 (repeat' (first|(with_reducible intro _)|refine sv ?_|(refine sc ?_ ?_<;>(intro h;try first|exact h.elim|exact absurd rfl h|(exfalso;omega)))|(refine sg ?_ ?_<;>(intro h;(fail_if_success (have:True:=h));try first|exact h.elim|exact absurd rfl h|(exfalso;omega)))|assumption|exact xm|exact rfl))
 ·((with_reducible first|apply zi|apply zc);exact rx)
  exact ⟨true,rfl,fun h=>absurd h (by decide),hg1⟩
 ·refine zk (x.2.length - (k+1)) (by omega) ⟨k+1,rfl,by omega,rfl,.cons rfl (.cons rfl .nil),rfl,fun j hj hj'=>?_⟩
  by_cases hjk:j=k
  ·subst hjk
   rw [<-z1z hj']
   intro hc
   have:=hr1.2 hc
   omega
  ·exact hall j (by omega) hj'
theorem ze6:∀ n:Nat,rep n [I 0]=(List.replicate n (0:Int)).flatMap intc
 | 0=>rfl
 | n+1=>by
  show [I 0] ++ rep n [I 0]=_
  rw [ze6 n];rfl
set_option maxHeartbeats 16000000 in
theorem zgd {M:Mem} {v:LV} {x:Rl} {s c:Int} {S:Nat} (hv:RlV M v x) (hx:errRl x=0) (hS:1<=S /\ S<=64) (hs0:I64 s) (hc0:I64 c) :
  CallOk Tryz.prog 9 [v,I s,I c,I S] M (fun w M'=>∃ nb,w=.slice (some (nb,0)) S true 1 /\ M.next<=nb /\ At M' nb (.cells true ((smI x.2 s c S x.2.length).flatMap intc) 3) /\ Grow M M'):=by
 obtain ⟨hx1,hx2,hx3⟩:=err0 hx
 obtain ⟨a,f,e,rfl,hs⟩:=hv
 refine zj k9 rfl ?_
 dsimp only [x9,zipE,Nat.reduceAdd]
 (repeat' (first|(with_reducible intro _)|refine sv ?_|(refine sc ?_ ?_<;>(intro h;try first|exact h.elim|exact absurd rfl h|(exfalso;omega)))|(refine sg ?_ ?_<;>(intro h;(fail_if_success (have:True:=h));try first|exact h.elim|exact absurd rfl h|(exfalso;omega)))|assumption|exact xm|exact rfl))
 rename_i n1 M1 hN1 q1 q2
 have a1:At M1 n1 (.cells true [.str x.1,.slice a x.2.length f e] 24):=At.new_same hN1
 have hg1:=hN1.grow
 have hn1:M.next<=n1:=by omega
 clear hN1
 refine znr (by exact gd) (zix rfl rfl (Nat.le_refl _) (by omega) (by omega)) ?_
 have hN2:New M1 M1.next (.cells true (rep S [I 0]) 3) (M1.push (.cells true (rep S [I 0]) 3)):=⟨rfl,rfl⟩
 generalize hM2:M1.push (.cells true (rep S [I 0]) 3)=M2 at hN2 ⊢
 generalize hnb:M1.next=nb at hN2
 have e2:=hN2.next
 have a2:=At.new_same hN2
 have a1:=At.grow hN2.grow a1
 have hg2:=hg1.trans hN2.grow
 rw [ze6] at a2
 have hnb0:n1 < nb:=by omega
 clear hN2
 refine z7y (t:=14) (v':=.slice (some (nb,0)) S true 1) rfl (by simp) ?_
 (repeat' (first|(with_reducible intro _)|refine sv ?_|(refine sc ?_ ?_<;>(intro h;try first|exact h.elim|exact absurd rfl h|(exfalso;omega)))|(refine sg ?_ ?_<;>(intro h;(fail_if_success (have:True:=h));try first|exact h.elim|exact absurd rfl h|(exfalso;omega)))|assumption|exact xm|exact rfl))
 refine zg (fun m E ms M'=>∃ i:Nat,m=x.2.length - i /\ i<=x.2.length /\ ms=[] /\ Has E [(1,I s),(2,I c),(3,I S),(4,.ptr (some (n1,0))),(9,.slice (some (nb,0)) S true 1),(10,I i)] /\ Grow M M' /\ M2.next<=M'.next /\ At M' n1 (.cells true [.str x.1,.slice a x.2.length f e] 24) /\ At M' nb (.cells true ((smI x.2 s c S i).flatMap intc) 3))
  ?_ x.2.length _ _ _ ⟨0,by omega,by omega,rfl,.cons rfl (.cons rfl (.cons rfl (.cons rfl (.cons rfl (.cons rfl .nil))))),hg2,Nat.le_refl _,a1,a2⟩
 rintro m E ms M3 ⟨i,rfl,hi,rfl,hE,hg3,hl3,a3,b3⟩
 refine z02 hE ?_
 have r1:Rd1 M3 n1 (0+1) (.slice a x.2.length f e):=Rd1.of_at a3 rfl
 by_cases hlast:i=x.2.length
 ·rw [hlast] at b3 ⊢
  (have hrd0:=r1;repeat' (first|(with_reducible intro _)|refine sv ?_|(refine sc ?_ ?_<;>(intro h;try first|exact h.elim|exact absurd rfl h|(exfalso;omega)))|(refine sg ?_ ?_<;>(intro h;(fail_if_success (have:True:=h));try first|exact h.elim|exact absurd rfl h|(exfalso;omega)))|assumption|exact xm|exact rfl))
  all_goals try (exfalso;omega)
  ((with_reducible first|apply zi|apply zc);exact rx)
  exact ⟨nb,rfl,by omega,b3,hg3⟩
 have hlt:i < x.2.length:=by omega
 obtain ⟨p,o,bk,gk,uk,rfl,hrk,hsk⟩:=FsV.at8 hs hlt
 have hrk3:=hrk.grow hg3
 have hfb:=hx3.b (fe x.2 i) (by rw [z1z hlt];exact List.getElem_mem hlt)
 have hln:=(z6x hfb).2
 have hfd:=z5u hfb
 have hfs:smI x.2 s c S (i+1)=if mtB s c (fe x.2 i) then smK (fe x.2 i).2.2 (min (fe x.2 i).2.2.length S) (smI x.2 s c S i) else smI x.2 s c S i:=rfl
 have hol:=z2n x.2 s c S i
 generalize smI x.2 s c S i=O at *
 generalize hfe:fe x.2 i=z at *
 obtain ⟨u1,u2,ul⟩:=z
 clear hfe
 dsimp only at *
 (have hrd0:=r1;have hrd1:=hrk3;repeat' (first|(with_reducible intro _)|refine sv ?_|(refine sc ?_ ?_<;>(intro h;try first|exact h.elim|exact absurd rfl h|(exfalso;omega)))|(refine sg ?_ ?_<;>(intro h;(fail_if_success (have:True:=h));try first|exact h.elim|exact absurd rfl h|(exfalso;omega)))|assumption|exact xm|exact rfl))
 rename_i n4 M4 A1 A2 A3 M5 A4 A5 A6
 have hg5:Grow M3 M5:=xg
 have a5:=At.grow hg5 a3
 have b5:=At.grow hg5 b3
 have hgg:=hg3.trans hg5
 have hn4:n4 < M5.next:=A6.2
 have hn4b:M3.next<=n4:=by omega
 clear A1 A4 hg5
 by_cases hmt:u1=s /\ u2=c
 case neg =>
  have hm0:mtB s c (u1,u2,ul)=false:=by
   unfold mtB
   cases h1:decide (u1=s) with
   | false=>rfl
   | true =>
    cases h2:decide (u2=c) with
    | false=>rfl
    | true=>exact absurd ⟨of_decide_eq_true h1,of_decide_eq_true h2⟩ hmt
  rw [hm0] at hfs
  have hfs:smI x.2 s c S (i+1)=O:=hfs
  rw [<-hfs] at b5
  refine zg (fun z E ms M'=>z=0 /\ ms=[] /\ Has E [(1,I s),(2,I c),(3,I S),(4,.ptr (some (n1,0))),(9,.slice (some (nb,0)) S true 1),(10,I i),(11,.ptr (some (n4,0))),(12,I 0)] /\ M'=M5)
   ?_ 0 _ _ _ ⟨rfl,rfl,.cons rfl (.cons rfl (.cons rfl (.cons rfl (.cons rfl (.cons rfl (.cons rfl (.cons rfl .nil))))))),rfl⟩
  rintro z E ms M6 ⟨rfl,rfl,hE,rfl⟩
  refine z02 hE ?_
  have t1:Rd1 M6 n4 (0+0) (I u1):=Rd1.of_at A6 rfl
  have t2:Rd1 M6 n4 (0+1) (I u2):=Rd1.of_at A6 rfl
  (have hrd0:=t1;have hrd1:=t2;repeat' (first|(with_reducible intro _)|refine sv ?_|(refine sc ?_ ?_<;>(intro h;try first|exact h.elim|exact absurd rfl h|(exfalso;omega)))|(refine sg ?_ ?_<;>(intro h;(fail_if_success (have:True:=h));try first|exact h.elim|exact absurd rfl h|(exfalso;omega)))|assumption|exact xm|exact rfl))
  all_goals try (exfalso;omega)
  all_goals exact zk (x.2.length - (i+1)) (by omega) ⟨i+1,rfl,by omega,rfl,.cons rfl (.cons rfl (.cons rfl (.cons rfl (.cons rfl (.cons rfl .nil))))),hgg,by omega,a5,b5⟩
 obtain ⟨rfl,rfl⟩:=hmt
 have hm1:mtB u1 u2 (u1,u2,ul)=true:=by unfold mtB;simp
 rw [hm1,if_pos rfl] at hfs
 refine zg (fun z E ms M'=>∃ k:Nat,z=min ul.length S - k /\ k<=min ul.length S /\ ms=[] /\ Has E [(1,I u1),(2,I u2),(3,I S),(4,.ptr (some (n1,0))),(9,.slice (some (nb,0)) S true 1),(10,I i),(11,.ptr (some (n4,0))),(12,I k)] /\ Grow M M' /\ M5.next<=M'.next /\ At M' n1 (.cells true [.str x.1,.slice (some (p,o)) x.2.length f e] 24) /\ At M' n4 (.cells true [I u1,I u2,.slice bk ul.length gk uk] 43) /\ At M' nb (.cells true ((smK ul k O).flatMap intc) 3))
   ?_ (min ul.length S) _ _ _ ⟨0,rfl,by omega,rfl,.cons rfl (.cons rfl (.cons rfl (.cons rfl (.cons rfl (.cons rfl (.cons rfl (.cons rfl .nil))))))),hgg,Nat.le_refl _,a5,A6,b5⟩
 rintro z E ms M6 ⟨k,rfl,hk,rfl,hE,hg6,hl6,a6,c6,b6⟩
 refine z02 hE ?_
 have t1:Rd1 M6 n4 (0+0) (I u1):=Rd1.of_at c6 rfl
 have t2:Rd1 M6 n4 (0+1) (I u2):=Rd1.of_at c6 rfl
 have t3:Rd1 M6 n4 (0+2) (.slice bk ul.length gk uk):=Rd1.of_at c6 rfl
 by_cases hlast2:k=min ul.length S
 ·rw [<-hlast2] at hfs
  rw [<-hfs] at b6
  (have hrd0:=t1;have hrd1:=t2;have hrd2:=t3;repeat' (first|(with_reducible intro _)|refine sv ?_|(refine sc ?_ ?_<;>(intro h;try first|exact h.elim|exact absurd rfl h|(exfalso;omega)))|(refine sg ?_ ?_<;>(intro h;(fail_if_success (have:True:=h));try first|exact h.elim|exact absurd rfl h|(exfalso;omega)))|assumption|exact xm|exact rfl))
  all_goals try (exfalso;omega)
  all_goals exact zk (x.2.length - (i+1)) (by omega) ⟨i+1,rfl,by omega,rfl,.cons rfl (.cons rfl (.cons rfl (.cons rfl (.cons rfl (.cons rfl .nil))))),hg6,by omega,a6,b6⟩
 have hku:k < ul.length:=by omega
 have hkS:k < S:=by omega
 obtain ⟨pb,ob,rfl,hr⟩:=(hsk.grow hg6).rd hku
 rw [<-z11 hku] at hr
 have hks:smK ul (k+1) O=if knB (getG ul k) then (smK ul k O).set k (getG ul k) else smK ul k O:=rfl
 have hkl:(smK ul k O).length=S:=by rw [za0];exact hol
 generalize smK ul k O=K at *
 have hsst:setList (K.flatMap intc) (k*1) (intc (getG ul k))=some ((K.set k (getG ul k)).flatMap intc):=z34 (enc:=intc) (sz:=1) (fun _=>rfl) (by omega) K k (getG ul k) (by omega)
 have hcb:∀ M,CallOk Tryz.prog 22 [I (getG ul k),I (-32767),I 32767] M (fun w M'=>w=.bool (knB (getG ul k)) /\ M'=M):=fun M=>zg7 _ _ _ M
 cases hkn:knB (getG ul k) with
 | true =>
  rw [hkn] at hcb
  rw [hkn,if_pos rfl] at hks
  generalize getG ul k=w at *
  (have hrd0:=t1;have hrd1:=t2;have hrd2:=t3;have hrd3:=hr;repeat' (first|(with_reducible intro _)|refine sv ?_|(refine sc ?_ ?_<;>(intro h;try first|exact h.elim|exact absurd rfl h|(exfalso;omega)))|((with_reducible first|apply zx|apply zu|apply zm);exact gd;exact rfl;exact rfl;(first|exact hcb _))|(refine sg ?_ ?_<;>(intro h;(fail_if_success (have:True:=h));try first|exact h.elim|exact absurd rfl h|(exfalso;omega)))|assumption|exact xm|exact rfl))
  all_goals try (exfalso;omega)
  refine x_st (by exact gd) rfl rfl b6 rfl rfl (by rw [Nat.zero_add];exact hsst) ?_
  intro M7 hu7 e7 b7
  have a7:=At.upd_ne hu7 (by omega) a6
  have c7:=At.upd_ne hu7 (by omega) c6
  (repeat' (first|(with_reducible intro _)|refine sv ?_|(refine sc ?_ ?_<;>(intro h;try first|exact h.elim|exact absurd rfl h|(exfalso;omega)))|(refine sg ?_ ?_<;>(intro h;(fail_if_success (have:True:=h));try first|exact h.elim|exact absurd rfl h|(exfalso;omega)))|assumption|exact xm|exact rfl))
  refine zk (min ul.length S - (k+1)) (by omega) ⟨k+1,rfl,by omega,rfl,.cons rfl (.cons rfl (.cons rfl (.cons rfl (.cons rfl (.cons rfl (.cons rfl (.cons rfl .nil))))))),hg6.upd hu7 (by omega),by omega,a7,c7,by rw [hks];exact b7⟩
 | false =>
  rw [hkn] at hcb
  rw [hkn] at hks
  have hks:smK ul (k+1) O=K:=hks
  generalize getG ul k=w at *
  (have hrd0:=t1;have hrd1:=t2;have hrd2:=t3;have hrd3:=hr;repeat' (first|(with_reducible intro _)|refine sv ?_|(refine sc ?_ ?_<;>(intro h;try first|exact h.elim|exact absurd rfl h|(exfalso;omega)))|((with_reducible first|apply zx|apply zu|apply zm);exact gd;exact rfl;exact rfl;(first|exact hcb _))|(refine sg ?_ ?_<;>(intro h;(fail_if_success (have:True:=h));try first|exact h.elim|exact absurd rfl h|(exfalso;omega)))|assumption|exact xm|exact rfl))
  all_goals try (exfalso;omega)
  exact zk (min ul.length S - (k+1)) (by omega) ⟨k+1,rfl,by omega,rfl,.cons rfl (.cons rfl (.cons rfl (.cons rfl (.cons rfl (.cons rfl (.cons rfl (.cons rfl .nil))))))),hg6,by omega,a6,c6,by rw [hks];exact b6⟩
end Go.Proofs.YtbmgeagllpganaaGreatDoor.C
end
section

end
section

end
section
open Go PvL Go.Proofs
set_option linter.unusedSimpArgs false
set_option linter.unusedVariables false
namespace Go.Proofs.YtbmgeagllpganaaGreatDoor.C
theorem zqy (s:List Int) (k:Nat):okT s (k+1)=(okT s k && (btB (el s k) 0 60000 && (decide (k=0) || decide (el s (k - 1) < el s k)))):=rfl
theorem zp4 {s:List Int} {a b:Int} (h:¬ (s.length<=128 /\ btB a 0 1000=true /\ btB b 1 1000=true)):okS s a b=false:=by
 unfold okS
 by_cases h1:s.length<=128
 ·cases h2:btB a 0 1000 with
  | false=>simp
  | true =>
   cases h3:btB b 1 1000 with
   | false=>simp
   | true=>exact absurd ⟨h1,h2,h3⟩ h
 ·rw [decide_eq_false h1];rfl
theorem zn5 {s:List Int} {a b:Int} (h1:s.length<=128) (h2:btB a 0 1000=true) (h3:btB b 1 1000=true):okS s a b=okT s s.length:=by
 unfold okS
 rw [decide_eq_true h1,h2,h3];rfl
abbrev agV (a:Option (Nat × Nat)) (n:Nat) (f:Bool) (e:Nat) (x y:Int):LV:=.agg [.slice a n f e,I x,I y]
set_option maxHeartbeats 4000000 in
theorem zaq {M:Mem} {a:Option (Nat × Nat)} {s:List Int} {f:Bool} {e:Nat} {x y:Int} (hs:SlI M a s) (hl:s.length<=1000000000000000) :
  CallOk Tryz.prog 20 [.slice a s.length f e,I x,I y] M (fun w M'=>w=.tup [if okS s x y then agV a s.length f e x y else .agg [.slice none 0 true 0,I 0,I 0],I (if okS s x y then 0 else 84)] /\ Grow M M'):=by
 refine zj k20 rfl ?_
 dsimp only [x20,zipE,Nat.reduceAdd]
 by_cases hg:s.length<=128 /\ btB x 0 1000=true /\ btB y 1 1000=true
 ·obtain ⟨h1,h2,h3⟩:=hg
  have hc2:∀ M,CallOk Tryz.prog 13 [I x,I 0,I 1000] M (fun w M'=>w=.bool true /\ M'=M):=fun M=>by rw [<-h2];exact z0e _ _ _ M
  have hc3:∀ M,CallOk Tryz.prog 13 [I y,I 1,I 1000] M (fun w M'=>w=.bool true /\ M'=M):=fun M=>by rw [<-h3];exact z0e _ _ _ M
  rw [zn5 h1 h2 h3]
  (repeat' (first|(with_reducible intro _)|refine sv ?_|(refine sc ?_ ?_<;>(intro h;try first|exact h.elim|exact absurd rfl h|(exfalso;omega)))|((with_reducible first|apply zx|apply zu|apply zm);exact gd;exact rfl;exact rfl;(first|exact hc2 _|exact hc3 _))|(refine sg ?_ ?_<;>(intro h;(fail_if_success (have:True:=h));try first|exact h.elim|exact absurd rfl h|(exfalso;omega)))|assumption|exact xm|exact rfl))
  rename_i n6 M6 hN6 q1 q2
  clear h
  have hs6:SlI M6 a s:=hs.grow hN6.grow
  refine zg (fun m E ms M'=>∃ k:Nat,m=s.length - k /\ k<=s.length /\ ms=[] /\ Has E [(0,.slice a s.length f e),(1,I x),(2,I y),(6,.ptr (some (n6,0))),(8,.bool (okT s k)),(22,.slice a s.length f e),(23,I s.length),(24,I k)] /\ M'=M6)
   ?_ s.length _ _ _ ⟨0,by omega,by omega,rfl,.cons rfl (.cons rfl (.cons rfl (.cons rfl (.cons rfl (.cons rfl (.cons rfl (.cons rfl .nil))))))),rfl⟩
  rintro m E ms M1 ⟨k,rfl,hk,rfl,hE,rfl⟩
  refine z02 hE ?_
  by_cases hlast:k=s.length
  ·subst hlast
   cases hok:okT s s.length with
   | true =>
    (repeat' (first|(with_reducible intro _)|refine sv ?_|(refine sc ?_ ?_<;>(intro h;try first|exact h.elim|exact absurd rfl h|(exfalso;omega)))|(refine sg ?_ ?_<;>(intro h;(fail_if_success (have:True:=h));try first|exact h.elim|exact absurd rfl h|(exfalso;omega)))|assumption|exact xm|exact rfl))
    ((with_reducible first|apply zi|apply zc);exact rx)
    exact ⟨rfl,xg⟩
   | false =>
    (repeat' (first|(with_reducible intro _)|refine sv ?_|(refine sc ?_ ?_<;>(intro h;try first|exact h.elim|exact absurd rfl h|(exfalso;omega)))|(refine sg ?_ ?_<;>(intro h;(fail_if_success (have:True:=h));try first|exact h.elim|exact absurd rfl h|(exfalso;omega)))|assumption|exact xm|exact rfl))
    ((with_reducible first|apply zi|apply zc);exact rx)
    exact ⟨rfl,xg⟩
  ·have hlt:k < s.length:=by omega
   obtain ⟨i,o,rfl,hr⟩:=hs6.rd hlt
   rw [<-z4e hlt] at hr
   have hst:=zqy s k
   cases hok:okT s k with
   | false =>
    rw [hok] at hst
    (have hrd0:=hr;repeat' (first|(with_reducible intro _)|refine sv ?_|(refine sc ?_ ?_<;>(intro h;try first|exact h.elim|exact absurd rfl h|(exfalso;omega)))|(refine sg ?_ ?_<;>(intro h;(fail_if_success (have:True:=h));try first|exact h.elim|exact absurd rfl h|(exfalso;omega)))|assumption|exact xm|exact rfl))
    exact zk (s.length - (k+1)) (by omega) ⟨k+1,rfl,by omega,rfl,.cons rfl (.cons rfl (.cons rfl (.cons rfl (.cons (by show some (LV.bool _)=some (LV.bool _);rw [hst];rfl) (.cons rfl (.cons rfl (.cons rfl .nil))))))),rfl⟩
   | true =>
   rw [hok] at hst
   cases hbt:btB (el s k) 0 60000 with
   | false =>
    rw [hbt] at hst
    generalize el s k=v at *
    have hc4:∀ M,CallOk Tryz.prog 13 [I v,I 0,I 60000] M (fun w M'=>w=.bool false /\ M'=M):=fun M=>by rw [<-hbt];exact z0e _ _ _ M
    (have hrd0:=hr;repeat' (first|(with_reducible intro _)|refine sv ?_|(refine sc ?_ ?_<;>(intro h;try first|exact h.elim|exact absurd rfl h|(exfalso;omega)))|((with_reducible first|apply zx|apply zu|apply zm);exact gd;exact rfl;exact rfl;(first|exact hc4 _))|(refine sg ?_ ?_<;>(intro h;(fail_if_success (have:True:=h));try first|exact h.elim|exact absurd rfl h|(exfalso;omega)))|assumption|exact xm|exact rfl))
    exact zk (s.length - (k+1)) (by omega) ⟨k+1,rfl,by omega,rfl,.cons rfl (.cons rfl (.cons rfl (.cons rfl (.cons (by show some (LV.bool _)=some (LV.bool _);rw [hst];rfl) (.cons rfl (.cons rfl (.cons rfl .nil))))))),rfl⟩
   | true =>
   rw [hbt] at hst
   by_cases h0:k=0
   ·subst h0
    generalize el s 0=v at *
    have hc4:∀ M,CallOk Tryz.prog 13 [I v,I 0,I 60000] M (fun w M'=>w=.bool true /\ M'=M):=fun M=>by rw [<-hbt];exact z0e _ _ _ M
    (have hrd0:=hr;repeat' (first|(with_reducible intro _)|refine sv ?_|(refine sc ?_ ?_<;>(intro h;try first|exact h.elim|exact absurd rfl h|(exfalso;omega)))|((with_reducible first|apply zx|apply zu|apply zm);exact gd;exact rfl;exact rfl;(first|exact hc4 _))|(refine sg ?_ ?_<;>(intro h;(fail_if_success (have:True:=h));try first|exact h.elim|exact absurd rfl h|(exfalso;omega)))|assumption|exact xm|exact rfl))
    exact zk (s.length - (0+1)) (by omega) ⟨1,rfl,by omega,rfl,.cons rfl (.cons rfl (.cons rfl (.cons rfl (.cons (by show some (LV.bool _)=some (LV.bool _);rw [hst];rfl) (.cons rfl (.cons rfl (.cons rfl .nil))))))),rfl⟩
   ·rw [decide_eq_false h0] at hst
    obtain ⟨i2,o2,he2,hr2⟩:=hs6.rd (k:=k - 1) (by omega)
    obtain ⟨rfl,rfl⟩:i2=i /\ o2=o:=by injection he2 with q;injection q with q1 q2;exact ⟨q1.symm,q2.symm⟩
    rw [<-z4e (by omega)] at hr2
    have hkk:((k:Int) - 1).toNat=k - 1:=by omega
    generalize el s k=v at *
    generalize el s (k - 1)=u at *
    rw [<-hkk] at hr2
    have hc4:∀ M,CallOk Tryz.prog 13 [I v,I 0,I 60000] M (fun w M'=>w=.bool true /\ M'=M):=fun M=>by rw [<-hbt];exact z0e _ _ _ M
    (have hrd0:=hr;have hrd1:=hr2;repeat' (first|(with_reducible intro _)|refine sv ?_|(refine sc ?_ ?_<;>(intro h;try first|exact h.elim|exact absurd rfl h|(exfalso;omega)))|((with_reducible first|apply zx|apply zu|apply zm);exact gd;exact rfl;exact rfl;(first|exact hc4 _))|(refine sg ?_ ?_<;>(intro h;(fail_if_success (have:True:=h));try first|exact h.elim|exact absurd rfl h|(exfalso;omega)))|assumption|exact xm|exact rfl))
    all_goals exact zk (s.length - (k+1)) (by omega) ⟨k+1,rfl,by omega,rfl,.cons rfl (.cons rfl (.cons rfl (.cons rfl (.cons (by show some (LV.bool _)=some (LV.bool _);rw [hst];rfl) (.cons rfl (.cons rfl (.cons rfl .nil))))))),rfl⟩
 ·rw [zp4 hg]
  have go:∀ {x' y':Bool},btB x 0 1000=x'->btB y 1 1000=y'->(∀ M,CallOk Tryz.prog 13 [I x,I 0,I 1000] M (fun w M'=>w=.bool x' /\ M'=M)) /\ (∀ M,CallOk Tryz.prog 13 [I y,I 1,I 1000] M (fun w M'=>w=.bool y' /\ M'=M)):=fun h2 h3=>⟨fun M=>by rw [<-h2];exact z0e _ _ _ M,fun M=>by rw [<-h3];exact z0e _ _ _ M⟩
  cases hx:btB x 0 1000<;>cases hy:btB y 1 1000<;>(obtain ⟨hc2,hc3⟩:=go hx hy;rw [hx,hy] at hg;(repeat' (first|(with_reducible intro _)|refine sv ?_|(refine sc ?_ ?_<;>(intro h;try first|exact h.elim|exact absurd rfl h|(exfalso;omega)))|((with_reducible first|apply zx|apply zu|apply zm);exact gd;exact rfl;exact rfl;(first|exact hc2 _|exact hc3 _))|(refine sg ?_ ?_<;>(intro h;(fail_if_success (have:True:=h));try first|exact h.elim|exact absurd rfl h|(exfalso;omega)))|assumption|exact xm|exact rfl)))
  all_goals try (exact absurd ⟨by omega,rfl,rfl⟩ hg)
  all_goals
   rename_i n6 M6 hN6 q1 q2
   clear h
   have hs6:SlI M6 a s:=hs.grow hN6.grow
   refine zg (fun m E ms M'=>∃ k:Nat,m=s.length - k /\ k<=s.length /\ ms=[] /\ Has E [(0,.slice a s.length f e),(6,.ptr (some (n6,0))),(8,.bool false),(22,.slice a s.length f e),(23,I s.length),(24,I k)] /\ M'=M6)
    ?_ s.length _ _ _ ⟨0,by omega,by omega,rfl,.cons rfl (.cons rfl (.cons rfl (.cons rfl (.cons rfl (.cons rfl .nil))))),rfl⟩
   rintro m E ms M1 ⟨k,rfl,hk,rfl,hE,rfl⟩
   refine z02 hE ?_
   by_cases hlast:k=s.length
   ·subst hlast
    (repeat' (first|(with_reducible intro _)|refine sv ?_|(refine sc ?_ ?_<;>(intro h;try first|exact h.elim|exact absurd rfl h|(exfalso;omega)))|(refine sg ?_ ?_<;>(intro h;(fail_if_success (have:True:=h));try first|exact h.elim|exact absurd rfl h|(exfalso;omega)))|assumption|exact xm|exact rfl))
    ((with_reducible first|apply zi|apply zc);exact rx)
    exact ⟨rfl,xg⟩
   ·have hlt:k < s.length:=by omega
    obtain ⟨i,o,rfl,hr⟩:=hs6.rd hlt
    (have hrd0:=hr;repeat' (first|(with_reducible intro _)|refine sv ?_|(refine sc ?_ ?_<;>(intro h;try first|exact h.elim|exact absurd rfl h|(exfalso;omega)))|(refine sg ?_ ?_<;>(intro h;(fail_if_success (have:True:=h));try first|exact h.elim|exact absurd rfl h|(exfalso;omega)))|assumption|exact xm|exact rfl))
    exact zk (s.length - (k+1)) (by omega) ⟨k+1,rfl,by omega,rfl,.cons rfl (.cons rfl (.cons rfl (.cons rfl (.cons rfl (.cons rfl .nil))))),rfl⟩
theorem zla {M:Mem} {a:Option (Nat × Nat)} {s:List Int} {f:Bool} {e:Nat} {x y:Int} (hs:SlI M a s) (ok:OkS s x y) {i k:Nat} (hi:i<=k) (hk:k < s.length) :
  CallOk Tryz.prog 21 [agV a s.length f e x y,I i,I k] M (fun w M'=>w=.tup [I (x+spn s i k),.bool (decide (spn s i k<=y))] /\ Grow M M'):=by
 refine zj k21 rfl ?_
 dsimp only [x21,zipE,Nat.reduceAdd]
 have hl:=ok.len
 have ha:=ok.a0
 have hb:=ok.b0
 have h1:=ok.at hk
 have h2:=ok.at (i:=i) (by omega)
 obtain ⟨p,o,rfl,hr⟩:=hs.rd hk
 obtain ⟨p2,o2,he2,hr2⟩:=hs.rd (k:=i) (by omega)
 obtain ⟨rfl,rfl⟩:p2=p /\ o2=o:=by injection he2 with q;injection q with q1 q2;exact ⟨q1.symm,q2.symm⟩
 rw [<-z4e hk] at hr
 rw [<-z4e (by omega)] at hr2
 unfold spn
 generalize el s k=v at *
 generalize el s i=u at *
 (have hrd0:=hr;have hrd1:=hr2;repeat' (first|(with_reducible intro _)|refine sv ?_|(refine sc ?_ ?_<;>(intro h;try first|exact h.elim|exact absurd rfl h|(exfalso;omega)))|(refine sg ?_ ?_<;>(intro h;(fail_if_success (have:True:=h));try first|exact h.elim|exact absurd rfl h|(exfalso;omega)))|assumption|exact xm|exact rfl))
 ((with_reducible first|apply zi|apply zc);exact rx)
 exact ⟨rfl,xg⟩
theorem zpb {s y:List Int} {a b:Int} (h:okS s a b=false):prF s y a b=(0,84):=by unfold prF;rw [h];rfl
theorem znc {s y:List Int} {a b:Int} (h:okS s a b=true) (hn:y.length ≠ s.length):prF s y a b=(0,85):=by unfold prF;rw [h,if_pos rfl,if_neg hn]
theorem zi0 {s y:List Int} {a b:Int} (h:okS s a b=true) (hy:y.all inY=false):prF s y a b=(0,85):=by unfold prF;rw [h,if_pos rfl,hy];split<;>rfl
theorem znb {s y:List Int} {a b:Int} (h:okS s a b=true) (hy:badA s y a b s.length=true):prF s y a b=(0,85):=by unfold prF;rw [h,if_pos rfl,hy];split<;>(try split)<;>rfl
theorem zpd {s y:List Int} {a b:Int} (h:okS s a b=true) (hn:y.length=s.length) (hi:y.all inY=true) (hy:badA s y a b s.length=false):prF s y a b=(seg y 0 y.length,0):=by unfold prF;rw [h,if_pos rfl,hy,if_pos hn,hi];rfl
theorem zi9 {y:List Int} {i:Nat}:∀ {k:Nat},(∀ t,t < k->inY (el y (i+t))=true)->0<=seg y i k /\ seg y i k<=1048576*k
 | 0,_=>by unfold seg;omega
 | k+1,h=>by
  have h1:=zi9 (y:=y) (i:=i) (k:=k) (fun t ht=>h t (by omega))
  have h2:0<=el y (i+k) /\ el y (i+k)<=1048576:=of_decide_eq_true (h k (by omega))
  unfold seg
  omega
set_option maxHeartbeats 8000000 in
theorem zja {M:Mem} {a b:Option (Nat × Nat)} {s p:List Int} {f f':Bool} {e e':Nat} {x y:Int} (hs:SlI M a s) (hl:s.length<=1000000000000000) (hp:SlI M b p) (hlp:p.length<=1000000000000000) (hpi:∀ n ∈ p,I64 n) :
  CallOk Tryz.prog 8 [.slice a s.length f e,I x,I y,.slice b p.length f' e'] M (fun w M'=>w=.tup [I (prF s p x y).1,I (prF s p x y).2] /\ Grow M M'):=by
 refine zj k8 rfl ?_
 dsimp only [x8,zipE,Nat.reduceAdd]
 have ca:=fun M' (hg:Grow M M')=>zaq (f:=f) (e:=e) (x:=x) (y:=y) (hs.grow hg) hl
 cases hok:okS s x y with
 | false =>
  rw [zpb hok]
  rw [hok] at ca
  have ca:∀ M',Grow M M'->CallOk Tryz.prog 20 [.slice a s.length f e,I x,I y] M' (fun w M2=>w=.tup [.agg [.slice none 0 true 0,I 0,I 0],I 84] /\ Grow M' M2):=ca
  (repeat' (first|(with_reducible intro _)|refine sv ?_|(refine sc ?_ ?_<;>(intro h;try first|exact h.elim|exact absurd rfl h|(exfalso;omega)))|((with_reducible first|apply z07|apply z06|apply zp);exact gd;exact rfl;exact rfl;(first|exact ca _ (xg)))|(refine sg ?_ ?_<;>(intro h;(fail_if_success (have:True:=h));try first|exact h.elim|exact absurd rfl h|(exfalso;omega)))|assumption|exact xm|exact rfl))
  ((with_reducible first|apply zi|apply zc);exact rx)
  exact ⟨rfl,xg⟩
 | true =>
 rw [hok] at ca
 have ca:∀ M',Grow M M'->CallOk Tryz.prog 20 [.slice a s.length f e,I x,I y] M' (fun w M2=>w=.tup [agV a s.length f e x y,I 0] /\ Grow M' M2):=ca
 by_cases hn:p.length ≠ s.length
 ·rw [znc hok hn]
  (repeat' (first|(with_reducible intro _)|refine sv ?_|(refine sc ?_ ?_<;>(intro h;try first|exact h.elim|exact absurd rfl h|(exfalso;omega)))|((with_reducible first|apply z07|apply z06|apply zp);exact gd;exact rfl;exact rfl;(first|exact ca _ (xg)))|(refine sg ?_ ?_<;>(intro h;(fail_if_success (have:True:=h));try first|exact h.elim|exact absurd rfl h|(exfalso;omega)))|assumption|exact xm|exact rfl))
  all_goals try (exfalso;omega)
  ((with_reducible first|apply zi|apply zc);exact rx)
  exact ⟨rfl,xg⟩
 have hn:p.length=s.length:=by omega
 have ok:=zhq hok
 have hL:=ok.len
 (repeat' (first|(with_reducible intro _)|refine sv ?_|(refine sc ?_ ?_<;>(intro h;try first|exact h.elim|exact absurd rfl h|(exfalso;omega)))|((with_reducible first|apply z07|apply z06|apply zp);exact gd;exact rfl;exact rfl;(first|exact ca _ (xg)))|(refine sg ?_ ?_<;>(intro h;(fail_if_success (have:True:=h));try first|exact h.elim|exact absurd rfl h|(exfalso;omega)))|assumption|exact xm|exact rfl))
 rename_i M1 hg1 hl1 n2 M2 hN2 q1 q2 M3 hU3 q3 hA3 _
 clear h ca
 have hg3:Grow M M3:=xg
 have hs3:=hs.grow hg3
 have hp3:=hp.grow hg3
 clear hN2 hU3 hg1
 refine zg (fun m E ms M'=>∃ k:Nat,m=p.length - k /\ k<=p.length /\ ms=[] /\ Has E [(0,.slice a s.length f e),(3,.slice b p.length f' e'),(10,.ptr (some (n2,0))),(12,I (seg p 0 k)),(34,.slice b p.length f' e'),(35,I p.length),(36,I k)] /\ Grow M3 M' /\ (∀ t,t < k->inY (el p t)=true) /\ (p.all inY=true->badA s p x y k=false))
  ?_ p.length _ _ _ ⟨0,by omega,by omega,rfl,.cons rfl (.cons rfl (.cons rfl (.cons rfl (.cons rfl (.cons rfl (.cons rfl .nil)))))),Grow.refl _,fun t ht=>absurd ht (Nat.not_lt_zero _),fun _=>rfl⟩
 rintro m E ms M4 ⟨k,rfl,hk,rfl,hE,hg4,hin,hbad⟩
 refine z02 hE ?_
 by_cases hlast:k=p.length
 ·subst hlast
  have hall:=zm4 hin
  rw [zpd hok hn hall (by rw [<-hn];exact hbad hall)]
  (repeat' (first|(with_reducible intro _)|refine sv ?_|(refine sc ?_ ?_<;>(intro h;try first|exact h.elim|exact absurd rfl h|(exfalso;omega)))|(refine sg ?_ ?_<;>(intro h;(fail_if_success (have:True:=h));try first|exact h.elim|exact absurd rfl h|(exfalso;omega)))|assumption|exact xm|exact rfl))
  ((with_reducible first|apply zi|apply zc);exact rx)
  exact ⟨rfl,hg3.trans hg4⟩
 ·have hlt:k < p.length:=by omega
  have hs4:=hs3.grow hg4
  have hp4:=hp3.grow hg4
  have hA4:=At.grow hg4 hA3
  obtain ⟨i,o,he1,hr⟩:=hp4.rd hlt
  have hsb:=zi9 (y:=p) (i:=0) (k:=k) (fun t ht=>by rw [Nat.zero_add];exact hin t ht)
  have hst:seg p 0 (k+1)=seg p 0 k+el p k:=by show seg p 0 k+el p (0+k)=_;rw [Nat.zero_add]
  rw [<-z4e hlt] at hr
  cases hi:inY (el p k) with
  | false =>
   have hno:p.all inY=false:=zm3 hlt hi
   rw [zi0 hok hno]
   have hc:∀ M,CallOk Tryz.prog 13 [I (el p k),I 0,I 1048576] M (fun w M'=>w=.bool false /\ M'=M):=fun M=>by rw [<-hi];exact z0e _ _ _ M
   subst he1
   (have hrd0:=hr;repeat' (first|(with_reducible intro _)|refine sv ?_|(refine sc ?_ ?_<;>(intro h;try first|exact h.elim|exact absurd rfl h|(exfalso;omega)))|((with_reducible first|apply zx|apply zu|apply zm);exact gd;exact rfl;exact rfl;(first|exact hc _))|(refine sg ?_ ?_<;>(intro h;(fail_if_success (have:True:=h));try first|exact h.elim|exact absurd rfl h|(exfalso;omega)))|assumption|exact xm|exact rfl))
   ((with_reducible first|apply zi|apply zc);exact rx)
   exact ⟨rfl,hg3.trans hg4⟩
  | true =>
   have hc:∀ M,CallOk Tryz.prog 13 [I (el p k),I 0,I 1048576] M (fun w M'=>w=.bool true /\ M'=M):=fun M=>by rw [<-hi];exact z0e _ _ _ M
   have hvb:0<=el p k /\ el p k<=1048576:=of_decide_eq_true hi
   have hin2:∀ t,t < k+1->inY (el p t)=true:=fun t ht=>by
    by_cases he:t=k
    ·subst he;exact hi
    ·exact hin t (by omega)
   generalize hS:seg p 0 k=S at *
   generalize hV:el p k=V at *
   subst he1
   (have hrd0:=hr;repeat' (first|(with_reducible intro _)|refine sv ?_|(refine sc ?_ ?_<;>(intro h;try first|exact h.elim|exact absurd rfl h|(exfalso;omega)))|((with_reducible first|apply zx|apply zu|apply zm);exact gd;exact rfl;exact rfl;(first|exact hc _))|(refine sg ?_ ?_<;>(intro h;(fail_if_success (have:True:=h));try first|exact h.elim|exact absurd rfl h|(exfalso;omega)))|assumption|exact xm|exact rfl))
   refine zg (fun m E ms M'=>∃ (j:Nat) (w:Int),m=p.length - (k+j) /\ k+j<=p.length /\ ms=[] /\ Has E [(0,.slice a s.length f e),(3,.slice (some (i,o)) p.length f' e'),(10,.ptr (some (n2,0))),(12,I (S+V)),(13,I k),(15,I w),(16,I ((k+j:Nat):Int)),(34,.slice (some (i,o)) p.length f' e'),(35,I p.length),(36,I k)] /\ Grow M3 M' /\ (p.all inY=true->w=seg p k j /\ badR s p x y k j=false))
    ?_ (p.length - k) _ _ _ ⟨0,0,by omega,by omega,rfl,.cons rfl (.cons rfl (.cons rfl (.cons rfl (.cons rfl (.cons rfl (.cons rfl (.cons rfl (.cons rfl (.cons rfl .nil))))))))),hg4,fun _=>⟨rfl,rfl⟩⟩
   rintro m E ms M5 ⟨j,w,rfl,hj,rfl,hE,hg5,hw⟩
   refine z02 hE ?_
   by_cases hlast2:k+j=p.length
   ·(repeat' (first|(with_reducible intro _)|refine sv ?_|(refine sc ?_ ?_<;>(intro h;try first|exact h.elim|exact absurd rfl h|(exfalso;omega)))|(refine sg ?_ ?_<;>(intro h;(fail_if_success (have:True:=h));try first|exact h.elim|exact absurd rfl h|(exfalso;omega)))|assumption|exact xm|exact rfl))
    refine zk (p.length - (k+1)) (by omega) ⟨k+1,rfl,by omega,rfl,.cons rfl (.cons rfl (.cons rfl (.cons (by rw [hst];rfl) (.cons rfl (.cons rfl (.cons rfl .nil)))))),hg5,hin2,fun hall=>?_⟩
    show (badA s p x y k || badR s p x y k (s.length - k))=false
    rw [hbad hall,show s.length - k=j from by omega,(hw hall).2];rfl
   ·have hltj:k+j < p.length:=by omega
    have hs5:=hs3.grow hg5
    have hp5:=hp3.grow hg5
    have hA5:=At.grow hg5 hA3
    obtain ⟨i2,o2,he2,hr2⟩:=hp5.rd hltj
    obtain ⟨rfl,rfl⟩:i2=i /\ o2=o:=by injection he2 with q;injection q with q1 q2;exact ⟨q1.symm,q2.symm⟩
    rw [<-z4e hltj] at hr2
    have cp:=zla (f:=f) (e:=e) hs5 ok (i:=k) (k:=k+j) (by omega) (by omega)
    have hsp:=ok.spn (i:=k) (k:=k+j) (by omega) (by omega)
    have hr3:=zdd (s:=s) (y:=p) (a:=x) (b:=y) (i:=k) (k:=j) (n:=s.length - k) (by omega)
    have hr4:=zm8 (s:=s) (y:=p) (a:=x) (b:=y) (i:=k) (k:=j)
    have hws:p.all inY=true->IntKind.wrap .i64 (w+el p (k+j))=seg p k (j+1):=fun hall=>by
     rw [(hw hall).1]
     have h1:=zls hall k (j+1) (by omega)
     exact z2o (by show (-9223372036854775808:Int)<=_ /\ _<=(9223372036854775807:Int);show _<=seg p k (j+1) /\ seg p k (j+1)<=_;omega)
    generalize hSp:spn s k (k+j)=Sp at *
    generalize el p (k+j)=v at *
    have ha0:=ok.a0
    have hb0:=ok.b0
    (have hrd0:=hr2;repeat' (first|(with_reducible intro _)|refine sv ?_|(refine sc ?_ ?_<;>(intro h;try first|exact h.elim|exact absurd rfl h|(exfalso;omega)))|((with_reducible first|apply z07|apply z06|apply zp);exact gd;exact rfl;exact rfl;(first|exact cp))|(refine sg ?_ ?_<;>(intro h;(fail_if_success (have:True:=h));try first|exact h.elim|exact absurd rfl h|(exfalso;omega)))|assumption|exact xm|exact rfl))
    ·rename_i hb1
     have he:prF s p x y=(0,85):=by
      cases hall:p.all inY with
      | false=>exact zi0 hok hall
      | true=>exact znb hok (zdc (n:=s.length) (i:=k) (by omega) (hr3 hb1 (by rw [<-hws hall];exact h)))
     rw [he]
     ((with_reducible first|apply zi|apply zc);exact rx)
     exact ⟨rfl,(hg3.trans hg5).trans (by assumption)⟩
    ·exact zk (p.length - (k+(j+1))) (by omega) ⟨j+1,_,rfl,by omega,rfl,.cons rfl (.cons rfl (.cons rfl (.cons rfl (.cons rfl (.cons rfl (.cons rfl (.cons rfl (.cons rfl (.cons rfl .nil))))))))),hg5.trans (by assumption),fun hall=>⟨hws hall,hr4 (hw hall).2 (fun hc=>by rw [<-hws hall] at hc;exact absurd hc.2 (Int.not_lt.2 h))⟩⟩
    ·exact zk (p.length - (k+(j+1))) (by omega) ⟨j+1,_,rfl,by omega,rfl,.cons rfl (.cons rfl (.cons rfl (.cons rfl (.cons rfl (.cons rfl (.cons rfl (.cons rfl (.cons rfl (.cons rfl .nil))))))))),hg5.trans (by assumption),fun hall=>⟨hws hall,hr4 (hw hall).2 (fun hc=>by have:=hc.1;omega)⟩⟩
end Go.Proofs.YtbmgeagllpganaaGreatDoor.C
end
section

end
section
open Go PvL Go.Proofs
set_option linter.unusedSimpArgs false
set_option linter.unusedVariables false
namespace Go.Proofs.YtbmgeagllpganaaGreatDoor.C
theorem zbv:∀ l:List LV,setList l 0 []=some l
 | []=>rfl
 | _ :: _=>rfl
theorem z61:∀ (vs rest ws:List LV),ws.length=vs.length->setList (vs ++ rest) 0 ws=some (ws ++ rest)
 | [],rest,[],_=>by rw [List.nil_append];exact zbv _
 | v :: vs,rest,w :: ws,h=>by
  show ob (setList (vs ++ rest) 0 ws) (fun l=>some (w :: l))=_
  rw [z61 vs rest ws (by simpa using h)]
  rfl
theorem z60:∀ (pre l vs:List LV) (k:Nat) (r:List LV),setList l k vs=some r->vs ≠ []->setList (pre ++ l) (pre.length+k) vs=some (pre ++ r)
 | [],l,vs,k,r,h,_=>by rw [List.length_nil,Nat.zero_add];exact h
 | p :: pre,l,[],k,r,h,hv=>absurd rfl hv
 | p :: pre,l,v :: vs,k,r,h,hv=>by
  rw [show (p :: pre).length+k=(pre.length+k)+1 from by rw [List.length_cons];omega]
  show ob (setList (pre ++ l) (pre.length+k) (v :: vs)) (fun l=>some (p :: l))=_
  rw [z60 pre l (v :: vs) k r h hv]
  rfl
theorem z4x {α:Type} {enc:α->List LV} {sz:Nat} (henc:∀ x,(enc x).length=sz) (h0:0 < sz):∀ (l:List α) (k:Nat) (v:α),k < l.length->setList (l.flatMap enc) (k*sz) (enc v)=some ((l.set k v).flatMap enc)
 | [],k,v,h=>absurd h (Nat.not_lt_zero _)
 | x :: l,0,v,h=>by
  rw [Nat.zero_mul,List.set_cons_zero,List.flatMap_cons,List.flatMap_cons]
  exact z61 _ _ _ (by rw [henc,henc])
 | x :: l,k+1,v,h=>by
  rw [List.set_cons_succ,List.flatMap_cons,List.flatMap_cons,show (k+1)*sz=(enc x).length+k*sz from by rw [henc,Nat.add_mul,Nat.one_mul,Nat.add_comm]]
  refine z60 _ _ _ _ _ (z4x henc h0 l k v (by simpa using h)) fun he=>?_
  have:=henc v
  rw [he] at this
  simp at this
  omega
theorem zbq {α:Type} (enc:α->List LV) (x:α):∀ n:Nat,rep n (enc x)=(List.replicate n x).flatMap enc
 | 0=>rfl
 | n+1=>by
  show enc x ++ rep n (enc x)=_
  rw [zbq enc x n];rfl
def tabL8 {α:Type} (enc:α->List LV) (G:Nat->α) (n:Nat):List LV:=((List.range n).map G).flatMap enc
theorem zie {α:Type} (enc:α->List LV) (G:Nat->α) (n:Nat) (x:α) (h:∀ i,i < n->G i=x):rep n (enc x)=tabL8 enc G n:=by
 rw [zbq]
 unfold tabL8
 congr 1
 refine (List.eq_replicate_iff.2 ⟨by simp,fun y hy=>?_⟩).symm
 obtain ⟨i,hi,rfl⟩:=List.mem_map.1 hy
 exact h i (List.mem_range.1 hi)
theorem zif {α:Type} {enc:α->List LV} {sz:Nat} (henc:∀ x,(enc x).length=sz) (h0:0 < sz) {G G':Nat->α} {n k:Nat} (hk:k < n) (h:∀ i,i < n->i ≠ k->G' i=G i):setList (tabL8 enc G n) (k*sz) (enc (G' k))=some (tabL8 enc G' n):=by
 unfold tabL8
 rw [z4x henc h0 _ _ _ (by simpa using hk)]
 congr 2
 refine List.ext_getElem (by simp) fun i h1 h2=>?_
 rw [List.getElem_set]
 by_cases he:k=i
 ·subst he;simp
 ·rw [if_neg he]
  simp only [List.getElem_map,List.getElem_range]
  exact (h i (by simpa using h2) (fun h=>he h.symm)).symm
theorem z6b {α:Type} {enc:α->List LV} {sz:Nat} (henc:∀ x,(enc x).length=sz) {G:Nat->α} {n k:Nat} {M:Mem} {i:Nat} {own:Bool} {ty:TypeId} (ha:At M i (.cells own (tabL8 enc G n) ty)) (hk:k < n):Rd M i (0+k*sz) sz (enc (G k)):=by
 have:=z1s (enc:=enc) (l:=(List.range n).map G) (sz:=sz) ha (fun x _=>henc x) (k:=k) (by simpa using hk)
 simpa using this
theorem z42 {α:Type} {enc:α->List LV} {G G':Nat->α} {n:Nat} (h:∀ i,i < n->G i=G' i):tabL8 enc G n=tabL8 enc G' n:=by
 unfold tabL8
 congr 1
 exact List.map_congr_left fun i hi=>h i (List.mem_range.1 hi)
end Go.Proofs.YtbmgeagllpganaaGreatDoor.C
end
section

end
