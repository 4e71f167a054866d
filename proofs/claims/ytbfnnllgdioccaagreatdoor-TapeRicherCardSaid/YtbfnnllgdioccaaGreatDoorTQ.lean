/-
 Part of the proof of TapeRicher: what functions of the program and of the statement come to,walked by the rules. No condition beyond those in each theorem.
-/
import Derived.Test.YtbfnnllgdioccaaGreatDoorTP
import Derived.Test.YtbfnnllgdioccaaGreatDoorPvH
import Derived.Test.YtbfnnllgdioccaaGreatDoorTX
section
open Go PvL
set_option linter.unusedVariables false
namespace Go.Proofs.YtbfnnllgdioccaaGreatDoor.C
def ldn (lv n:Int):Bool:=knB n && !btB n (-lv) lv
def loudF (lv:Int) (x:Fr):Bool:=x.2.2.any (ldn lv)
def qd:Option Bool->Bool
 | none=>true
 | some q=>q
def dq (L:List Fr) (lv:Int):Nat->Int->Option Bool
 | 0,_=>none
 | k+1,c=>if c=(fe L k).2.1 then some (!loudF lv (fe L k) && qd (dq L lv k c)) else dq L lv k c
def dqT (L:List Fr) (lv:Int) (c:Int):Bool:=(dq L lv L.length c).getD false
def deadL (L:List Fr) (lv:Int):Nat->List Int
 | 0=>[]
 | c+1=>deadL L lv c ++ (if dqT L lv c then [(c:Int)] else [])
def deadF (r:Rl) (lv:Int):List Int × Int :=
 if errRl r=0 then (if btB lv 0 32767 then (deadL r.2 lv 24,0) else ([],7)) else ([],errRl r)
abbrev Wn:=Int × Int × Int × Int × Int
def gdF (ch:Int) (sm:Nat) (x:Fr):Bool:=decide (x.2.1 < ch) && (decide (sm<=x.2.2.length) && (x.2.2.take sm).all knB)
def gq (L:List Fr) (ch:Int) (sm:Nat):Nat->Int->Option Int
 | 0,_=>none
 | k+1,s=>if gdF ch sm (fe L k)=true /\ s=(fe L k).1 then some ((gq L ch sm k s).getD 0+1) else gq L ch sm k s
def gqN (L:List Fr) (ch:Int) (sm:Nat) (k:Nat) (s:Int):Int:=(gq L ch sm k s).getD 0
theorem gq_s (L:List Fr) (ch:Int) (sm k:Nat) (s:Int):gq L ch sm (k+1) s=if gdF ch sm (fe L k)=true /\ s=(fe L k).1 then some ((gq L ch sm k s).getD 0+1) else gq L ch sm k s:=rfl
theorem zfc (L:List Fr) (ch:Int) (sm:Nat) (s:Int):∀ k,0<=gqN L ch sm k s /\ gqN L ch sm k s<=k
 | 0=>⟨Int.le_refl _,Int.le_refl _⟩
 | k+1=>by
  have:=zfc L ch sm s k
  unfold gqN at *
  rw [gq_s]
  split
  ·rw [Option.getD_some];omega
  ·omega
def wnB (w:Wn):Bool:=(btB w.1 0 w.2.1 && (btB w.2.1 0 60000 && (decide (w.2.1 - w.1 < 1000) && (btB w.2.2.1 1 24 && (btB w.2.2.2.1 1 64 && btB w.2.2.2.2 0 24)))))
def pq (L:List Fr) (w:Wn) (s:Int):Bool:=decide (w.2.2.1 - gqN L w.2.2.1 w.2.2.2.1.toNat L.length s > w.2.2.2.2)
def poorL (L:List Fr) (w:Wn):Nat->List Int
 | 0=>[]
 | n+1=>poorL L w n ++ (if pq L w (w.1+n) then [w.1+n] else [])
theorem zbq (L:List Fr) (w:Wn) (n:Nat):poorL L w (n+1)=poorL L w n ++ (if pq L w (w.1+n) then [w.1+n] else []):=rfl
theorem z6o (L:List Fr) (w:Wn):∀ c,(poorL L w c).length<=c
 | 0=>Nat.le_refl _
 | c+1=>by
  have:=z6o L w c
  rw [zbq,List.length_append]
  split<;>simp<;>omega
def poorF (r:Rl) (w:Wn):List Int × Int :=
 if errRl r=0 then (if wnB w then (poorL r.2 w (w.2.1 - w.1+1).toNat,0) else ([],84)) else ([],errRl r)
theorem zjm {w:Wn} (h:wnB w=true):0<=w.1 /\ w.1<=w.2.1 /\ w.2.1<=60000 /\ w.2.1 - w.1 < 1000 /\ 1<=w.2.2.1 /\ w.2.2.1<=24 /\ 1<=w.2.2.2.1 /\ w.2.2.2.1<=64 /\ 0<=w.2.2.2.2 /\ w.2.2.2.2<=24:=by
 unfold wnB btB at h
 simp only [Bool.and_eq_true,decide_eq_true_eq] at h
 omega
theorem zah (r:Rl) (w:Wn):(poorF r w).1.length<=1000:=by
 unfold poorF
 split
 ·split
  ·rename_i h
   have:=zjm h
   have h2:=z6o r.2 w (w.2.1 - w.1+1).toNat
   show (poorL r.2 w (w.2.1 - w.1+1).toNat).length<=1000
   omega
  ·exact Nat.zero_le _
 ·exact Nat.zero_le _
theorem zji {L:List Fr} {n:Nat} (h:rlK L n=true):∀ {i j:Nat},i < j->j < n->keyI (fe L i) < keyI (fe L j):=by
 have hstep:∀ {k:Nat},k+1 < n->keyI (fe L k) < keyI (fe L (k+1)):=fun {k} hk=>by
  have h2:rlK L (k+2)=true:=by
   cases h3:rlK L (k+2) with
   | true=>rfl
   | false=>rw [zct (by omega:k+2<=n) h3] at h;cases h
  rw [ze8,ze8] at h2
  simp only [Bool.and_eq_true,Bool.or_eq_true,decide_eq_true_eq] at h2
  rcases h2.2.2 with h3|h3
  ·omega
  ·exact h3
 intro i j hij
 induction j with
 | zero=>omega
 | succ j ih =>
  intro hj
  rcases Nat.lt_or_ge i j with h1|h1
  ·exact Int.lt_trans (ih h1 (by omega)) (hstep hj)
  ·obtain rfl:i=j:=by omega
   exact hstep hj
def allK (l:List Int):Nat->Bool
 | 0=>true
 | k+1=>allK l k && knB (getG l k)
theorem zj4 (l:List Int) (k:Nat):allK l (k+1)=(allK l k && knB (getG l k)):=rfl
theorem zeg (l:List Int):∀ k,allK l k=(decide (k<=l.length) && (l.take k).all knB)
 | 0=>by rw [List.take_zero];simp [allK]
 | k+1=>by
  rw [zj4,zeg l k]
  by_cases hk:k < l.length
  ·rw [List.take_succ_eq_append_getElem hk,List.all_append,decide_eq_true (show k<=l.length by omega),decide_eq_true (show k+1<=l.length by omega),show getG l k=l[k] from by unfold getG;simp [hk]]
   simp
  ·rw [decide_eq_false (show ¬ (k+1<=l.length) by omega),show getG l k=40000 from by unfold getG;simp [hk]]
   simp [knB]
def gdS (sm:Nat) (x:Fr):Bool:=allK x.2.2 sm
theorem zlz (ch:Int) (sm:Nat) (x:Fr):gdF ch sm x=(decide (x.2.1 < ch) && gdS sm x):=by unfold gdF gdS;rw [zeg]
def mtB (s c:Int) (x:Fr):Bool:=decide (x.1=s) && decide (x.2.1=c)
def goodB (L:List Fr) (sm:Nat) (s:Int):Nat->Int->Bool
 | 0,_=>false
 | k+1,c=>goodB L sm s k c || (gdS sm (fe L k) && mtB s c (fe L k))
theorem z8l (L:List Fr) (sm:Nat) (s:Int) (k:Nat) (c:Int):goodB L sm s (k+1) c=(goodB L sm s k c || (gdS sm (fe L k) && mtB s c (fe L k))):=rfl
theorem zcc {L:List Fr} {sm:Nat} {s c:Int}:∀ {k:Nat},(∀ j,j < k->mtB s c (fe L j)=false)->goodB L sm s k c=false
 | 0,_=>rfl
 | k+1,h=>by rw [z8l,zcc (fun j hj=>h j (by omega)),h k (by omega),Bool.and_false];rfl
theorem zm7 {s c:Int} {x y:Fr} (hx:mtB s c x=true) (hy:mtB s c y=true):keyI x=keyI y:=by
 unfold mtB at hx hy
 simp only [Bool.and_eq_true,decide_eq_true_eq] at hx hy
 unfold keyI
 rw [hx.1,hx.2,hy.1,hy.2]
def badN (L:List Fr) (sm:Nat) (s:Int) (k:Nat):Nat->Int
 | 0=>0
 | c+1=>badN L sm s k c+(if goodB L sm s k c then 0 else 1)
theorem z5l (L:List Fr) (sm:Nat) (s:Int) (k c:Nat):badN L sm s k (c+1)=badN L sm s k c+(if goodB L sm s k c then 0 else 1):=rfl
theorem z9b {L:List Fr} {sm:Nat} {s:Int} {k:Nat}:∀ {c:Nat},(∀ d:Nat,d < c->(gdS sm (fe L k) && mtB s d (fe L k))=false)->badN L sm s (k+1) c=badN L sm s k c
 | 0,_=>rfl
 | c+1,h=>by rw [z5l,z5l,z9b (fun d hd=>h d (by omega)),z8l,h c (by omega),Bool.or_false]
theorem z9a {L:List Fr} {sm:Nat} {s:Int} {k d:Nat} (hg:gdS sm (fe L k)=true) (hs:(fe L k).1=s) (hd:(fe L k).2.1=d) (hno:goodB L sm s k d=false):∀ {c:Nat},badN L sm s (k+1) c+(if d < c then 1 else 0)=badN L sm s k c
 | 0=>by rw [if_neg (Nat.not_lt_zero d)];rfl
 | c+1=>by
  have ih:=z9a hg hs hd hno (c:=c)
  rw [z5l,z5l,z8l,hg,Bool.true_and]
  unfold mtB
  rw [decide_eq_true hs,Bool.true_and,hd]
  by_cases hdc:d=c
  ·subst hdc
   rw [if_neg (Nat.lt_irrefl d)] at ih
   rw [hno,if_pos (Nat.lt_succ_self d),decide_eq_true (rfl:(d:Int)=d)]
   simp
   omega
  ·rw [decide_eq_false (show ¬ ((d:Int)=(c:Int)) by omega),Bool.or_false]
   by_cases h3:d < c
   ·rw [if_pos h3] at ih
    rw [if_pos (show d < c+1 by omega)];omega
   ·rw [if_neg h3] at ih
    rw [if_neg (show ¬ d < c+1 by omega)];omega
theorem zc5 {L:List Fr} {sm n:Nat} {s:Int} (h:rlK L n=true) (c:Nat):∀ k,k<=n->badN L sm s k c+gqN L c sm k s=c
 | 0,_=>by
  show badN L sm s 0 c+0=c
  induction c with
  | zero=>rfl
  | succ c ih=>rw [z5l,show goodB L sm s 0 c=false from rfl];simp at *;omega
 | k+1,hk=>by
  have ih:=zc5 (sm:=sm) (s:=s) h c k (by omega)
  have hb:=z65 (zcs h (show k < n by omega))
  unfold gqN at *
  rw [gq_s,zlz]
  by_cases hq:(decide ((fe L k).2.1 < c) && gdS sm (fe L k))=true /\ s=(fe L k).1
  ·rw [if_pos hq,Option.getD_some]
   obtain ⟨h1,h2⟩:=hq
   simp only [Bool.and_eq_true,decide_eq_true_eq] at h1
   obtain ⟨d,hd⟩:∃ d:Nat,(fe L k).2.1=d:=⟨(fe L k).2.1.toNat,by omega⟩
   have hno:goodB L sm s k d=false:=zcc fun j hj=>by
    cases hmj:mtB s d (fe L j) with
    | false=>rfl
    | true =>
     have hmk:mtB s d (fe L k)=true:=by unfold mtB;rw [decide_eq_true h2.symm,decide_eq_true hd];rfl
     have:=zm7 hmj hmk
     have:=zji h hj (show k < n by omega)
     omega
   have hl:=z9a h1.2 h2.symm hd hno (c:=c)
   rw [if_pos (by omega)] at hl
   omega
  ·rw [if_neg hq]
   rw [z9b]
   ·exact ih
   ·intro d hd
    cases hgs:gdS sm (fe L k) with
    | false=>rfl
    | true =>
     rw [hgs,Bool.and_true,decide_eq_true_eq] at hq
     unfold mtB
     rw [Bool.true_and]
     by_cases h5:(fe L k).1=s
     ·rw [decide_eq_true h5,Bool.true_and,decide_eq_false_iff_not]
      intro h6
      exact hq ⟨by omega,h5.symm⟩
     ·rw [decide_eq_false h5];rfl
theorem zme {L:List Fr} {w:Wn} {s:Int} (h:rlK L L.length=true) (hw:wnB w=true):pq L w s=decide (badN L w.2.2.2.1.toNat s L.length w.2.2.1.toNat > w.2.2.2.2):=by
 have hb:=zjm hw
 have:=zc5 (sm:=w.2.2.2.1.toNat) (s:=s) h w.2.2.1.toNat L.length (Nat.le_refl _)
 rw [show ((w.2.2.1.toNat:Nat):Int)=w.2.2.1 by omega] at this
 unfold pq
 rw [show w.2.2.1 - gqN L w.2.2.1 w.2.2.2.1.toNat L.length s=badN L w.2.2.2.1.toNat s L.length w.2.2.1.toNat by omega]
def FsV1 (M:Mem) (a:Option (Nat × Nat)) (L:List Fr):Prop:=L=[] ∨ ∃ i o,a=some (i,o) /\ ∀ k (hk:k < L.length),∃ b g,Rd M i (o+k*3) 3 [I L[k].1,I L[k].2.1,.slice b L[k].2.2.length g 1] /\ SlI M b L[k].2.2
theorem FsV1.grow {M M':Mem} {a:Option (Nat × Nat)} {L:List Fr} (h:FsV1 M a L) (hg:Grow M M'):FsV1 M' a L :=
 h.imp id fun ⟨i,o,h1,h2⟩=>⟨i,o,h1,fun k hk=>by
  obtain ⟨b,g,h3,h4⟩:=h2 k hk
  exact ⟨b,g,h3.grow hg,h4.grow hg⟩⟩
theorem FsV1.rd {M:Mem} {a:Option (Nat × Nat)} {L:List Fr} (h:FsV1 M a L) {k:Nat} (hk:k < L.length):∃ i o b g,a=some (i,o) /\ Rd M i (o+k*3) 3 [I (fe L k).1,I (fe L k).2.1,.slice b (fe L k).2.2.length g 1] /\ SlI M b (fe L k).2.2:=by
 rcases h with rfl|⟨i,o,h1,h2⟩
 ·exact absurd hk (Nat.not_lt_zero _)
 ·obtain ⟨b,g,h3,h4⟩:=h2 k hk
  rw [<-z2d hk] at h3 h4
  exact ⟨i,o,b,g,h1,h3,h4⟩
def RlV1 (M:Mem) (v:LV) (r:Rl):Prop:=∃ a f e,v=.agg [.str r.1,.slice a r.2.length f e] /\ FsV1 M a r.2
theorem RlV1.grow {M M':Mem} {v:LV} {r:Rl} (h:RlV1 M v r) (hg:Grow M M'):RlV1 M' v r:=by
 obtain ⟨a,f,e,h1,h2⟩:=h
 exact ⟨a,f,e,h1,h2.grow hg⟩
theorem FsV1.to {M:Mem} {a:Option (Nat × Nat)} {L:List Fr} (h:FsV1 M a L):FsV M a L :=
 h.imp id fun ⟨i,o,h1,h2⟩=>⟨i,o,h1,fun k hk=>by
  obtain ⟨b,g,h3,h4⟩:=h2 k hk
  exact ⟨b,g,1,h3,h4⟩⟩
theorem RlV1.to {M:Mem} {v:LV} {r:Rl} (h:RlV1 M v r):RlV M v r:=by
 obtain ⟨a,f,e,h1,h2⟩:=h
 exact ⟨a,f,e,h1,h2.to⟩
theorem zk5 {m:Mem} {r:Rl} {cs:List LV} (h:Enc m rlSh r cs):RlV1 m (.agg cs) r:=by
 obtain ⟨c1,d1,rfl,⟨rfl,hb1⟩,a,f,rfl,h2,h3⟩:=h
 by_cases hl:r.2=[]
 ·exact ⟨a,f,_,rfl,.inl hl⟩
 ·obtain ⟨i,o,g1,g2,_,g3⟩:=h3 hl
  refine ⟨a,f,_,rfl,.inr ⟨i,o,g1,fun k hk=>?_⟩⟩
  obtain ⟨c,g4,c1,d1,rfl,⟨rfl,_⟩,c2,d2,rfl,⟨rfl,_⟩,h5⟩:=g3 k hk
  obtain ⟨b,g,rfl,h6,_⟩:=zca h5
  exact ⟨b,g,⟨g4,g2⟩,h6⟩
def oJ:Option (List Int)->Option (List Int)->Option (List Int)
 | none,b=>b
 | some a,none=>some a
 | some a,some b=>some (bothL a b)
theorem zcj {L:List Fr}:∀ {J:List Fr},SrtJ J->(∀ x ∈ J,FrK x)->(∀ x ∈ L,FrK x)->(L.map fky).Nodup->SrtJ (L.foldl addR J) /\ (∀ x ∈ L.foldl addR J,FrK x) /\ ∀ k,lkJ (L.foldl addR J) k=oJ (lkJ J k) (lkJ L k):=by
 induction L with
 | nil=>intro J h1 h2 _ _;exact ⟨h1,h2,fun k=>by cases hh:lkJ J k<;>simp [hh,lkJ,oJ]⟩
 | cons f L ih =>
  intro J h1 h2 h3 h4
  have hf:=h3 f (by simp)
  obtain ⟨g1,g2,g3,_⟩:=zar h1 h2 hf
  rw [List.map_cons,List.nodup_cons] at h4
  obtain ⟨i1,i2,i3⟩:=ih (J:=addR J f) g1 g2 (fun x hx=>h3 x (by simp [hx])) h4.2
  refine ⟨i1,i2,fun k=>?_⟩
  rw [List.foldl_cons,i3,g3,z6c]
  by_cases hk:k=fky f
  ·rw [if_pos hk,if_pos hk]
   have hno:lkJ L k=none:=by
    cases hq:lkJ L k with
    | none=>rfl
    | some l =>
     have:=(zbh L k).1 (by rw [hq];rfl)
     rw [hk] at this
     exact absurd this h4.1
   rw [hno,<- hk]
   cases lkJ J k with
   | none=>simp [oJ,z5m]
   | some a=>simp [oJ]
  ·rw [if_neg hk,if_neg hk]
structure GdL (J:List Fr):Prop where
 s:SrtJ J
 b:∀ x ∈ J,frB x=true
theorem zf9 {x:Fr} (h:frB x=true):FrK x:=by have:=z65 h;exact ⟨this.1,this.2.1,this.2.2.1,this.2.2.2.1⟩
theorem GdL.k {J:List Fr} (h:GdL J):∀ x ∈ J,FrK x:=fun x hx=>zf9 (h.b x hx)
theorem GdL.nd {J:List Fr} (h:GdL J):(J.map fky).Nodup:=h.s.keys.imp fun hk e=>by subst e;exact z0l _ hk
theorem GdL.rlK {J:List Fr} (h:GdL J):∀ n,n<=J.length->rlK J n=true
 | 0,_=>rfl
 | n+1,hn=>by
  have hlt:n < J.length:=hn
  have hb:=h.b J[n] (List.getElem_mem hlt)
  rw [ze8,GdL.rlK h n (by omega),z2d hlt,hb,Bool.true_and,Bool.true_and]
  by_cases h0:n=0
  ·rw [decide_eq_true h0];rfl
  ·have hl2:n - 1 < J.length:=by omega
   rw [z2d hl2,decide_eq_true (p:=keyI J[n - 1] < keyI J[n]) ?_,Bool.or_true]
   have:=h.s
   unfold SrtJ at this
   rw [List.pairwise_iff_getElem] at this
   exact (z8n (zf9 (h.b _ (List.getElem_mem hl2))) (zf9 hb)).2 (this (n - 1) n hl2 hlt (by omega))
theorem zm0 {J:List Fr} (h:C.rlK J J.length=true):GdL J:=by
 have hb:∀ x ∈ J,frB x=true:=fun x hx=>by
  obtain ⟨i,hi,rfl⟩:=List.mem_iff_getElem.1 hx
  have:=zcs h hi
  rw [z2d hi] at this;exact this
 refine ⟨?_,hb⟩
 unfold SrtJ
 rw [List.pairwise_iff_getElem]
 intro i j hi hj hij
 have:=zji h hij hj
 rw [z2d hi,z2d hj] at this
 exact (z8n (zf9 (hb _ (List.getElem_mem hi))) (zf9 (hb _ (List.getElem_mem hj)))).1 this
theorem zii {a b:List Int} (ha:smsB a=true) (hb:smsB b=true):smsB (bothL a b)=true:=by
 unfold smsB btB at *
 simp only [Bool.and_eq_true,decide_eq_true_eq] at *
 rw [z0h]
 exact ⟨by omega,zkr ha.2 hb.2⟩
theorem zhq {g f:Fr} (hg:frB g=true) (hf:frB f=true):frB (g.1,g.2.1,bothL g.2.2 f.2.2)=true:=by
 have h1:=z65 hg
 have h2:=z65 hf
 unfold frB btB
 simp only [Bool.and_eq_true,decide_eq_true_eq]
 exact ⟨⟨h1.1,h1.2.1⟩,⟨h1.2.2.1,h1.2.2.2.1⟩,zii h1.2.2.2.2 h2.2.2.2.2⟩
theorem zee {f:Fr} (hf:frB f=true):∀ {J:List Fr},(∀ x ∈ J,frB x=true)->∀ x ∈ addR J f,frB x=true
 | [],_=>fun x hx=>by
  have hx:x ∈ [f]:=hx
  have:x=f:=by simpa using hx
  rw [this];exact hf
 | g :: l,h=>fun x hx=>by
  unfold addR at hx
  split at hx
  ·rcases List.mem_cons.1 hx with rfl|hx
   ·exact zhq (h g (by simp)) hf
   ·exact h x (by simp [hx])
  ·split at hx
   ·rcases List.mem_cons.1 hx with rfl|hx
    ·exact hf
    ·exact h x hx
   ·rcases List.mem_cons.1 hx with rfl|hx
    ·exact h x (by simp)
    ·exact zee hf (fun y hy=>h y (by simp [hy])) x hx
theorem zbb {L:List Fr}:∀ {J:List Fr},(∀ x ∈ J,frB x=true)->(∀ x ∈ L,frB x=true)->∀ x ∈ L.foldl addR J,frB x=true:=by
 induction L with
 | nil=>intro J h _;exact h
 | cons f L ih=>intro J h h';exact ih (zee (h' f (by simp)) h) fun x hx=>h' x (by simp [hx])
def jnL (a b:List Fr):List Fr:=joinedR (a ++ b)
theorem zcf {a b:List Fr} (ha:GdL a) (hb:GdL b):GdL (jnL a b) /\ ∀ k,lkJ (jnL a b) k=oJ (lkJ a k) (lkJ b k):=by
 unfold jnL joinedR
 rw [List.foldl_append]
 obtain ⟨h1,h2,h3⟩:=zcj (L:=a) (J:=[]) List.Pairwise.nil (fun _ h=>absurd h List.not_mem_nil) ha.k ha.nd
 obtain ⟨g1,g2,g3⟩:=zcj (L:=b) h1 h2 hb.k hb.nd
 refine ⟨⟨g1,zbb (zbb (fun _ h=>absurd h List.not_mem_nil) ha.b) hb.b⟩,fun k=>?_⟩
 rw [g3,h3];rfl
theorem z8p:∀ {J:List Fr} {k:Ky} {l:List Int},lkJ J k=some l->∃ x ∈ J,fky x=k /\ x.2.2=l
 | x :: J,k,l,h=>by
  rw [z6c] at h
  by_cases hk:k=fky x
  ·rw [if_pos hk] at h
   exact ⟨x,by simp,hk.symm,Option.some.inj h⟩
  ·rw [if_neg hk] at h
   obtain ⟨y,h1,h2⟩:=z8p h
   exact ⟨y,by simp [h1],h2⟩
theorem zkb {a b:List Fr} (ha:GdL a) (hb:GdL b) {x:Fr} (hx:x ∈ a):∃ y ∈ jnL a b,fky y=fky x /\ bothL y.2.2 x.2.2=y.2.2:=by
 have h1:=zfo ha.s x hx
 have h2:=(zcf ha hb).2 (fky x)
 rw [h1] at h2
 cases hq:lkJ b (fky x) with
 | none =>
  rw [hq] at h2
  obtain ⟨y,h3,h4,h5⟩:=z8p h2
  exact ⟨y,h3,h4,by rw [h5,z7d]⟩
 | some l =>
  rw [hq] at h2
  obtain ⟨y,h3,h4,h5⟩:=z8p h2
  refine ⟨y,h3,h4,?_⟩
  rw [h5,zd6 x.2.2 l,zau,z7d]
def zRl:Rl:=(⟨#[]⟩,[])
def mergeF (x y:Rl):Rl × Int :=
 if errRl x=0 then (if errRl y=0 then (if x.1=y.1 then (if (joinedR (x.2 ++ y.2)).length<=128 then ((x.1,joinedR (x.2 ++ y.2)),0) else (zRl,6)) else (zRl,2)) else (zRl,errRl y)) else (zRl,errRl x)
def mgOk (x y:Rl):Prop:=errRl x=0 /\ errRl y=0 /\ x.1=y.1 /\ (jnL x.2 y.2).length<=128
theorem zfx {x y:Rl} (h:mgOk x y):mergeF x y=((x.1,jnL x.2 y.2),0):=by
 obtain ⟨h1,h2,h3,h4⟩:=h
 unfold mergeF
 have h4:(joinedR (x.2 ++ y.2)).length<=128:=h4
 rw [if_pos h1,if_pos h2,if_pos h3,if_pos h4];rfl
theorem zfw {x y:Rl} (h:¬ mgOk x y):(mergeF x y).2 ≠ 0:=by
 unfold mergeF
 by_cases h1:errRl x=0
 case neg=>rw [if_neg h1];exact h1
 by_cases h2:errRl y=0
 case neg=>rw [if_pos h1,if_neg h2];exact h2
 rw [if_pos h1,if_pos h2]
 by_cases h3:x.1=y.1
 case neg=>rw [if_neg h3];decide
 rw [if_pos h3]
 by_cases h4:(joinedR (x.2 ++ y.2)).length<=128
 ·exact absurd ⟨h1,h2,h3,h4⟩ h
 ·rw [if_neg h4];decide
theorem err0 {x:Rl} (h:errRl x=0):nmB x.1=true /\ x.2.length<=128 /\ GdL x.2:=by
 unfold errRl at h
 cases hb:rlB x with
 | false=>rw [hb] at h;simp at h
 | true =>
  unfold rlB at hb
  simp only [Bool.and_eq_true,decide_eq_true_eq] at hb
  exact ⟨hb.1.1,hb.1.2,zm0 hb.2⟩
theorem zk9 {x:Rl} (h1:nmB x.1=true) (h2:x.2.length<=128) (h3:GdL x.2):errRl x=0:=by
 unfold errRl rlB
 rw [h1,decide_eq_true h2,h3.rlK _ (Nat.le_refl _)];rfl
theorem zfy {x y:Rl} (h:mgOk x y):errRl (x.1,jnL x.2 y.2)=0 :=
 zk9 (err0 h.1).1 h.2.2.2 (zcf (err0 h.1).2.2 (err0 h.2.1).2.2).1
theorem zbs {x:Rl} (h:errRl x=0):RlIn x:=by
 obtain ⟨h1,h2,h3⟩:=err0 h
 refine ⟨?_,by omega,fun f hf=>znu (by unfold errF;rw [h3.b f hf];rfl)⟩
 unfold nmB btB at h1
 simp only [Bool.and_eq_true,decide_eq_true_eq] at h1
 omega
end Go.Proofs.YtbfnnllgdioccaaGreatDoor.C
end
section
open Go PvL Go.Proofs
variable {μ:Md}
set_option linter.unusedVariables false
set_option linter.unusedSimpArgs false
namespace Go.Proofs.YtbfnnllgdioccaaGreatDoor.C
abbrev kyv (k:Ky):LV:=.agg [I k.1,I k.2]
abbrev zsl:LV:=.slice none 0 true 0
abbrev Mk:=List (Ky × LV)
def encK (L:Mk):List (LV × LV):=L.map fun p=>(kyv p.1,p.2)
def lkM:Mk->Ky->Option LV
 | [],_=>none
 |(a,b) :: L,k=>if k=a then some b else lkM L k
def stV:Mk->Ky->LV->Mk
 | [],k,v=>[(k,v)]
 |(a,b) :: L,k,v=>if k=a then (k,v) :: L else (a,b) :: stV L k v
theorem zhy (a:Ky) (b:LV) (L:Mk) (k:Ky):lkM ((a,b) :: L) k=if k=a then some b else lkM L k:=rfl
theorem zgk (a:Ky) (b:LV) (L:Mk) (k:Ky) (v:LV):stV ((a,b) :: L) k v=if k=a then (k,v) :: L else (a,b) :: stV L k v:=rfl
theorem zhl {P:Program} {t e:TypeId} (hu:P.underlying t=some (.array 2 e)) (hi:P.underlying e=some (.int .i64)) (hs:szOf P e=some 1) (ha:aggSz P e=some none) (a b c d:Int) :
  eqL P Op.maxDepth t (.agg [I a,I b]) (.agg [I c,I d])=some (decide (a=c) && decide (b=d)):=by
 have he:∀ x y:Int,eqL P (Op.maxDepth - 1) e (I x) (I y)=some (decide (x=y)):=fun x y=>by
  show eqL P (Op.maxDepth - 2+1) e (I x) (I y)=_
  unfold eqL
  rw [hi]
  show guard' (kEq .i64 .i64) (some (ieq x y))=_
  rw [z15.2 rfl,z4,z1p]
  rfl
 have hp:∀ (i:Nat) (xs ys:List LV) (x y:Int),nth xs i=some (I x)->nth ys i=some (I y)->eqPart P (eqL P (Op.maxDepth - 1)) e i xs ys=some (decide (x=y)):=fun i xs ys x y h1 h2=>by
  unfold eqPart
  rw [ha,z0,z3e,h1,z0,h2,z0];exact he x y
 show eqL P (Op.maxDepth - 1+1) t _ _=_
 unfold eqL
 rw [hu]
 show ob (szOf P e) _=_
 rw [hs,z0]
 show andO (eqPart P (eqL P (Op.maxDepth - 1)) e 0 [I a,I b] [I c,I d]) (andO (eqPart P (eqL P (Op.maxDepth - 1)) e 1 [I a,I b] [I c,I d]) (some true))=_
 rw [hp 0 _ _ a c rfl rfl,hp 1 _ _ b d rfl rfl]
 unfold andO
 rw [z0,z0]
 by_cases h1:a=c<;>by_cases h2:b=d<;>simp [h1,h2,ifb]
theorem zk8 (a b c d:Int):eqL Tryz.prog Op.maxDepth 114 (.agg [I a,I b]) (.agg [I c,I d])=some (decide (a=c) && decide (b=d)) :=
 zhl (e:=3) (by kernel_rfl) (by kernel_rfl) (by kernel_rfl) (by kernel_rfl) a b c d
theorem zjb (a b:Ky):eqL Tryz.prog Op.maxDepth 114 (kyv a) (kyv b)=some (decide (a=b)):=by
 refine (zk8 a.1 a.2 b.1 b.2).trans ?_
 by_cases h:a=b
 ·subst h;simp
 ·rw [decide_eq_false h]
  have:¬ (a.1=b.1 /\ a.2=b.2):=fun ⟨h1,h2⟩=>h (Prod.ext h1 h2)
  by_cases h1:a.1=b.1
  ·have h2:¬ a.2=b.2:=fun h2=>this ⟨h1,h2⟩
   simp [h2]
  ·simp [h1]
theorem zlv (a:Ky) (b:LV) (L:Mk):encK ((a,b) :: L)=(kyv a,b) :: encK L:=rfl
theorem z4j {P:Program} {kt:TypeId} (heq:∀ a b:Ky,eqL P Op.maxDepth kt (kyv a) (kyv b)=some (decide (a=b))) (k a:Ky) (b:LV) (L:Mk) (i:Nat):findL P kt (kyv k) (encK ((a,b) :: L)) i=if k=a then some (some (i,kyv a,b)) else findL P kt (kyv k) (encK L) (i+1):=by
 rw [zlv]
 generalize encK L=es
 have hk:=heq k a
 generalize kyv k=kv at *
 generalize kyv a=av at *
 show ob (eqL P Op.maxDepth kt kv av) (fun b'=>ifb b' (some (some (i,av,b))) (findL P kt kv es (i+1)))=_
 rw [hk,z0]
 by_cases hab:k=a
 ·rw [decide_eq_true hab,zd,if_pos hab]
 ·rw [decide_eq_false hab,z5,if_neg hab]
theorem z60 {P:Program} {kt:TypeId} (heq:∀ a b:Ky,eqL P Op.maxDepth kt (kyv a) (kyv b)=some (decide (a=b))) (k:Ky):∀ (L:Mk) (i:Nat),lkM L k=none->findL P kt (kyv k) (encK L) i=some none /\ ∀ v,encK L ++ [(kyv k,v)]=encK (stV L k v)
 | [],i,_=>⟨rfl,fun v=>rfl⟩
 |(a,b) :: L,i,h=>by
  rw [zhy] at h
  by_cases hka:k=a
  ·rw [if_pos hka] at h;cases h
  ·rw [if_neg hka] at h
   obtain ⟨h1,h2⟩:=z60 heq k L (i+1) h
   constructor
   ·rw [z4j heq,if_neg hka,h1]
   ·intro v
    rw [zgk,if_neg hka]
    show (kyv a,b) :: (encK L ++ [(kyv k,v)])=(kyv a,b) :: encK (stV L k v)
    rw [h2 v]
theorem z61 {P:Program} {kt:TypeId} (heq:∀ a b:Ky,eqL P Op.maxDepth kt (kyv a) (kyv b)=some (decide (a=b))) (k:Ky):∀ (L:Mk) (i:Nat) (b:LV),lkM L k=some b->∃ j,findL P kt (kyv k) (encK L) i=some (some (i+j,kyv k,b)) /\ ∀ v,setVal (encK L) j (kyv k) v=encK (stV L k v)
 | [],i,b,h=>by cases h
 |(a,c) :: L,i,b,h=>by
  rw [zhy] at h
  by_cases hka:k=a
  ·rw [if_pos hka] at h
   obtain rfl:=Option.some.inj h
   subst hka
   refine ⟨0,?_,fun v=>?_⟩
   ·rw [z4j heq,if_pos rfl,Nat.add_zero]
   ·rw [zgk,if_pos rfl];rfl
  ·rw [if_neg hka] at h
   obtain ⟨j,h1,h2⟩:=z61 heq k L (i+1) b h
   refine ⟨j+1,?_,fun v=>?_⟩
   ·rw [z4j heq,if_neg hka,h1,Nat.add_assoc,Nat.add_comm 1 j]
   ·rw [zgk,if_neg hka]
    show (kyv a,c) :: setVal (encK L) j (kyv k) v=(kyv a,c) :: encK (stV L k v)
    rw [h2 v]
theorem z7i (k:Ky) (L:Mk) (i:Nat) (h:lkM L k=none):findL Tryz.prog 114 (kyv k) (encK L) i=some none /\ ∀ v,encK L ++ [(kyv k,v)]=encK (stV L k v):=z60 zjb k L i h
theorem z7j (k:Ky) (L:Mk) (i:Nat) (b:LV) (h:lkM L k=some b):∃ j,findL Tryz.prog 114 (kyv k) (encK L) i=some (some (i+j,kyv k,b)) /\ ∀ v,setVal (encK L) j (kyv k) v=encK (stV L k v):=z61 zjb k L i b h
theorem zfj (k:Ky):keyOk Tryz.prog 10000 114 (kyv k)=true:=by kernel_rfl
structure StOk (bs:List Nat) (clk n:Nat):Prop where
 len:bs.length=n
 nodup:bs.Nodup
 lt:∀ b ∈ bs,b < clk
def SlV (M:Mem) (v:LV) (l:List Int):Prop:=∃ a f e,v=.slice a l.length f e /\ (l ≠ []->e=1) /\ SlI M a l
inductive RkL (M:Mem):Mk->Rk->Prop
 | nil:RkL M [] []
 | cons {k:Ky} {v:LV} {l:List Int} {L:Mk} {R:Rk} (h:SlV M v l) (h':RkL M L R):RkL M ((k,v) :: L) ((k,l) :: R)
def RkM (M:Mem) (r:Nat) (R:Rk):Prop:=∃ L bs clk,At M r (.map (encK L) bs clk) /\ StOk bs clk L.length /\ RkL M L R
variable {M M':Mem} {L:Mk} {R:Rk} {r:Nat} {k:Ky}
theorem SlV.grow {v:LV} {l:List Int} (h:SlV M v l) (hg:Grow M M'):SlV M' v l:=by
 obtain ⟨a,f,e,h1,h0,h2⟩:=h
 exact ⟨a,f,e,h1,h0,h2.grow hg⟩
theorem SlV.nil:SlV M zsl []:=⟨none,true,0,rfl,fun h=>absurd rfl h,.inl rfl⟩
theorem SlV.vec {b:Nat} {ty:TypeId} {v:LV} {l:List Int} (h:Vec b 1 ty intc M v l):SlV M v l:=by
 rcases h with ⟨rfl,rfl⟩|⟨i,rfl,h2,h3⟩
 ·exact SlV.nil
 ·exact ⟨_,_,_,rfl,fun _=>rfl,.inr ⟨i,0,rfl,fun k hk=>zai (z3h (enc:=intc) h2 (fun _ _=>rfl) hk)⟩⟩
theorem RkL.grow (h:RkL M L R) (hg:Grow M M'):RkL M' L R:=by
 induction h with
 | nil=>exact .nil
 | cons h _ ih=>exact .cons (h.grow hg) ih
theorem RkL.len (h:RkL M L R):L.length=R.length:=by
 induction h with
 | nil=>rfl
 | cons h _ ih=>simp [ih]
theorem RkL.keys (h:RkL M L R):L.map (·.1)=R.map (·.1):=by
 induction h with
 | nil=>rfl
 | cons h _ ih=>simp [ih]
theorem RkL.look (h:RkL M L R) (k:Ky):SlV M ((lkM L k).getD zsl) ((lkK R k).getD []):=by
 induction h with
 | nil=>exact SlV.nil
 | @cons k' v l L R h _ ih =>
  rw [zhy]
  show SlV M _ ((if k=k' then some l else lkK R k).getD [])
  by_cases hk:k=k'
  ·rw [if_pos hk,if_pos hk];exact h
  ·rw [if_neg hk,if_neg hk];exact ih
theorem RkL.put (h:RkL M L R) (k:Ky) {v:LV} {l:List Int} (hv:SlV M v l):RkL M (stV L k v) (stK R k l):=by
 induction h with
 | nil=>exact .cons hv .nil
 | @cons k' v' l' L R h hL ih =>
  rw [zgk]
  show RkL M _ (if k=k' then (k,l) :: R else (k',l') :: stK R k l)
  by_cases hk:k=k'
  ·rw [if_pos hk,if_pos hk];exact .cons hv hL
  ·rw [if_neg hk,if_neg hk];exact .cons h ih
theorem RkM.grow (h:RkM M r R) (hg:Grow M M'):RkM M' r R:=by
 obtain ⟨L,bs,clk,h1,h2,h3⟩:=h
 exact ⟨L,bs,clk,h1.grow hg,h2,h3.grow hg⟩
theorem RkM.lt (h:RkM M r R):r < M.next:=by
 obtain ⟨L,bs,clk,h1,h2,h3⟩:=h
 exact h1.2
theorem Rd1.updm {i o:Nat} {v:LV} {es es':List (LV × LV)} {bs bs':List Nat} {c c':Nat} (h:Rd1 M i o v) (hm:At M r (.map es bs c)) (hu:Upd M r (.map es' bs' c') M'):Rd1 M' i o v:=by
 refine Rd1.upd_ne hu (fun e=>?_) h
 subst e
 have h1:=h.1
 unfold load1 atCells at h1
 rw [hm.1] at h1
 cases h1
theorem SlV.updm {v:LV} {l:List Int} {es es':List (LV × LV)} {bs bs':List Nat} {c c':Nat} (h:SlV M v l) (hm:At M r (.map es bs c)) (hu:Upd M r (.map es' bs' c') M'):SlV M' v l:=by
 obtain ⟨a,f,e,h1,h0,h2⟩:=h
 exact ⟨a,f,e,h1,h0,h2.imp id fun ⟨i,o,h3,h4⟩=>⟨i,o,h3,fun k hk=>Rd1.updm (h4 k hk) hm hu⟩⟩
theorem RkL.updm {es es':List (LV × LV)} {bs bs':List Nat} {c c':Nat} (h:RkL M L R) (hm:At M r (.map es bs c)) (hu:Upd M r (.map es' bs' c') M'):RkL M' L R:=by
 induction h with
 | nil=>exact .nil
 | cons h _ ih=>exact .cons (h.updm hm hu) ih
variable {E:Env} {x y z':XO}
theorem zft {bs:List Nat} {clk:Nat} (hm:At M r (.map (encK L) bs clk)) (hx:xval E x=some (.map (some r))) (hy:xval E y=some (kyv k)):xstep Tryz.prog (.lkp 114 zsl false x y) E M=some (.val ((lkM L k).getD zsl) M):=by
 show ob (xval E x) _=_
 rw [hx,z0,hy,z0,zfj,z4]
 show atMap M r _=_
 unfold atMap
 rw [hm.1,z0]
 show ob (findL Tryz.prog 114 (kyv k) (encK L) 0) _=_
 cases hl:lkM L k with
 | none=>rw [(z7i k L 0 hl).1];rfl
 | some b =>
  obtain ⟨j,h1,_⟩:=z7j k L 0 b hl
  rw [h1];rfl
theorem zgl (L:Mk) (k:Ky) (v:LV):(stV L k v).length=if (lkM L k).isSome then L.length else L.length+1:=by
 induction L with
 | nil=>rfl
 | cons p L ih =>
  obtain ⟨a,b⟩:=p
  rw [zgk,zhy]
  by_cases h:k=a
  ·rw [if_pos h,if_pos h];rfl
  ·rw [if_neg h,if_neg h,List.length_cons,ih]
   split<;>simp
theorem zmg {v:LV} {l:List Int} (h:RkM M r R) (hv:SlV M v l) (hx:xval E x=some (.map (some r))) (hy:xval E y=some (kyv k)) (hz:xval E z'=some v):∃ lb M',xstep Tryz.prog (.mset 114 x y z') E M=some (.skip M') /\ Upd M r lb M' /\ RkM M' r (stK R k l):=by
 obtain ⟨L,bs,clk,hm,hok,hL⟩:=h
 have key:∀ R,(ob (findL Tryz.prog 114 (kyv k) (encK L) 0) fun p=>oe p
   (some (R1.skip (M.upd r (some (.map (encK L ++ [(kyv k,v)]) (bs ++ [clk]) (clk+1))))))
   (fun p=>pr p fun i q=>pr q fun k' _=>guard' (lvEq (kyv k) k') (some (.skip (M.upd r (some (.map (setVal (encK L) i (kyv k) v) bs clk)))))))=some R->xstep Tryz.prog (.mset 114 x y z') E M=some R:=fun R hR=>by
  show ob (xval E x) _=_
  rw [hx,z0,hy,z0,hz,z0,zfj,z4]
  show atMap M r _=_
  unfold atMap
  rw [hm.1,z0]
  exact hR
 cases hl:lkM L k with
 | none =>
  obtain ⟨h1,h2⟩:=z7i k L 0 hl
  refine ⟨_,_,key _ (by rw [h1,z0];rfl),⟨rfl⟩,stV L k v,bs ++ [clk],clk+1,?_,?_,(hL.updm hm ⟨rfl⟩).put k (hv.updm hm ⟨rfl⟩)⟩
  ·rw [<-h2 v]
   exact At.upd_same ⟨rfl⟩ hm
  ·refine ⟨by rw [List.length_append,hok.len,zgl,hl];rfl,?_,fun b hb=>?_⟩
   ·rw [List.nodup_append]
    exact ⟨hok.nodup,by simp,fun a ha b hb=>by
     obtain rfl:b=clk:=by simpa using hb
     have:=hok.lt a ha;omega⟩
   ·rcases List.mem_append.1 hb with hb|hb
    ·have:=hok.lt b hb;omega
    ·obtain rfl:b=clk:=by simpa using hb
     omega
 | some b =>
  obtain ⟨j,h1,h2⟩:=z7j k L 0 b hl
  refine ⟨_,_,key (.skip (M.upd r (some (.map (setVal (encK L) j (kyv k) v) bs clk)))) (by
   rw [h1,z0,Nat.zero_add]
   show guard' (lvEq (kyv k) (kyv k)) _=_
   rw [z3y,z4]),⟨rfl⟩,stV L k v,bs,clk,?_,⟨by rw [hok.len,zgl,hl];rfl,hok.nodup,hok.lt⟩,(hL.updm hm ⟨rfl⟩).put k (hv.updm hm ⟨rfl⟩)⟩
  rw [<-h2 v]
  exact At.upd_same ⟨rfl⟩ hm
theorem zgy {P:Program} {es:List (LV × LV)} {bs:List Nat} {clk:Nat} (hx:xval E x=some (.map (some r))) (hm:At M r (.map es bs clk)):xstep P (.len .map x) E M=some (.val (I es.length) M):=by
 show ob (xval E x) _=_
 rw [hx,z0]
 show ob (atMap M r fun es _ _=>mkN es.length) _=_
 unfold atMap
 rw [hm.1]
 show ob (mkN es.length) (rv M)=_
 unfold mkN
 rw [z0f];rfl
theorem z8o {seen:List Nat}:∀ {bs:List Nat} {es:List (LV × LV)} {b:Nat} {kk v:LV},(b,kk,v) ∈ leftL seen bs es->∃ i:Nat,bs[i]?=some b /\ es[i]?=some (kk,v) /\ b ∉ seen
 | [],_,_,_,_,h=>nomatch h
 | c :: bs,[],_,_,_,h=>nomatch h
 | c :: bs,e :: es,b,kk,v,h=>by
  have h:(b,kk,v) ∈ ifb (memN c seen) (leftL seen bs es) ((c,e) :: leftL seen bs es):=h
  cases hm:memN c seen with
  | true =>
   rw [hm,zd] at h
   obtain ⟨i,h1,h2,h3⟩:=z8o h
   exact ⟨i+1,h1,h2,h3⟩
  | false =>
   rw [hm,z5] at h
   rcases List.mem_cons.1 h with h|h
   ·cases h
    exact ⟨0,rfl,rfl,fun hh=>by rw [z6h.2 hh] at hm;cases hm⟩
   ·obtain ⟨i,h1,h2,h3⟩:=z8o h
    exact ⟨i+1,h1,h2,h3⟩
theorem zci {seen:List Nat}:∀ {bs:List Nat} {es:List (LV × LV)},leftL seen bs es=[]->bs.length=es.length->∀ b ∈ bs,b ∈ seen
 | [],_,_,_,b,hb=>nomatch hb
 | c :: bs,[],_,hl,_,_=>by simp at hl
 | c :: bs,e :: es,h,hl,b,hb=>by
  have h:ifb (memN c seen) (leftL seen bs es) ((c,e) :: leftL seen bs es)=[]:=h
  cases hm:memN c seen with
  | false=>rw [hm,z5] at h;cases h
  | true =>
   rw [hm,zd] at h
   rcases List.mem_cons.1 hb with rfl|hb
   ·exact z6h.1 hm
   ·exact zci h (by simpa using hl) b hb
theorem zao {n:Nat}:∀ {bs:List Nat} {es:List (LV × LV)} {i:Nat} {e:LV × LV},bs.Nodup->bs[i]?=some n->es[i]?=some e->stampL n bs es=some e
 | [],_,i,_,_,h,_=>by simp at h
 | c :: bs,[],i,_,_,_,h=>by simp at h
 | c :: bs,f :: es,0,e,hn,h1,h2=>by
  obtain rfl:c=n:=by simpa using h1
  obtain rfl:f=e:=by simpa using h2
  show ifb (Nat.beq c c) (some f) _=_
  rw [show Nat.beq c c=true by simp];rfl
 | c :: bs,f :: es,i+1,e,hn,h1,h2=>by
  have hn':=List.nodup_cons.1 hn
  have hne:¬ c=n:=by
   rintro rfl
   exact hn'.1 (List.mem_of_getElem? (i:=i) (by simpa using h1))
  show ifb (Nat.beq c n) (some f) (stampL n bs es)=_
  rw [show Nat.beq c n=false by cases hb:Nat.beq c n;rfl;exact absurd (Nat.eq_of_beq_eq_true hb) hne,z5]
  exact zao hn'.2 (by simpa using h1) (by simpa using h2)
theorem zc3 {n:Nat}:∀ {l:List Nat},(∀ x ∈ l,x < n)->allLt n l=true
 | [],_=>rfl
 | x :: l,h=>by
  show ifb (Nat.ble (Nat.succ x) n) (allLt n l) false=true
  rw [Nat.ble_eq_true_of_le (h x (by simp)),zd]
  exact zc3 fun y hy=>h y (by simp [hy])
theorem z89 {n x:Nat}:∀ {l:List Nat},x ∈ l->x < n->anyLt n l=true
 | [],h,_=>nomatch h
 | y :: l,h,hx=>by
  show ifb (Nat.ble (Nat.succ y) n) true (anyLt n l)=true
  cases hb:Nat.ble (Nat.succ y) n with
  | true=>rfl
  | false =>
   rw [z5]
   rcases List.mem_cons.1 h with rfl|h
   ·rw [Nat.ble_eq_true_of_le hx] at hb;cases hb
   ·exact z89 h hx
end Go.Proofs.YtbfnnllgdioccaaGreatDoor.C
end
section
open Go PvL Go.Proofs
set_option linter.unusedSimpArgs false
set_option linter.unusedVariables false
namespace Go.Proofs.YtbfnnllgdioccaaGreatDoor.C
theorem zev (n a b:Int) (M:Mem):CallOk Tryz.prog 115 [I n,I a,I b] M (fun w M'=>w=.bool (btB n a b) /\ M'=M):=by
 refine z9 k115 rfl ?_
 dsimp only [x115,zipE,Nat.reduceAdd]
 unfold btB
 (repeat' (first|(with_reducible intro _)|refine sv ?_|(refine sc ?_ ?_<;>(intro h;try first|exact h.elim|exact absurd rfl h|(exfalso;omega)))|(refine sg ?_ ?_<;>(intro h;(fail_if_success (have:True:=h));try first|exact h.elim|exact absurd rfl h|(exfalso;omega)))|assumption|exact xm|exact rfl))
 all_goals (((with_reducible first|apply z8|apply z3);exact rx);refine ⟨?_,rfl⟩;show LV.bool _=LV.bool _;congr 1;simp;omega)
set_option maxHeartbeats 4000000 in
theorem zha (s:ByteArray) (hs:s.size<=1000000000000000) (M:Mem):CallOk Tryz.prog 66 [.str s] M (fun w M'=>w=.bool (nmB s) /\ M'=M):=by
 refine z9 k66 rfl ?_
 dsimp only [x66,zipE,Nat.reduceAdd]
 (repeat' (first|(with_reducible intro _)|refine sv ?_|(refine sc ?_ ?_<;>(intro h;try first|exact h.elim|exact absurd rfl h|(exfalso;omega)))|(refine sg ?_ ?_<;>(intro h;(fail_if_success (have:True:=h));try first|exact h.elim|exact absurd rfl h|(exfalso;omega)))|assumption|exact xm|exact rfl))
 refine z7 (fun z E ms M'=>∃ k:Nat,z=s.size - k /\ k<=s.size /\ ms=[] /\ Has E [(0,.str s),(7,I s.size),(8,I k)] /\ M'=M /\ nmK s k=true)
  ?_ s.size _ _ _ ⟨0,by omega,by omega,rfl,.cons rfl (.cons rfl (.cons rfl .nil)),rfl,rfl⟩
 rintro z E ms M1 ⟨k,rfl,hk,rfl,hE,rfl,hok⟩
 refine zt hE ?_
 by_cases hlast:k=s.size
 ·subst hlast
  have hn:nmB s=btB s.size 1 16:=by unfold nmB;rw [hok];rfl
  rw [hn]
  (repeat' (first|(with_reducible intro _)|refine sv ?_|(refine sc ?_ ?_<;>(intro h;try first|exact h.elim|exact absurd rfl h|(exfalso;omega)))|((with_reducible first|apply zz|apply zx|apply zi);exact gd;exact rfl;exact rfl;(first|exact zev _ _ _ _))|(refine sg ?_ ?_<;>(intro h;(fail_if_success (have:True:=h));try first|exact h.elim|exact absurd rfl h|(exfalso;omega)))|assumption|exact xm|exact rfl))
  ((with_reducible first|apply z8|apply z3);exact rx)
  exact ⟨rfl,rfl⟩
 have hlt:k < s.size:=by omega
 have hst:=zma s k
 rw [hok,Bool.true_and] at hst
 have hno:=zm9 (s:=s) (k:=k+1) (by omega)
 have hF:¬ (97<=byteAt s k /\ byteAt s k<=122 ∨ k ≠ 0 /\ (byteAt s k=95 ∨ 48<=byteAt s k /\ byteAt s k<=57))->nmB s=false:=fun hh=>hno (by
  rw [hst,Bool.eq_false_iff]
  unfold ltB dgB
  simp only [ne_eq,Bool.or_eq_true,Bool.and_eq_true,decide_eq_true_eq]
  exact hh)
 have hT:(97<=byteAt s k /\ byteAt s k<=122 ∨ k ≠ 0 /\ (byteAt s k=95 ∨ 48<=byteAt s k /\ byteAt s k<=57))->nmK s (k+1)=true:=fun hh=>by
  rw [hst]
  unfold ltB dgB
  simp only [ne_eq,Bool.or_eq_true,Bool.and_eq_true,decide_eq_true_eq]
  exact hh
 clear hst hno
 (repeat' (first|(with_reducible intro _)|refine sv ?_|(refine sc ?_ ?_<;>(intro h;try first|exact h.elim|exact absurd rfl h|(exfalso;omega)))|(refine sg ?_ ?_<;>(intro h;(fail_if_success (have:True:=h));try first|exact h.elim|exact absurd rfl h|(exfalso;omega)))|assumption|exact xm|exact rfl))
 all_goals first
  | exact ze (s.size - (k+1)) (by omega) ⟨k+1,rfl,by omega,rfl,.cons rfl (.cons rfl (.cons rfl .nil)),rfl,hT (by omega)⟩
  |(rw [hF (by omega)];((with_reducible first|apply z8|apply z3);exact rx);exact ⟨rfl,rfl⟩)
  |(exfalso;omega)
theorem z93 {E:Env} {M:Mem} {x:XO} {i:Nat} {own:Bool} {p q:LV} {ty:TypeId} (hx:xval E x=some (.ptr (some (i,0)))) (hm:At M i (.cells own [p,q] ty)):xstep Tryz.prog (.slA 2 1 x none none none) E M=some (.val (.slice (some (i,0)) 2 true 1) M):=by
 show ob (xval E x) _=_
 rw [hx,z0]
 show guard' true (atCells M i _)=_
 rw [z4]
 unfold atCells
 rw [hm.1]
 rfl
theorem zll (a b:Int) (M:Mem):CallOk Tryz.prog 146 [I a,I b] M (fun w M'=>w=I (cmpI8 a b) /\ M'=M):=by
 have cn:∀ n M,CallOk Tryz.prog 171 [I n] M (fun w M'=>w=.bool false /\ M'=M):=fun n M=>by
  refine z9 k171 rfl ?_
  dsimp only [x171,zipE,Nat.reduceAdd]
  (repeat' (first|(with_reducible intro _)|refine sv ?_|(refine sc ?_ ?_<;>(intro h;try first|exact h.elim|exact absurd rfl h|(exfalso;omega)))|(refine sg ?_ ?_<;>(intro h;(fail_if_success (have:True:=h));try first|exact h.elim|exact absurd rfl h|(exfalso;omega)))|assumption|exact xm|exact rfl))
  ((with_reducible first|apply z8|apply z3);exact rx)
  refine ⟨?_,rfl⟩
  show LV.bool _=LV.bool _
  simp
 refine z9 k146 rfl ?_
 dsimp only [x146,zipE,Nat.reduceAdd]
 unfold cmpI8
 (repeat' (first|(with_reducible intro _)|refine sv ?_|(refine sc ?_ ?_<;>(intro h;try first|exact h.elim|exact absurd rfl h|(exfalso;omega)))|((with_reducible first|apply zz|apply zx|apply zi);exact gd;exact rfl;exact rfl;(first|exact cn _ _))|(refine sg ?_ ?_<;>(intro h;(fail_if_success (have:True:=h));try first|exact h.elim|exact absurd rfl h|(exfalso;omega)))|assumption|exact xm|exact rfl))
 ·((with_reducible first|apply z8|apply z3);exact rx)
  rw [if_pos (by omega)]
  exact ⟨rfl,rfl⟩
 ·((with_reducible first|apply z8|apply z3);exact rx)
  rw [if_neg (by omega),if_pos (by omega)]
  exact ⟨rfl,rfl⟩
 ·((with_reducible first|apply z8|apply z3);exact rx)
  rw [if_neg (by omega),if_neg (by omega)]
  exact ⟨rfl,rfl⟩
set_option maxHeartbeats 4000000 in
theorem zep {M:Mem} {i j:Nat} {a1 a2 b1 b2:Int} {t u:TypeId} {f g:Bool} (ha:At M i (.cells true [I a1,I a2] t)) (hb:At M j (.cells true [I b1,I b2] u)) :
  CallOk Tryz.prog 118 [.slice (some (i,0)) 2 f 1,.slice (some (j,0)) 2 g 1] M (fun w M'=>w=I (cmpK (a1,a2) (b1,b2)) /\ M'=M):=by
 refine z9 k118 rfl ?_
 dsimp only [x118,zipE,Nat.reduceAdd]
 have r0:Rd1 M i (0+0*1) (I a1):=Rd1.of_at ha rfl
 have r1:Rd1 M i (0+1*1) (I a2):=Rd1.of_at ha rfl
 have s0:Rd1 M j (0+0*1) (I b1):=Rd1.of_at hb rfl
 have s1:Rd1 M j (0+1*1) (I b2):=Rd1.of_at hb rfl
 have hA:cmpI8 a1 b1 ≠ 0->cmpK (a1,a2) (b1,b2)=cmpI8 a1 b1:=fun h=>by unfold cmpK;rw [if_pos h]
 have hB:cmpI8 a1 b1=0->cmpK (a1,a2) (b1,b2)=cmpI8 a2 b2:=fun h=>by unfold cmpK;rw [if_neg (by dsimp only;omega)]
 have cA:=zll a1 b1
 have cB:=zll a2 b2
 generalize cmpI8 a1 b1=A at *
 generalize cmpI8 a2 b2=B at *
 generalize cmpK (a1,a2) (b1,b2)=C at *
 (repeat' (first|(with_reducible intro _)|refine sv ?_|(refine sc ?_ ?_<;>(intro h;try first|exact h.elim|exact absurd rfl h|(exfalso;omega)))|(refine sg ?_ ?_<;>(intro h;(fail_if_success (have:True:=h));try first|exact h.elim|exact absurd rfl h|(exfalso;omega)))|assumption|exact xm|exact rfl))
 refine z7 (fun z E ms M'=>∃ k:Nat,z=2 - k /\ k<=2 /\ ms=[] /\ Has E [(0,.slice (some (i,0)) 2 f 1),(1,.slice (some (j,0)) 2 g 1),(9,.slice (some (i,0)) 2 f 1),(10,I 2),(11,I k)] /\ M'=M /\ (1<=k->A=0) /\ (2<=k->B=0))
  ?_ 2 _ _ _ ⟨0,rfl,by omega,rfl,.cons rfl (.cons rfl (.cons rfl (.cons rfl (.cons rfl .nil)))),rfl,fun h=>by omega,fun h=>by omega⟩
 rintro z E ms M1 ⟨k,rfl,hk,rfl,hE,rfl,h1,h2⟩
 refine zt hE ?_
 match k,hk with
 | 0,_ =>
  (have hrd0:=r0;have hrd1:=s0;repeat' (first|(with_reducible intro _)|refine sv ?_|(refine sc ?_ ?_<;>(intro h;try first|exact h.elim|exact absurd rfl h|(exfalso;omega)))|((with_reducible first|apply zz|apply zx|apply zi);exact gd;exact rfl;exact rfl;(first|exact cA _))|(refine sg ?_ ?_<;>(intro h;(fail_if_success (have:True:=h));try first|exact h.elim|exact absurd rfl h|(exfalso;omega)))|assumption|exact xm|exact rfl))
  ·((with_reducible first|apply z8|apply z3);exact rx)
   rw [hA (by omega)]
   exact ⟨rfl,rfl⟩
  ·exact ze 1 (by omega) ⟨1,rfl,by omega,rfl,.cons rfl (.cons rfl (.cons rfl (.cons rfl (.cons rfl .nil)))),rfl,fun _=>by omega,fun h=>by omega⟩
 | 1,_ =>
  have h1:=h1 (Nat.le_refl _)
  (have hrd0:=r1;have hrd1:=s1;repeat' (first|(with_reducible intro _)|refine sv ?_|(refine sc ?_ ?_<;>(intro h;try first|exact h.elim|exact absurd rfl h|(exfalso;omega)))|((with_reducible first|apply zz|apply zx|apply zi);exact gd;exact rfl;exact rfl;(first|exact cB _))|(refine sg ?_ ?_<;>(intro h;(fail_if_success (have:True:=h));try first|exact h.elim|exact absurd rfl h|(exfalso;omega)))|assumption|exact xm|exact rfl))
  ·((with_reducible first|apply z8|apply z3);exact rx)
   rw [hB h1]
   exact ⟨rfl,rfl⟩
  ·exact ze 0 (by omega) ⟨2,rfl,by omega,rfl,.cons rfl (.cons rfl (.cons rfl (.cons rfl (.cons rfl .nil)))),rfl,fun _=>h1,fun _=>by omega⟩
 | 2,_ =>
  have h1:=h1 (by omega)
  have h2:=h2 (by omega)
  (repeat' (first|(with_reducible intro _)|refine sv ?_|(refine sc ?_ ?_<;>(intro h;try first|exact h.elim|exact absurd rfl h|(exfalso;omega)))|(refine sg ?_ ?_<;>(intro h;(fail_if_success (have:True:=h));try first|exact h.elim|exact absurd rfl h|(exfalso;omega)))|assumption|exact xm|exact rfl))
  ((with_reducible first|apply z8|apply z3);exact rx)
  rw [hB h1,h2]
  exact ⟨rfl,rfl⟩
theorem z0k (a1 a2 b1 b2:Int) (M:Mem):CallOk Tryz.prog 68 [.agg [I a1,I a2],.agg [I b1,I b2]] M (fun w M'=>w=I (cmpK (a1,a2) (b1,b2)) /\ Grow M M'):=by
 refine z9 k68 rfl ?_
 dsimp only [x68,zipE,Nat.reduceAdd]
 (repeat' (first|(with_reducible intro _)|refine sv ?_|(refine sc ?_ ?_<;>(intro h;try first|exact h.elim|exact absurd rfl h|(exfalso;omega)))|(refine sg ?_ ?_<;>(intro h;(fail_if_success (have:True:=h));try first|exact h.elim|exact absurd rfl h|(exfalso;omega)))|assumption|exact xm|exact rfl))
 rename_i m1 M1 hN1 q1 q2 m2 M2 hN2 q3 q4
 have h1:At M2 m1 (.cells true [I a1,I a2] 114):=xm
 have h2:At M2 m2 (.cells true [I b1,I b2] 114):=xm
 refine z4v (by exact gd) (z93 rfl h1) (fun m=>At m m1 (.cells true [I a1,I a2] 114)) (fun m hm=>z93 rfl hm) ?_
 refine z4v (by exact gd) (z93 rfl h2) (fun m=>At m m2 (.cells true [I b1,I b2] 114)) (fun m hm=>z93 rfl hm) ?_
 (repeat' (first|(with_reducible intro _)|refine sv ?_|(refine sc ?_ ?_<;>(intro h;try first|exact h.elim|exact absurd rfl h|(exfalso;omega)))|((with_reducible first|apply zz|apply zx|apply zi);exact gd;exact rfl;exact rfl;(first|exact zep h1 h2))|(refine sg ?_ ?_<;>(intro h;(fail_if_success (have:True:=h));try first|exact h.elim|exact absurd rfl h|(exfalso;omega)))|assumption|exact xm|exact rfl))
 ((with_reducible first|apply z8|apply z3);exact rx)
 exact ⟨rfl,xg⟩
set_option maxHeartbeats 8000000 in
theorem z36 {M:Mem} {v:LV} {r:Rl} (hv:RlV M v r) (hin:RlIn r):CallOk Tryz.prog 26 [v] M (fun w M'=>w=I (errRl r) /\ Grow M M'):=by
 obtain ⟨a,f,e,rfl,hs⟩:=hv
 refine z9 k26 rfl ?_
 dsimp only [x26,zipE,Nat.reduceAdd]
 have cn:=fun M=>zha r.1 hin.1 M
 cases hnm:nmB r.1 with
 | false =>
  have he:errRl r=81:=by unfold errRl rlB;rw [hnm];rfl
  rw [he]
  rw [hnm] at cn
  (repeat' (first|(with_reducible intro _)|refine sv ?_|(refine sc ?_ ?_<;>(intro h;try first|exact h.elim|exact absurd rfl h|(exfalso;omega)))|((with_reducible first|apply zz|apply zx|apply zi);exact gd;exact rfl;exact rfl;(first|exact cn _))|(refine sg ?_ ?_<;>(intro h;(fail_if_success (have:True:=h));try first|exact h.elim|exact absurd rfl h|(exfalso;omega)))|assumption|exact xm|exact rfl))
  ((with_reducible first|apply z8|apply z3);exact rx)
  exact ⟨rfl,xg⟩
 | true =>
 rw [hnm] at cn
 by_cases hl:¬ r.2.length<=128
 ·have he:errRl r=81:=by unfold errRl rlB;rw [decide_eq_false hl,Bool.and_false];rfl
  rw [he]
  have hl2:=hin.2.1
  (repeat' (first|(with_reducible intro _)|refine sv ?_|(refine sc ?_ ?_<;>(intro h;try first|exact h.elim|exact absurd rfl h|(exfalso;omega)))|((with_reducible first|apply zz|apply zx|apply zi);exact gd;exact rfl;exact rfl;(first|exact cn _))|(refine sg ?_ ?_<;>(intro h;(fail_if_success (have:True:=h));try first|exact h.elim|exact absurd rfl h|(exfalso;omega)))|assumption|exact xm|exact rfl))
  all_goals try (exfalso;omega)
  ((with_reducible first|apply z8|apply z3);exact rx)
  exact ⟨rfl,xg⟩
 have hl:r.2.length<=128:=by omega
 have hok9:rlK r.2 r.2.length=true->errRl r=0:=fun h=>by unfold errRl rlB;rw [hnm,decide_eq_true hl,h];rfl
 have hno9:=fun k (hk:k<=r.2.length) h=>zhn (r:=r) hk h
 have hfr:=fun k (hk:k < r.2.length)=>hin.fr hk
 generalize errRl r=ER at *
 generalize r.2=L at *
 generalize r.1=nm at *
 clear hnm
 (repeat' (first|(with_reducible intro _)|refine sv ?_|(refine sc ?_ ?_<;>(intro h;try first|exact h.elim|exact absurd rfl h|(exfalso;omega)))|((with_reducible first|apply zz|apply zx|apply zi);exact gd;exact rfl;exact rfl;(first|exact cn _))|(refine sg ?_ ?_<;>(intro h;(fail_if_success (have:True:=h));try first|exact h.elim|exact absurd rfl h|(exfalso;omega)))|assumption|exact xm|exact rfl))
 rename_i m1 M1 hN1 q1 q2
 have hA1:=At.new_same hN1
 have hg1:=hN1.grow
 have hs1:=hs.grow hg1
 clear hN1 h
 dsimp only [LV.cells] at hA1
 refine z7 (fun z E ms M'=>∃ k:Nat,z=L.length - k /\ k<=L.length /\ ms=[] /\ Has E [(1,.ptr (some (m1,0))),(16,.slice a L.length f e),(17,I L.length),(18,I k)] /\ Grow M1 M' /\ rlK L k=true)
  ?_ L.length _ _ _ ⟨0,by omega,by omega,rfl,.cons rfl (.cons rfl (.cons rfl (.cons rfl .nil))),Grow.refl _,rfl⟩
 rintro z E ms M2 ⟨k,rfl,hk,rfl,hE,hg2,hok⟩
 refine zt hE ?_
 have hA2:=At.grow hg2 hA1
 by_cases hlast:k=L.length
 ·subst hlast
  rw [hok9 hok]
  (repeat' (first|(with_reducible intro _)|refine sv ?_|(refine sc ?_ ?_<;>(intro h;try first|exact h.elim|exact absurd rfl h|(exfalso;omega)))|(refine sg ?_ ?_<;>(intro h;(fail_if_success (have:True:=h));try first|exact h.elim|exact absurd rfl h|(exfalso;omega)))|assumption|exact xm|exact rfl))
  ((with_reducible first|apply z8|apply z3);exact rx)
  exact ⟨rfl,hg1.trans hg2⟩
 have hlt:k < L.length:=by omega
 have hst:=ze8 L k
 rw [hok,Bool.true_and] at hst
 obtain ⟨i,o,b,g,u,rfl,hr,hfv⟩:=(hs1.grow hg2).rd hlt
 have hfi:=hfr k hlt
 have hno:=hno9 (k+1) (by omega)
 (have hrd0:=hr;repeat' (first|(with_reducible intro _)|refine sv ?_|(refine sc ?_ ?_<;>(intro h;try first|exact h.elim|exact absurd rfl h|(exfalso;omega)))|(refine sg ?_ ?_<;>(intro h;(fail_if_success (have:True:=h));try first|exact h.elim|exact absurd rfl h|(exfalso;omega)))|assumption|exact xm|exact rfl))
 rename_i m3 M3 hN3 q3 q4 M4 hU4 q5 hA4
 have hg4:Grow M2 M4:=xg
 have cc:=z9h (hfv.grow hg4) hfi
 have hA1b:At M4 m1 (.cells true [.str nm,.slice (some (i,o)) L.length f e] 24):=At.grow hg4 hA2
 have he80:frB (fe L k)=false->errF (fe L k)=80:=fun h=>by unfold errF;rw [h];rfl
 have he0:frB (fe L k)=true->errF (fe L k)=0:=fun h=>by unfold errF;rw [h];rfl
 cases hfb:frB (fe L k) with
 | false =>
  rw [hfb] at hst
  rw [he80 hfb] at cc
  rw [hno (by rw [hst];rfl)]
  have hgM:=hg1.trans (hg2.trans hg4)
  clear hN3 hU4
  (repeat' (first|(with_reducible intro _)|refine sv ?_|(refine sc ?_ ?_<;>(intro h;try first|exact h.elim|exact absurd rfl h|(exfalso;omega)))|((with_reducible first|apply zy|apply zw|apply zh);exact gd;exact rfl;exact rfl;(first|exact cc))|(refine sg ?_ ?_<;>(intro h;(fail_if_success (have:True:=h));try first|exact h.elim|exact absurd rfl h|(exfalso;omega)))|assumption|exact xm|exact rfl))
  ((with_reducible first|apply z8|apply z3);exact rx)
  exact ⟨rfl,xg⟩
 | true =>
 rw [hfb,Bool.true_and] at hst
 rw [he0 hfb] at cc
 by_cases h0:k=0
 ·subst h0
  clear hN3 hU4
  (repeat' (first|(with_reducible intro _)|refine sv ?_|(refine sc ?_ ?_<;>(intro h;try first|exact h.elim|exact absurd rfl h|(exfalso;omega)))|((with_reducible first|apply zy|apply zw|apply zh);exact gd;exact rfl;exact rfl;(first|exact cc))|(refine sg ?_ ?_<;>(intro h;(fail_if_success (have:True:=h));try first|exact h.elim|exact absurd rfl h|(exfalso;omega)))|assumption|exact xm|exact rfl))
  refine ze (L.length - (0+1)) (by omega) ⟨1,rfl,by omega,rfl,.cons rfl (.cons rfl (.cons rfl (.cons rfl .nil))),(hg2.trans hg4).trans (xg),by rw [hst];rfl⟩
 ·rw [decide_eq_false h0,Bool.false_or] at hst
  obtain ⟨i2,o2,b2,g2,u2,he2,hr2,hfv2⟩:=(hs1.grow hg2).rd (k:=k - 1) (by omega)
  obtain ⟨rfl,rfl⟩:i2=i /\ o2=o:=by injection he2 with q;injection q with q1 q2;exact ⟨q1.symm,q2.symm⟩
  have hkk:((k:Int) - 1).toNat=k - 1:=by omega
  have hge:=zk2 (zcs (i:=k - 1) hok (by omega)) hfb
  have ck1:=fun M' (hg:Grow M4 M')=>zb0 ((hfv2.grow hg4).grow hg)
  have ck2:=fun M' (hg:Grow M4 M')=>zb0 ((hfv.grow hg4).grow hg)
  have co:=fun M'=>z0k (fe L (k - 1)).1 (fe L (k - 1)).2.1 (fe L k).1 (fe L k).2.1 M'
  have hr4:=hr2.grow hg4
  rw [<-hkk] at hr4
  rw [hkk] at hr4
  have hr5:Rd M4 i2 (o2+((k:Int) - 1).toNat*3) 3 [I (fe L (k - 1)).1,I (fe L (k - 1)).2.1,.slice b2 (fe L (k - 1)).2.2.length g2 u2]:=by rw [hkk];exact hr4
  generalize hC:cmpK ((fe L (k - 1)).1,(fe L (k - 1)).2.1) ((fe L k).1,(fe L k).2.1)=C at *
  generalize decide (keyI (fe L (k - 1)) < keyI (fe L k))=B at *
  have hgM:=hg1.trans (hg2.trans hg4)
  have hg24:=hg2.trans hg4
  clear hN3 hU4 hg4 hr hr2 hr4 hfv hfv2 hrd0
  (have hrd0:=hr5;repeat' (first|(with_reducible intro _)|refine sv ?_|(refine sc ?_ ?_<;>(intro h;try first|exact h.elim|exact absurd rfl h|(exfalso;omega)))|((with_reducible first|apply zy|apply zw|apply zh);exact gd;exact rfl;exact rfl;(first|exact cc|exact ck1 _ (xg)|exact ck2 _ (xg)|exact co _))|(refine sg ?_ ?_<;>(intro h;(fail_if_success (have:True:=h));try first|exact h.elim|exact absurd rfl h|(exfalso;omega)))|assumption|exact xm|exact rfl))
  ·have hB:B=false:=by
    have h9:decide (C>=0)=true:=decide_eq_true h
    rw [h9] at hge
    cases B
    ·rfl
    ·cases hge
   rw [hno (by rw [hst,hB])]
   ((with_reducible first|apply z8|apply z3);exact rx)
   exact ⟨rfl,hgM.trans (xg)⟩
  ·have hB:B=true:=by
    have h9:decide (C>=0)=false:=decide_eq_false (by omega)
    rw [h9] at hge
    cases B
    ·cases hge
    ·rfl
   exact ze (L.length - (k+1)) (by omega) ⟨k+1,rfl,by omega,rfl,.cons rfl (.cons rfl (.cons rfl (.cons rfl .nil))),hg24.trans (xg),by rw [hst,hB]⟩
end Go.Proofs.YtbfnnllgdioccaaGreatDoor.C
end
