/-
 Part of the proof of TopVoyage. No condition beyond those in each theorem.
-/
import Derived.Test.YtpgalhbplcanhaaGreatDoorSD
import Derived.Test.YtpgalhbplcanhaaGreatDoorPvG
section
open Go PvL Go.Proofs
set_option linter.unusedSimpArgs false
set_option linter.unusedVariables false
namespace Go.Proofs.YtpgalhbplcanhaaGreatDoor.C
theorem zme{α:Type}{P:α->Prop}{l:List α}{k:Nat}(h:∀ j (hj:j < l.length),j < k->P l[j])(hk:l.length<=k):∀ x ∈ l,P x:=fun x hx=>by
 obtain⟨j,hj,rfl⟩:=List.getElem_of_mem hx
 exact h j hj (by omega)
abbrev bdv(b:Bd):LV:=.agg [I b.1,I b.2]
theorem zbc{α β:Type}{f:α->Option β}{l:List α}{k:Nat}(hk:k < l.length)(h:∀ j (hj:j < l.length),j < k->f l[j]=none){b:β}(hb:f l[k]=some b):l.findSome? f=some b :=
 z8l (List.getElem?_eq_getElem hk) (fun t ht=>by
  obtain⟨q,hq1,rfl⟩:=List.getElem_of_mem ht
  rw[List.length_take] at hq1
  rw[List.getElem_take]
  exact h q (by omega) (by omega)) hb
set_option maxHeartbeats 4000000 in
theorem zs6{A:CrA}{s:Cr}{pc pm:Nat}{k:Nat}{w t:Int}{M:Mem}(hC:ChM M A s pc pm)(hs:CrOk s)(hk:k < s.lines.length)(hw:w=0 ∨ w=1)(ht:0<=t /\ t<=1000000000) :
  ze Tryz.prog 112 [.ptr (some (pc,0)),shv k w,I t] M (fun v M'=>v=.tup [bdv ((shotF s k w t).getD (0,0)),.bool (shotF s k w t).isSome] /\ Keep (fun i=>i=pm) M M' /\ KnM M' s pm):=by
 have hway:=zl8 hs hk w
 have hsb:=z7r hs.speed hway.1 hway.2.1
 have hno:=hs.no
 have hk2:k < s.opn.length:=by omega
 have hcell:=hC.cells
 have hpc:=hcell.2
 have hkn0:=hC.known
 have hpm:pm < M.next:=by obtain⟨L,h1,_⟩:=hkn0;exact h1.2
 obtain⟨aL,fL,aF,fF,aB,fB,aO,fO,eF⟩:=A
 obtain⟨i2,o2,rfl,hr2⟩:=(show SlL 2 bdc M aO s.opn from hC.cr.opn).resolve_left (fun e=>by rw[e] at hk2;simp at hk2)
 obtain⟨aw,fw,g1,g2,g3⟩:=hr2 k hk2
 have hi2:=g1.2
 have hne:=hC.ne
 have hmM:=fun M' (hg:Grow M M')=>zs9 (hC.grow hg) hk hw
 unfold shotF
 rw[z00 hk2]
 generalize hq:wayF s k w=q at *
 refine zf k112 rfl ?_
 delta x112;refine un ?_
 repeat' first|with_reducible intro _|refine sv ?_|((with_reducible first|apply zj|apply zi|apply d_pure0);exact gd;exact rfl;exact rfl;(first|exact hmM _ (xg)))|refine ss ?_ ?_<;>(intro h;first|exact sz h|refine sy h ?_)|exact sq|fail
 rename_i n4 M1 hn4 e1 e2 n6 M2 hn6 e3 e4 M3 hg3 e5 n8 M4 hn8 e6 e7 M5 hu5 e8 a8
 have hg5:Grow M M5:=xg
 refine zz (by exact gd) rfl rfl (show AppOk Tryz.prog _ _ M5 _ from zir (a:=q.1) (b:=q.2) (hC.grow hg5)) ?_
 rintro v M6 ⟨rfl,hk6,hkn6⟩
 have hle6:=hk6.le
 cases hcl:clearF s q.1 q.2 with
 | false =>
  rw[if_neg (by decide)]
  repeat' first|with_reducible intro _|refine sv ?_|refine ss ?_ ?_<;>(intro h;first|exact sz h|refine sy h ?_)|exact sq|fail
  refine kf ?_
  exact⟨rfl,xk,by obtain⟨L,h1,h2⟩:=hkn6;exact⟨L,xm,h2⟩⟩
 | true =>
 rw[if_pos rfl]
 have hcell6:At M6 pc (.cells true (chc ⟨aL,fL,aF,fF,aB,fB,some (i2,o2),fO,eF⟩ s pm) 135):=(hcell.grow hg5).keep hk6 hne
 have r2:Rd1 M6 i2 (o2+k*1) (.slice aw s.opn[k].length fw 2):=(g1.grow hg5).keep hk6 (by
  intro hh
  obtain⟨L,h1,_⟩:=hkn0
  have h2:=g1.1
  unfold load1 atCells at h2
  rw[show i2=pm from hh,h1.1] at h2
  cases h2)
 have hst:=fun M' (hg:At M' pc (.cells true (chc ⟨aL,fL,aF,fF,aB,fB,some (i2,o2),fO,eF⟩ s pm) 135))=>ziw (A:=⟨aL,fL,aF,fF,aB,fB,some (i2,o2),fO,eF⟩) (s:=s) (pc:=pc) (pm:=pm) hg hs.speed hway.1 hway.2.1
 have hp6:=hcell6.2
 (have hrd0:=r2;repeat' (first|(with_reducible intro _)|refine sv ?_|((with_reducible first|apply zj|apply zi|apply d_pure0);exact gd;exact rfl;exact rfl;(first|exact hst _ (xm)))|refine ss ?_ ?_<;>(intro h;first|exact sz h|refine sy h ?_)|exact sq|fail))
 rename_i M7 hg7 e9
 refine zk (fun n E ms M'=>∃(j:Nat),n=s.opn[k].length - j /\ j<=s.opn[k].length /\ ms=[] /\ Has E [(2,I t),(6,.ptr (some (n6,0))),(9,I (stepsF s.speed q.1 q.2)),(32,.slice aw s.opn[k].length fw 2),(33,I s.opn[k].length),(34,I j)] /\ Grow M7 M' /\ At M' n6 (.cells true [I 0,I 0] 26) /\
   ∀ i (hi:i < s.opn[k].length),i < j->winO t (stepsF s.speed q.1 q.2) (s.opn[k])[i]=none) ?_ s.opn[k].length _ _ _
  ⟨0,by omega,by omega,rfl,.cons rfl (.cons rfl (.cons rfl (.cons rfl (.cons rfl (.cons rfl .nil))))),xg,xm,fun j hj h=>absurd h (Nat.not_lt_zero _)⟩
 rintro n E ms M8 ⟨j,rfl,hj,rfl,hE,hG,a6,hall⟩
 have hle8:=hG.le
 have ha6:=a6.2
 refine z1h hE ?_
 by_cases hlast:j=s.opn[k].length
 ·subst hlast
  have hnone:(s.opn[k]).findSome? (winO t (stepsF s.speed q.1 q.2))=none:=z2e fun b hb=>zme (P:=fun b=>winO t (stepsF s.speed q.1 q.2) b=none) (fun i hi h=>hall i hi h) (Nat.le_refl _) b hb
  rw[hnone]
  repeat' first|with_reducible intro _|refine sv ?_|refine ss ?_ ?_<;>(intro h;first|exact sz h|refine sy h ?_)|exact sq|fail
  refine kf ?_
  exact⟨rfl,xk,by obtain⟨L,h1,h2⟩:=hkn6;have:=h1.2;exact⟨L,xm,h2⟩⟩
 have hlt:j < s.opn[k].length:=by omega
 obtain⟨i3,o3,rfl,hr3⟩:=g2.resolve_left (fun e=>by rw[e] at hlt;simp at hlt)
 have hi3:=(hr3 j hlt).2
 have r3:Rd M8 i3 (o3+j*2) 2 (bdc (s.opn[k])[j]):=(((hr3 j hlt).grow hg5).keep hk6 (by
  intro hh
  obtain⟨L,h1,_⟩:=hkn0
  have h2:=(hr3 j hlt).1
  unfold loadN atCells at h2
  rw[show i3=pm from hh,h1.1] at h2
  cases h2)).grow (xg)
 have hwin:=(z9e.1 (hs.opn _ (List.getElem_mem hk2))).2 j hlt
 unfold winAt at hwin
 rw[z00 hlt] at hwin
 have hmx:0<=iMax t (s.opn[k])[j].1 /\ iMax t (s.opn[k])[j].1<=1000000000:=by unfold iMax;omega
 by_cases hh:iMax t (s.opn[k])[j].1+stepsF s.speed q.1 q.2<=(s.opn[k])[j].2
 ·rw[zbc hlt hall (if_pos hh)]
  (have hrd0:=r3;repeat' (first|(with_reducible intro _)|refine sv ?_|refine ss ?_ ?_<;>(intro h;first|exact sz h|refine sy h ?_)|exact sq|fail))
  refine kf ?_
  exact⟨rfl,xk,by obtain⟨L,h1,h2⟩:=hkn6;have:=h1.2;exact⟨L,xm,h2⟩⟩
 ·(have hrd0:=r3;repeat' (first|(with_reducible intro _)|refine sv ?_|refine ss ?_ ?_<;>(intro h;first|exact sz h|refine sy h ?_)|exact sq|fail))
  refine z0d (s.opn[k].length - (j+1)) (by omega) ⟨j+1,rfl,by omega,rfl,.cons rfl (.cons rfl (.cons rfl (.cons rfl (.cons rfl (.cons rfl .nil))))),xg,xm,fun i hi h=>?_⟩
  by_cases hij:i=j
  ·subst hij;exact if_neg hh
  ·exact hall i hi (by omega)
end Go.Proofs.YtpgalhbplcanhaaGreatDoor.C
end
section
open PvL
set_option linter.unusedSimpArgs false
set_option linter.unusedVariables false
namespace Go.Proofs.YtpgalhbplcanhaaGreatDoor.C
abbrev Pose:=Pt × Int
abbrev Psg:=List Pt × Int
def trnF(a b:Int):Int:=iMin ((b - a+8) % 8) (8 - (b - a+8) % 8)
theorem zbr(a b:Int):0<=trnF a b /\ trnF a b<=4:=by unfold trnF iMin;omega
def octW(a b:Pt):Int:=octF (b.1 - a.1) (b.2 - a.2)
theorem zeq(x y:Int):0<=octF x y /\ octF x y<=7:=by unfold octF;(repeat' split)<;>omega
noncomputable def costL(s:Cr)(to:Int):Pt->Int->List Pt->Option Int
 | _,o,[]=>some (s.turn*trnF o to)
 | p,o,q :: l=>if p ≠ q /\ clearF s p q=true then(costL s to q (octW p q) l).map (fun n=>stepsF s.speed p q+s.turn*trnF o (octW p q)+n) else none
noncomputable def costP(s:Cr)(l:List Pt)(from_ to:Int):Option Int:=match l with | []=>some (s.turn*trnF from_ to)|p :: l=>costL s to p from_ l
noncomputable def offerL(s:Cr)(a b:Pose)(l:List Pt):List Psg:=match costP s l a.2 b.2 with|some n=>[(l,n)]|none=>[]
noncomputable def nextL(s:Cr)(a b:Pose):Nat->List Pt->Nat->List Psg
 | 0,l,_=>offerL s a b (l ++ [b.1])
 | d+1,l,used=>offerL s a b (l ++ [b.1]) ++(List.range s.buoys.length).flatMap fun i=>if used.testBit i then [] else nextL s a b d (l ++ [s.buoys.getD i (0,0)]) (used ||| 2 ^ i)
noncomputable def passL(s:Cr)(a b:Pose):List Psg:=(if a.1=b.1 then offerL s a b [a.1] else []) ++ nextL s a b s.buoys.length [a.1] 0
def befF(a b:Pt):Int:=if a.1 ≠ b.1 then a.1 - b.1 else a.2 - b.2
def cmpL:List Pt->List Pt->Int
 | [],[]=>0
 | [],_ :: _=>-1
 | _ :: _,[]=>1
 | a :: us,b :: vs=>if befF a b ≠ 0 then befF a b else cmpL us vs
def lessP(x y:Psg):Bool:=if x.2 ≠ y.2 then decide (x.2 < y.2) else if x.1.length ≠ y.1.length then decide (x.1.length < y.1.length) else decide (cmpL x.1 y.1 < 0)
def addB(o:Option Psg)(x:Psg):Option Psg:=match o with|none=>some x|some y=>if lessP x y then some x else some y
noncomputable def bestF(s:Cr)(a b:Pose):Option Psg:=(passL s a b).foldl addB none
theorem zb6{s:Cr}(hs:CrOk s)(to:Int):∀(l:List Pt) (p:Pt) (o n:Int),PlP p->(∀ q ∈ l,PlP q)->costL s to p o l=some n->0<=n /\ n<=4000+l.length*96682
 | [],p,o,n,hp,hl,h=>by
  cases h
  have h1:=zbr o to
  have h2:=hs.turn
  have h3:=z37 (a:=s.turn) (b:=trnF o to) (A:=1000) (B:=4) (by omega) (by omega)
  have h4:0<=s.turn*trnF o to:=Int.mul_nonneg (by omega) (by omega)
  simp only[List.length_nil];omega
 | q :: l,p,o,n,hp,hl,h=>by
  unfold costL at h
  split at h
  ·obtain⟨m,h1,rfl⟩:=Option.map_eq_some_iff.1 h
   have hq:=hl q (List.mem_cons_self ..)
   have h2:=zb6 hs to l q _ m hq (fun x hx=>hl x (List.mem_cons_of_mem _ hx)) h1
   have h3:=z7r hs.speed hp hq
   have h4:=zbr o (octW p q)
   have h5:=hs.turn
   have h6:=z37 (a:=s.turn) (b:=trnF o (octW p q)) (A:=1000) (B:=4) (by omega) (by omega)
   have h7:0<=s.turn*trnF o (octW p q):=Int.mul_nonneg (by omega) (by omega)
   rw[List.length_cons]
   omega
  ·cases h
theorem zm3{s:Cr}(hs:CrOk s){l:List Pt}{o to n:Int}(hl:∀ q ∈ l,PlP q)(h:costP s l o to=some n):0<=n /\ n<=4000+l.length*96682:=by
 cases l with
 | nil =>
  have:=zb6 hs to [] (0,0) o n (by dsimp only[PlP,Pl];omega) hl h
  exact this
 | cons p l =>
  have:=zb6 hs to l p o n (hl p (List.mem_cons_self ..)) (fun x hx=>hl x (List.mem_cons_of_mem _ hx)) h
  rw[List.length_cons];omega
theorem zom{o:Option Psg}{x:Psg}:∃ y,addB o x=some y /\ y.2<=x.2 /\ (∀ z,o=some z->y.2<=z.2) /\ (y=x ∨ o=some y):=by
 unfold addB
 cases o with
 | none=>exact⟨x,rfl,Int.le_refl _,fun z hz=>(by cases hz),.inl rfl⟩
 | some z =>
  dsimp only
  cases hl:lessP x z with
  | true =>
   refine⟨x,if_pos rfl,Int.le_refl _,fun w hw=>?_,.inl rfl⟩
   cases hw
   unfold lessP at hl
   split at hl
   ·have:=of_decide_eq_true hl;omega
   ·omega
  | false =>
   refine⟨z,if_neg (by decide),?_,fun w hw=>by cases hw;exact Int.le_refl _,.inr rfl⟩
   unfold lessP at hl
   split at hl
   ·have:=of_decide_eq_false hl;omega
   ·omega
theorem foldB:∀(l:List Psg) (o:Option Psg),(l.foldl addB o=none ↔ o=none /\ l=[]) /\ ∀ y,l.foldl addB o=some y->(∀ x ∈ l,y.2<=x.2) /\ (∀ z,o=some z->y.2<=z.2) /\ (y ∈ l ∨ o=some y)
 | [],o=>⟨⟨fun h=>⟨h,rfl⟩,fun h=>h.1⟩,fun y h=>⟨fun x hx=>(by cases hx),fun z hz=>by rw[show o=some y from h] at hz;cases hz;exact Int.le_refl _,.inr h⟩⟩
 | x :: l,o=>by
  obtain⟨w,h1,h2,h3,h4⟩:=zom (o:=o) (x:=x)
  obtain⟨g1,g2⟩:=foldB l (some w)
  rw[List.foldl_cons,h1]
  refine⟨⟨fun h=>(by have:=(g1.1 h).1;cases this),fun h=>(by cases h.2)⟩,fun y h=>?_⟩
  obtain⟨k1,k2,k3⟩:=g2 y h
  have hw:=k2 w rfl
  refine⟨fun z hz=>?_,fun z hz=>Int.le_trans hw (h3 z hz),?_⟩
  ·rcases List.mem_cons.1 hz with rfl|hz
   ·exact Int.le_trans hw h2
   ·exact k1 z hz
  ·rcases k3 with k3|k3
   ·exact .inl (List.mem_cons_of_mem _ k3)
   ·cases k3
    rcases h4 with rfl|h4
    ·exact .inl (List.mem_cons_self ..)
    ·exact .inr h4
theorem zc5{s:Cr}{a b:Pose}{y:Psg}(h:bestF s a b=some y):y ∈ passL s a b /\ ∀ x ∈ passL s a b,y.2<=x.2:=by
 obtain⟨h1,_,h3⟩:=(foldB _ _).2 y h
 exact⟨h3.resolve_right (by intro e;cases e),h1⟩
theorem z8w{s:Cr}{a b:Pose}{l:List Pt}{x:Psg}:x ∈ offerL s a b l ↔ x.1=l /\ costP s l a.2 b.2=some x.2:=by
 unfold offerL
 cases costP s l a.2 b.2 with
 | none=>simp
 | some n =>
  rw[List.mem_singleton]
  constructor
  ·rintro rfl;exact⟨rfl,rfl⟩
  ·rintro⟨h1,h2⟩;cases h2;exact Prod.ext h1 rfl
theorem zg8{s:Cr}{a b:Pose}:∀(d:Nat) (l:List Pt) (used:Nat) (x:Psg),x ∈ nextL s a b d l used->∃ m:List Pt,x.1=l ++ m ++ [b.1] /\ m.length<=d /\ (∀ p ∈ m,p ∈ s.buoys) /\ costP s x.1 a.2 b.2=some x.2
 | 0,l,used,x,h=>by
  obtain⟨h1,h2⟩:=z8w.1 h
  exact⟨[],by rw[h1,List.append_nil],Nat.le_refl _,fun p hp=>(by cases hp),by rw[h1];exact h2⟩
 | d+1,l,used,x,h=>by
  unfold nextL at h
  rcases List.mem_append.1 h with h|h
  ·obtain⟨h1,h2⟩:=z8w.1 h
   exact⟨[],by rw[h1,List.append_nil],Nat.zero_le _,fun p hp=>(by cases hp),by rw[h1];exact h2⟩
  ·obtain⟨i,hi,h⟩:=List.mem_flatMap.1 h
   have hi:=List.mem_range.1 hi
   split at h
   ·cases h
   ·obtain⟨m,h1,h2,h3,h4⟩:=zg8 d _ _ x h
    refine⟨s.buoys.getD i (0,0) :: m,by rw[h1];simp[List.append_assoc],by rw[List.length_cons];omega,fun p hp=>?_,h4⟩
    rcases List.mem_cons.1 hp with rfl|hp
    ·rw[z00 hi];exact List.getElem_mem hi
    ·exact h3 p hp
theorem zmk{s:Cr}{a b:Pose}{x:Psg}(h:x ∈ passL s a b):costP s x.1 a.2 b.2=some x.2 /\ x.1.head?=some a.1 /\ x.1.getLast?=some b.1 /\ x.1.length<=s.buoys.length+2 /\ ∀ p ∈ x.1,p=a.1 ∨ p=b.1 ∨ p ∈ s.buoys:=by
 unfold passL at h
 rcases List.mem_append.1 h with h|h
 ·split at h
  ·rename_i e
   obtain⟨h1,h2⟩:=z8w.1 h
   rw[h1]
   exact⟨h2,rfl,by rw[<-e];rfl,by simp,fun p hp=>.inl (List.mem_singleton.1 hp)⟩
  ·cases h
 ·obtain⟨m,h1,h2,h3,h4⟩:=zg8 _ _ _ _ h
  refine⟨h4,?_,?_,?_,?_⟩
  ·rw[h1];rfl
  ·rw[h1];exact List.getLast?_concat
  ·rw[h1];simp;omega
  ·intro p hp
   rw[h1] at hp
   rcases List.mem_append.1 hp with hp|hp
   ·rcases List.mem_append.1 hp with hp|hp
    ·exact .inl (List.mem_singleton.1 hp)
    ·exact .inr (.inr (h3 p hp))
   ·exact .inr (.inl (List.mem_singleton.1 hp))
theorem zeu{s:Cr}(hs:CrOk s){a b:Pose}(ha:PlP a.1)(hb:PlP b.1){x:Psg}(h:x ∈ passL s a b):(∀ p ∈ x.1,PlP p) /\ 0<=x.2 /\ x.2<=600000 /\ x.1.length<=6:=by
 obtain⟨h1,_,_,h4,h5⟩:=zmk h
 have hp:∀ p ∈ x.1,PlP p:=fun p hp=>by
  rcases h5 p hp with rfl|rfl|h
  ·exact ha
  ·exact hb
  ·exact hs.buoys p h
 have h6:=zm3 hs hp h1
 have h7:=hs.nb
 refine⟨hp,h6.1,?_,by omega⟩
 have:(x.1.length:Int)*96682<=6*96682:=Int.mul_le_mul_of_nonneg_right (by omega) (by omega)
 omega
theorem z7n:∀(n:Nat) (l:List Nat),l.Nodup->(∀ k ∈ l,k < n)->l.length<=n
 | 0,l,_,h=>by
  cases l with
  | nil=>exact Nat.le_refl _
  | cons a l=>exact absurd (h a (List.mem_cons_self ..)) (Nat.not_lt_zero _)
 | n+1,l,hn,h=>by
  have h1:=z7n n (l.erase n) (hn.erase n) (fun k hk=>by
   have h2:=h k (List.mem_of_mem_erase hk)
   have h3:k ≠ n:=fun e=>by subst e;exact(List.Nodup.mem_erase_iff hn).1 hk |>.1 rfl
   omega)
  rw[List.length_erase] at h1
  split at h1<;>omega
structure Ks (s:Cr) (used d:Nat) (ks:List Nat):Prop where
 nd:ks.Nodup
 lt:∀ k ∈ ks,k < s.buoys.length
 un:∀ k ∈ ks,used.testBit k=false
 le:ks.length<=d
theorem z5d{u k j:Nat}:(u ||| 2 ^ k).testBit j=(u.testBit j || decide (k=j)):=by
 rw[Nat.testBit_or,Nat.testBit_two_pow]
end Go.Proofs.YtpgalhbplcanhaaGreatDoor.C
end
section
open Go PvL Go.Proofs
set_option linter.unusedSimpArgs false
set_option linter.unusedVariables false
namespace Go.Proofs.YtpgalhbplcanhaaGreatDoor.C
theorem ztf:∃ e,Tryz.prog.underlying 24=some (.slice e):=⟨30,by kernel_rfl⟩
instance:IsSl Tryz.prog 24:=⟨ztf⟩
theorem z33{i o len:Nat}{f:Bool}{e:Nat}{l:List Pt}{M:Mem}(h:∀ k (hk:k < l.length),Rd M i (o+k*2) 2 (ptc l[k]))(hlen:len=l.length)(h0:0 < l.length):z08 2 l.length (.slice (some (i,o)) len f e) M=some (l.flatMap ptc):=by
 subst hlen
 exact z5t (enc:=ptc) (fun x _=>rfl) h
abbrev slp(n:Nat)(p:Nat):LV:=.slice (some (p,0)) n false 2
theorem zmb(l:List Pt):zm (l.flatMap ptc)=true:=z1e (fun x _=>rfl)
theorem z6h{i o:Nat}{f:Bool}{e:Nat}{l:List Pt}{M:Mem}(hrd:∀ k (hk:k < l.length),Rd M i (o+k*2) 2 (ptc l[k]))(h0:0 < l.length)(hlen:l.length<=1000000) :
  ze Tryz.prog 211 [.slice (some (i,o)) l.length f e] M (MkAt (slp l.length) (.cells true (l.flatMap ptc) (apE 30)) M):=by
 refine zf k211 rfl ?_
 delta x211;refine un ?_
 repeat' first|with_reducible intro _|refine sv ?_|refine ss ?_ ?_<;>(intro h;first|exact sz h|refine sy h ?_)|exact sq|fail
 rename_i n5 M1 hn5 e1 e2
 have hw:z08 2 l.length (.slice (some (i,o)) l.length f e) M1=some (l.flatMap ptc):=z33 (fun k hk=>Rd.new_old hn5 (hrd k hk)) rfl h0
 refine zdl (by exact gd) (old:=[]) rfl rfl rfl h0 (by omega) rfl rfl hw (zmb l) (.inr rfl) ?_
 intro n6 M2 hn6 e3 e4
 repeat' first|with_reducible intro _|refine sv ?_|refine ss ?_ ?_<;>(intro h;first|exact sz h|refine sy h ?_)|exact sq|fail
 refine kf ?_
 exact⟨n6,by rw[Nat.zero_add];rfl,At.new_same hn6,by omega,by omega,xg⟩
theorem zlt(a b:Pt)(ha:PlP a)(hb:PlP b)(M:Mem):ze Tryz.prog 214 [ptv a,ptv b] M (fun w M'=>w=I (befF a b) /\ Grow M M'):=by
 dsimp only[PlP,Pl] at ha hb
 unfold befF
 refine zf k214 rfl ?_
 delta x214;refine un ?_
 repeat' first|with_reducible intro _|refine sv ?_|refine ss ?_ ?_<;>(intro h;first|exact sz h|refine sy h ?_)|exact sq|fail
 all_goals (refine kf ?_)
 all_goals refine⟨?_,xg⟩
 ·rw[if_pos (by assumption)];rfl
 ·rw[if_neg (by omega)];rfl
theorem zcj{us vs:List Pt}:∀ k,k<=us.length->k<=vs.length->(∀ j (h1:j < us.length) (h2:j < vs.length),j < k->befF us[j] vs[j]=0)->cmpL us vs=cmpL (us.drop k) (vs.drop k)
 | 0,_,_,_=>rfl
 | k+1,h1,h2,h=>by
  rw[zcj k (by omega) (by omega) (fun j a b c=>h j a b (by omega))]
  rw[List.drop_eq_getElem_cons (by omega:k < us.length),List.drop_eq_getElem_cons (by omega:k < vs.length)]
  show(if befF us[k] vs[k] ≠ 0 then befF us[k] vs[k] else cmpL (us.drop (k+1)) (vs.drop (k+1)))=_
  rw[if_neg (by rw[h k (by omega) (by omega) (by omega)];simp)]
set_option maxHeartbeats 2000000 in
theorem zat{aa ab:Option (Nat × Nat)}{fa fb:Bool}{us vs:List Pt}{M:Mem}(ha:SlA 2 ptc M aa us)(hb:SlA 2 ptc M ab vs)(hpa:∀ p ∈ us,PlP p)(hpb:∀ p ∈ vs,PlP p)(hla:us.length<=1000000)(hlb:vs.length<=1000000) :
  ze Tryz.prog 213 [.slice aa us.length fa 2,.slice ab vs.length fb 2,.func (.func 214) [] []] M (fun w M'=>w=I (cmpL us vs) /\ Grow M M'):=by
 refine zf k213 rfl ?_
 delta x213;refine un ?_
 repeat' first|with_reducible intro _|refine sv ?_|refine ss ?_ ?_<;>(intro h;first|exact sz h|refine sy h ?_)|exact sq|fail
 refine zk (fun n E ms M'=>∃ k:Nat,n=us.length - k /\ k<=us.length /\ k<=vs.length /\ ms=[] /\ Has E [(0,.slice aa us.length fa 2),(1,.slice ab vs.length fb 2),(2,.func (.func 214) [] []),(11,.slice aa us.length fa 2),(12,I us.length),(13,I k)] /\ Grow M M' /\
   ∀ j (h1:j < us.length) (h2:j < vs.length),j < k->befF us[j] vs[j]=0) ?_ us.length _ _ _
  ⟨0,by omega,by omega,by omega,rfl,.cons rfl (.cons rfl (.cons rfl (.cons rfl (.cons rfl (.cons rfl .nil))))),xg,fun j _ _ h=>absurd h (Nat.not_lt_zero _)⟩
 rintro n E ms M1 ⟨k,rfl,hk,hkb,rfl,hE,hg,hall⟩
 have hle:=hg.le
 refine z1h hE ?_
 have hd:=zcj k hk hkb hall
 by_cases hlast:k=us.length
 ·subst hlast
  rw[List.drop_length] at hd
  repeat' first|with_reducible intro _|refine sv ?_|refine ss ?_ ?_<;>(intro h;first|exact sz h|refine sy h ?_)|exact sq|fail
  all_goals (refine kf ?_)
  all_goals refine⟨?_,xg⟩
  ·rw[hd,List.drop_eq_getElem_cons (by omega)];rfl
  ·rw[hd,List.drop_eq_nil_of_le (by omega)];rfl
 have hlt:k < us.length:=by omega
 obtain⟨i,o,rfl,hr⟩:=ha.resolve_left (fun h=>by subst h;simp at hlt)
 have r1:=(hr k hlt).grow hg
 by_cases hlb2:k < vs.length
 rotate_left
 ·(have hrd0:=r1;repeat' (first|(with_reducible intro _)|refine sv ?_|refine ss ?_ ?_<;>(intro h;first|exact sz h|refine sy h ?_)|exact sq|fail))
  all_goals (refine kf ?_)
  refine⟨?_,xg⟩
  have hv:vs.drop k=[]:=List.drop_eq_nil_of_le (by omega)
  rw[hd,hv,List.drop_eq_getElem_cons hlt];rfl
 obtain⟨i2,o2,rfl,hr2⟩:=hb.resolve_left (fun h=>by subst h;simp at hlb2)
 have r2:=(hr2 k hlb2).grow hg
 have p1:=hpa _ (List.getElem_mem hlt)
 have p2:=hpb _ (List.getElem_mem hlb2)
 have h1:=r1.2
 have h2:=r2.2
 have cb:=zlt us[k] vs[k] p1 p2
 (have hrd0:=r1;have hrd1:=r2;repeat' (first|(with_reducible intro _)|refine sv ?_|((with_reducible first|apply zj|apply zi|apply d_pure0);exact gd;exact rfl;exact rfl;(first|exact cb _))|refine ss ?_ ?_<;>(intro h;first|exact sz h|refine sy h ?_)|exact sq|fail))
 ·refine kf ?_
  refine⟨?_,xg⟩
  rw[hd,List.drop_eq_getElem_cons hlt,List.drop_eq_getElem_cons hlb2]
  show _=I (if befF us[k] vs[k] ≠ 0 then befF us[k] vs[k] else _)
  rw[if_pos (by assumption)];rfl
 ·refine z0d (us.length - (k+1)) (by omega) ⟨k+1,rfl,by omega,by omega,rfl,.cons rfl (.cons rfl (.cons rfl (.cons rfl (.cons rfl (.cons rfl .nil))))),xg,fun j j1 j2 hj=>?_⟩
  by_cases hjk:j=k
  ·subst hjk;assumption
  ·exact hall j j1 j2 (by omega)
theorem zrw{aa ab:Option (Nat × Nat)}{fa fb:Bool}{x y:Psg}{M:Mem}(ha:SlA 2 ptc M aa x.1)(hb:SlA 2 ptc M ab y.1)(hpa:∀ p ∈ x.1,PlP p)(hpb:∀ p ∈ y.1,PlP p)(hla:x.1.length<=1000000)(hlb:y.1.length<=1000000) :
  ze Tryz.prog 168 [.agg [.slice aa x.1.length fa 2,I x.2],.agg [.slice ab y.1.length fb 2,I y.2]] M (fun w M'=>w=.bool (lessP x y) /\ Grow M M'):=by
 have hc:=fun M' (hg:Grow M M')=>zat (fa:=fa) (fb:=fb) (ha.grow hg) (hb.grow hg) hpa hpb hla hlb
 unfold lessP
 refine zf k168 rfl ?_
 delta x168;refine un ?_
 repeat' first|with_reducible intro _|refine sv ?_|((with_reducible first|apply zj|apply zi|apply d_pure0);exact gd;exact rfl;exact rfl;(first|exact hc _ (xg)))|refine ss ?_ ?_<;>(intro h;first|exact sz h|refine sy h ?_)|exact sq|fail
 all_goals (refine kf ?_)
 all_goals refine⟨?_,xg⟩
 ·rw[if_pos (by assumption)];rfl
 ·rw[if_neg (by omega),if_pos (by omega)]
  exact congrArg LV.bool (by first|rfl|(rw[Bool.eq_iff_iff];simp))
 ·rw[if_neg (by omega),if_neg (by omega)];rfl
theorem zfs(a b:Int)(ha:0<=a /\ a<=7)(hb:0<=b /\ b<=7)(M:Mem):ze Tryz.prog 265 [I a,I b] M (fun w M'=>w=I (trnF a b) /\ M'=M):=by
 refine zf k265 rfl ?_
 delta x265;refine un ?_
 repeat' first|with_reducible intro _|refine sv ?_|refine ss ?_ ?_<;>(intro h;first|exact sz h|refine sy h ?_)|exact sq|fail
 all_goals (refine kf ?_)
 all_goals exact⟨rfl,rfl⟩
theorem ChM.keep{M M':Mem}{A:CrA}{s:Cr}{pc pm:Nat}(h:ChM M A s pc pm){F:Nat->Prop}(hk:Keep F M M')(hkn:KnM M' s pm)(hcr:CrM M' A s)(hpc:¬ F pc):ChM M' A s pc pm:=⟨hcr,h.cells.keep hk hpc,h.ne,hkn⟩
theorem KnM.ne_rd{M:Mem}{s:Cr}{pm i o n:Nat}{l:List LV}(h:KnM M s pm)(hr:Rd M i o n l):i ≠ pm:=by
 rintro rfl
 obtain⟨L,h1,_⟩:=h
 have h2:=hr.1
 unfold loadN atCells at h2
 rw[h1.1] at h2
 cases h2
theorem KnM.ne_rd1{M:Mem}{s:Cr}{pm i o:Nat}{v:LV}(h:KnM M s pm)(hr:Rd1 M i o v):i ≠ pm:=by
 rintro rfl
 obtain⟨L,h1,_⟩:=h
 have h2:=hr.1
 unfold load1 atCells at h2
 rw[h1.1] at h2
 cases h2
theorem KnM.at{M:Mem}{s:Cr}{pm:Nat}(h:KnM M s pm){M':Mem}(h1:M.next<=M'.next)(h2:M'.get pm=M.get pm):KnM M' s pm:=by
 obtain⟨L,h3,h4⟩:=h
 exact⟨L,h3.same h1 h2,h4⟩
theorem KnM.lt{M:Mem}{s:Cr}{pm:Nat}(h:KnM M s pm):pm < M.next:=by obtain⟨L,h1,_⟩:=h;exact h1.2
theorem SlA.keepN{α:Type}{sz:Nat}{enc:α->List LV}{M M':Mem}{a:Option (Nat × Nat)}{l:List α}{F:Nat->Prop}(h:SlA sz enc M a l)(hk:Keep F M M')(hF:∀ i o n x,Rd M i o n x->¬ F i):SlA sz enc M' a l :=
 h.imp id fun⟨i,o,h1,h2⟩=>⟨i,o,h1,fun k hk'=>(h2 k hk').keep hk (hF _ _ _ _ (h2 k hk'))⟩
theorem SlL.keepN{α:Type}{sz:Nat}{enc:α->List LV}{M M':Mem}{a:Option (Nat × Nat)}{ll:List (List α)}{F:Nat->Prop}(h:SlL sz enc M a ll)(hk:Keep F M M')(hF:∀ i o n x,Rd M i o n x->¬ F i)(hF1:∀ i o x,Rd1 M i o x->¬ F i):SlL sz enc M' a ll :=
 h.imp id fun⟨i,o,h1,h2⟩=>⟨i,o,h1,fun k hk'=>by
  obtain⟨aw,fw,g1,g2,g3⟩:=h2 k hk'
  exact⟨aw,fw,g1.keep hk (hF1 _ _ _ g1),g2.keepN hk hF,g3⟩⟩
theorem CrM.keepN{M M':Mem}{A:CrA}{s:Cr}(h:CrM M A s){F:Nat->Prop}(hk:Keep F M M')(hF:∀ i o n x,Rd M i o n x->¬ F i)(hF1:∀ i o x,Rd1 M i o x->¬ F i):CrM M' A s :=
 ⟨h.lines.keepN hk hF,h.fields.keepN hk hF hF1,h.buoys.keepN hk hF,h.opn.keepN hk hF hF1,h.nl,h.nf,h.nb,h.no⟩
theorem ChM.keepm{M M':Mem}{A:CrA}{s:Cr}{pc pm:Nat}(h:ChM M A s pc pm)(hk:Keep (fun i=>i=pm) M M')(hkn:KnM M' s pm):ChM M' A s pc pm :=
 h.keep hk hkn (h.cr.keepN hk (fun i o n x hr=>h.known.ne_rd hr) (fun i o x hr=>h.known.ne_rd1 hr)) h.ne
theorem zj2{s:Cr}{l:List Pt}{o to:Int}(h0:0 < l.length):costP s l o to=costL s to l[0] o (l.drop 1):=by
 cases l with
 | nil=>simp at h0
 | cons p l=>rfl
set_option maxHeartbeats 8000000 in
theorem zrp{A:CrA}{s:Cr}{pc pm:Nat}{i off:Nat}{f:Bool}{l:List Pt}{o to:Int}{M:Mem}(hC:ChM M A s pc pm)(hs:CrOk s)(hl:∀ k (hk:k < l.length),Rd M i (off+k*2) 2 (ptc l[k]))(h0:0 < l.length)(hlen:l.length<=100)
  (hpl:∀ p ∈ l,PlP p) (ho:0<=o /\ o<=7) (hto:0<=to /\ to<=7) :
  ze Tryz.prog 210 [.ptr (some (pc,0)),.slice (some (i,off)) l.length f 2,I o,I to] M (fun v M'=>v=.tup [I ((costP s l o to).getD 0),.bool (costP s l o to).isSome] /\ Keep (fun i=>i=pm) M M' /\ KnM M' s pm):=by
 have hnei:i ≠ pm:=hC.known.ne_rd (hl 0 h0)
 have hne:=hC.ne
 have htn:=hs.turn
 refine zf k210 rfl ?_
 delta x210;refine un ?_
 repeat' first|with_reducible intro _|refine sv ?_|refine ss ?_ ?_<;>(intro h;first|exact sz h|refine sy h ?_)|exact sq|fail
 refine zk (fun n E ms M'=>∃(k:Nat) (c o1:Int),n=l.length - k /\ 1<=k /\ ∃ hk:k<=l.length,ms=[] /\ Has E [(0,.ptr (some (pc,0))),(1,.slice (some (i,off)) l.length f 2),(2,I o1),(3,I to),(10,I c),(11,I k)] /\ Keep (fun i=>i=pm) M M' /\ KnM M' s pm /\
   (0<=c /\ c<=k*100000) /\ (0<=o1 /\ o1<=7) /\ costP s l o to=(costL s to (l[k - 1]'(by omega)) o1 (l.drop k)).map (fun n=>c+n)) ?_ (l.length - 1) _ _ _
  ⟨1,0,o,by omega,by omega,by omega,rfl,.cons rfl (.cons rfl (.cons rfl (.cons rfl (.cons rfl (.cons rfl .nil))))),Keep.refl _ _,hC.known,by omega,ho,by rw[zj2 h0];simp⟩
 rintro n E ms M1 ⟨k,c,o1,rfl,hk1,hk,rfl,hE,hK,hkn,hc,ho1,hcost⟩
 have hC1:ChM M1 A s pc pm:=hC.keepm hK hkn
 have hl1:∀ k (hk:k < l.length),Rd M1 i (off+k*2) 2 (ptc l[k]):=fun k hk=>(hl k hk).keep hK hnei
 have hpc:=hC1.cells.2
 have hpm:=hkn.lt
 have hle:=hK.le
 obtain⟨aL,fL,aF,fF,aB,fB,aO,fO,eF⟩:=A
 have hcell:=hC1.cells
 refine z1h hE ?_
 by_cases hlast:k=l.length
 ·subst hlast
  rw[List.drop_length] at hcost
  have hcost:costP s l o to=some (c+s.turn*trnF o1 to):=hcost
  have h4:=zbr o1 to
  have h6:=z37 (a:=s.turn) (b:=trnF o1 to) (A:=1000) (B:=4) (by omega) (by omega)
  rw[hcost]
  repeat' first|with_reducible intro _|refine sv ?_|((with_reducible first|apply zu|apply zt|apply zn);exact gd;exact rfl;exact rfl;(first|exact zfs _ _ ho1 hto _))|refine ss ?_ ?_<;>(intro h;first|exact sz h|refine sy h ?_)|exact sq|fail
  refine kf ?_
  exact⟨rfl,xk,hkn⟩
 have hlt:k < l.length:=by omega
 have hlt1:k - 1 < l.length:=by omega
 have r1:=hl1 k hlt
 have r0:=hl1 (k - 1) hlt1
 have hi:=r1.2
 have p1:=hpl _ (List.getElem_mem hlt)
 have p0:=hpl _ (List.getElem_mem hlt1)
 have hdr:=List.drop_eq_getElem_cons hlt
 rw[hdr] at hcost
 have r0':Rd M1 i (off+((k:Int) - 1).toNat*2) 2 (ptc l[k - 1]):=by rw[show((k:Int) - 1).toNat=k - 1 by omega];exact r0
 generalize hq0:l[k - 1]=q0 at *
 generalize hq1:l[k]=q1 at *
 have hcl:costL s to q0 o1 (q1 :: l.drop (k+1))=if q0 ≠ q1 /\ clearF s q0 q1=true then(costL s to q1 (octW q0 q1) (l.drop (k+1))).map (fun n=>stepsF s.speed q0 q1+s.turn*trnF o1 (octW q0 q1)+n) else none:=rfl
 rw[hcl] at hcost
 by_cases heq:q0=q1
 ·rw[if_neg (by rintro⟨h,_⟩;exact h heq)] at hcost
  have hcost:costP s l o to=none:=hcost
  have he:q0.1=q1.1 /\ q0.2=q1.2:=by rw[heq];exact⟨rfl,rfl⟩
  rw[hcost]
  (have hrd0:=r0';have hrd1:=r1;repeat' (first|(with_reducible intro _)|refine sv ?_|refine ss ?_ ?_<;>(intro h;first|exact sz h|refine sy h ?_)|exact sq|fail))
  all_goals try(exfalso;omega)
  refine kf ?_
  exact⟨rfl,xk,by obtain⟨L,z1,z2⟩:=hkn;exact⟨L,xm,z2⟩⟩
 have hne2:¬(q0.1=q1.1 /\ q0.2=q1.2):=fun h=>heq (Prod.ext h.1 h.2)
 (have hrd0:=r0';have hrd1:=r1;repeat' (first|(with_reducible intro _)|refine sv ?_|refine ss ?_ ?_<;>(intro h;first|exact sz h|refine sy h ?_)|exact sq|fail))
 all_goals try(exfalso;omega)
 rename_i n12 M2 hn12 e1 e2 M3 hu3 e3 a3
 have hC3:ChM M3 ⟨aL,fL,aF,fF,aB,fB,aO,fO,eF⟩ s pc pm:=hC1.grow (xg)
 refine zz (by exact gd) rfl rfl (show AppOk Tryz.prog _ _ M3 _ from zir (a:=q0) (b:=q1) hC3) ?_
 rintro v M4 ⟨rfl,hK4,hkn4⟩
 have hle4:=hK4.le
 have hcell4:At M4 pc (.cells true (chc ⟨aL,fL,aF,fF,aB,fB,aO,fO,eF⟩ s pm) 135):=hC3.cells.keep hK4 hne
 have a4:At M4 n12 (.cells true [I q0.1,I q0.2,I q1.1,I q1.2] 313):=a3.keep hK4 (by omega)
 cases hcv:clearF s q0 q1 with
 | false =>
  rw[if_neg (by rw[hcv];simp)] at hcost
  have hcost:costP s l o to=none:=hcost
  rw[hcost]
  repeat' first|with_reducible intro _|refine sv ?_|refine ss ?_ ?_<;>(intro h;first|exact sz h|refine sy h ?_)|exact sq|fail
  refine kf ?_
  exact⟨rfl,xk,by obtain⟨L,z1,z2⟩:=hkn4;exact⟨L,xm,z2⟩⟩
 | true =>
  rw[if_pos ⟨heq,hcv⟩] at hcost
  have hst:=fun M' (hg:At M' pc (.cells true (chc ⟨aL,fL,aF,fF,aB,fB,aO,fO,eF⟩ s pm) 135))=>ziw (A:=⟨aL,fL,aF,fF,aB,fB,aO,fO,eF⟩) (s:=s) (pc:=pc) (pm:=pm) hg hs.speed p0 p1
  have hsb:=z7r hs.speed p0 p1
  have ho2:0<=octW q0 q1 /\ octW q0 q1<=7:=zeq _ _
  have h4:=zbr o1 (octW q0 q1)
  have h6:=z37 (a:=s.turn) (b:=trnF o1 (octW q0 q1)) (A:=1000) (B:=4) (by omega) (by omega)
  have h7:0<=s.turn*trnF o1 (octW q0 q1):=Int.mul_nonneg (by omega) (by omega)
  have hct:=zfs o1 (octW q0 q1) ho1 ho2
  dsimp only[PlP,Pl] at p0 p1
  have hco:=zau (q1.1 - q0.1) (q1.2 - q0.2) (by omega) (by omega)
  rw[show octF (q1.1 - q0.1) (q1.2 - q0.2)=octW q0 q1 from rfl] at hco
  generalize octW q0 q1=oc at *
  generalize stepsF s.speed q0 q1=sp at *
  repeat' first|with_reducible intro _|refine sv ?_|((with_reducible first|apply zu|apply zt|apply zn);exact gd;exact rfl;exact rfl;(first|exact hct _))|((with_reducible first|apply zj|apply zi|apply d_pure0);exact gd;exact rfl;exact rfl;(first|exact hco _|exact hst _ (xm)))|refine ss ?_ ?_<;>(intro h;first|exact sz h|refine sy h ?_)|exact sq|fail
  refine z0d (l.length - (k+1)) (by omega) ⟨k+1,c+(sp+s.turn*trnF o1 oc),oc,rfl,by omega,by omega,rfl,.cons rfl (.cons rfl (.cons rfl (.cons rfl (.cons rfl (.cons rfl .nil))))),xk,by obtain⟨L,z1,z2⟩:=hkn4;have:=z1.2;exact⟨L,xm,z2⟩,by omega,ho2,?_⟩
  rw[hcost,show l[k+1 - 1]'(by omega)=q1 from hq1]
  cases costL s to q1 oc (l.drop (k+1)) with
  | none=>rfl
  | some m =>
   show some (c+(sp+s.turn*trnF o1 oc+m))=some (c+(sp+s.turn*trnF o1 oc)+m)
   rw[show c+(sp+s.turn*trnF o1 oc+m)=c+(sp+s.turn*trnF o1 oc)+m by omega]
abbrev offV(nc na nb ny:Nat):LV:=.func (.func 209) [] [.ptr (some (nc,0)),.ptr (some (na,0)),.ptr (some (nb,0)),.ptr (some (ny,0))]
abbrev nxtV(nof nb nc nnx:Nat):LV:=.func (.func 212) [] [.ptr (some (nof,0)),.ptr (some (nb,0)),.ptr (some (nc,0)),.ptr (some (nnx,0))]
abbrev posc(p:Pose):List LV:=[I p.1.1,I p.1.2,I p.2]
theorem z4t{M:Mem}{p:Nat}{own:Bool}{l:List Pt}{ty:TypeId}(h:At M p (.cells own (l.flatMap ptc) ty)):∀ k (hk:k < l.length),Rd M p (0+k*2) 2 (ptc l[k]):=fun k hk=>z3k h (fun x _=>rfl) hk
theorem KnM.ne_at{M:Mem}{s:Cr}{pm i:Nat}{own:Bool}{cs:List LV}{ty:TypeId}(h:KnM M s pm)(ha:At M i (.cells own cs ty)):i ≠ pm:=by
 rintro rfl
 obtain⟨L,h1,_⟩:=h
 have h2:=ha.1
 rw[h1.1] at h2
 cases h2
structure PsB (M:Mem) (A:CrA) (s:Cr) (a b:Pose) (pc pm na nb nc:Nat):Prop where
 ch:ChM M A s pc pm
 c:At M nc (.cells true [.ptr (some (pc,0))] 127)
 a:At M na (.cells true (posc a) 140)
 b:At M nb (.cells true (posc b) 140)
theorem PsB.keepm{M M':Mem}{A:CrA}{s:Cr}{a b:Pose}{pc pm na nb nc:Nat}(h:PsB M A s a b pc pm na nb nc)(hk:Keep (fun i=>i=pm) M M')(hkn:KnM M' s pm):PsB M' A s a b pc pm na nb nc :=
 ⟨h.ch.keepm hk hkn,h.c.keep hk (h.ch.known.ne_at h.c),h.a.keep hk (h.ch.known.ne_at h.a),h.b.keep hk (h.ch.known.ne_at h.b)⟩
def PsgR(x:Psg)(v:List LV)(U:Nat->Prop)(M:Mem):Prop:=∃ p,v=[.agg [slp x.1.length p,I x.2]] /\ (∀ i,U i ↔ i=p) /\ At M p (.cells true (x.1.flatMap ptc) (apE 30))
structure PsX (MB:Mem) (A:CrA) (s:Cr) (a b:Pose) (pc pm na nb nc:Nat) (items:List Psg) (ll:Nat) (AA:Nat->Prop) (II:List Psg->(Nat->Prop)->Mem->Prop) (DD:(Nat->Prop)->Mem->Prop) (N0:Nat):Prop where
 pb:PsB MB A s a b pc pm na nb nc
 hs:CrOk s
 ha:PoseOk a
 hb:PoseOk b
 tk:Taker Tryz.prog items PsgR ll AA (fun i=>i=pm) II DD N0
 ab:∀ i,AA i->MB.next<=i
 n0:MB.next<=N0
section
variable {MB:Mem} {A:CrA} {s:Cr} {a b:Pose} {pc pm na nb nc:Nat} {items:List Psg} {ll:Nat} {AA:Nat->Prop} {II:List Psg->(Nat->Prop)->Mem->Prop} {DD:(Nat->Prop)->Mem->Prop} {N0:Nat}
theorem PsX.still(X:PsX MB A s a b pc pm na nb nc items ll AA II DD N0){T:Nat->Prop}{d:List Psg}{M M':Mem}(hN:N0<=M.next)(hT:∀ i,T i->N0<=i /\ i < M.next)(hI:II d T M){F:Nat->Prop}(hk:Keep F M M')(hF:∀ i,F i->i=pm):II d T M' :=
 X.tk.stab _ _ _ _ hI hk.le fun i hi=>hk.old i (by
  rcases hi with hi|hi
  ·omega
  ·exact(hT i hi).2) fun hf=>by
   have hp:=hF i hf
   rcases hi with hi|hi
   ·exact hi.2 hp
   ·have h1:=X.pb.ch.known.lt
    have h2:=X.n0
    have:=(hT i hi).1
    omega
theorem PsX.pm_out(X:PsX MB A s a b pc pm na nb nc items ll AA II DD N0){T:Nat->Prop}{M:Mem}(hT:∀ i,T i->N0<=i /\ i < M.next):¬ AA pm /\ ¬ T pm:=by
 have h1:=X.pb.ch.known.lt
 have h2:=X.n0
 exact⟨fun h=>by have:=X.ab _ h;omega,fun h=>by have:=(hT _ h).1;omega⟩
set_option maxHeartbeats 4000000 in
theorem ziv(X:PsX MB A s a b pc pm na nb nc items ll AA II DD N0){M:Mem}{ny:Nat}{T:Nat->Prop}{done rest:List Psg}{i off:Nat}{f:Bool}{l:List Pt}
  (hK:Keep (fun i=>i=pm) MB M) (hkn:KnM M s pm) (hN:N0<=M.next) (hny:At M ny (.cells true [.func (.yield ll) [] []] 320)) (hT:∀ i,T i->N0<=i /\ i < M.next)
  (hit:items=done ++(offerL s a b l ++ rest)) (hI:II done T M) (hrd:∀ k (hk:k < l.length),Rd M i (off+k*2) 2 (ptc l[k])) (h0:0 < l.length) (hpl:∀ p ∈ l,PlP p) (hlen:l.length<=100) :
  ze Tryz.prog 209 [.slice (some (i,off)) l.length f 2,.ptr (some (nc,0)),.ptr (some (na,0)),.ptr (some (nb,0)),.ptr (some (ny,0))] M (Took AA (fun i=>i=pm) T (fun M'=>KnM M' s pm) II DD (done ++ offerL s a b l) M):=by
 have hP:=X.pb.keepm hK hkn
 have hpo:=X.pm_out hT
 have hc1:=hP.c
 have ha1:=hP.a
 have hb1:=hP.b
 have hnei:=hkn.ne_rd (hrd 0 h0)
 have hney:=hkn.ne_at hny
 have hcc:=zrp (f:=f) hP.ch X.hs hrd h0 hlen hpl X.ha.2 X.hb.2
 refine zf k209 rfl ?_
 delta x209;refine un ?_
 unfold offerL at *
 cases hc:costP s l a.2 b.2 with
 | none =>
  rw[hc] at hcc hit
  repeat' first|with_reducible intro _|refine sv ?_|refine ss ?_ ?_<;>(intro h;first|exact sz h|refine sy h ?_)|exact sq|fail
  refine zz (by exact gd) rfl rfl (show AppOk Tryz.prog _ _ M _ from hcc) ?_
  rintro v M1 ⟨rfl,hK1,hkn1⟩
  have hle1:=hK1.le
  repeat' first|with_reducible intro _|refine sv ?_|refine ss ?_ ?_<;>(intro h;first|exact sz h|refine sy h ?_)|exact sq|fail
  refine kf ?_
  exact⟨hK1.weaken (fun i hi=>.inr (.inr hi)),hkn1,T,fun i hi=>⟨.inl hi,by have:=(hT i hi).2;omega⟩,.inl ⟨rfl,by rw[List.append_nil];exact X.still hN hT hI hK1 (fun i hi=>hi)⟩⟩
 | some n =>
  rw[hc] at hcc hit
  repeat' first|with_reducible intro _|refine sv ?_|refine ss ?_ ?_<;>(intro h;first|exact sz h|refine sy h ?_)|exact sq|fail
  refine zz (by exact gd) rfl rfl (show AppOk Tryz.prog _ _ M _ from hcc) ?_
  rintro v M1 ⟨rfl,hK1,hkn1⟩
  have hle1:=hK1.le
  have hI1:=X.still hN hT hI hK1 (fun i hi=>hi)
  have hny1:=hny.keep hK1 hney
  have hrd1:∀ k (hk:k < l.length),Rd M1 i (off+k*2) 2 (ptc l[k]):=fun k hk=>(hrd k hk).keep hK1 hnei
  repeat' first|with_reducible intro _|refine sv ?_|((with_reducible first|apply z7i|apply z72);exact gd;exact rfl;exact rfl;(first|exact z6h hrd1 h0 (by omega)))|refine ss ?_ ?_<;>(intro h;first|exact sz h|refine sy h ?_)|exact sq|fail
  rename_i p M2 ap hp1 hp2 hg2 hle2
  have hit':items=done ++(l,n) :: rest:=hit
  have hI2:=X.still (by omega) (fun i hi=>by have:=hT i hi;omega) hI1 (hg2.to_keep (fun _=>False)) (fun i hi=>hi.elim)
  have hst:=X.tk.step done (l,n) rest [.agg [slp l.length p,I n]] (fun i=>i=p) T M2 hit' ⟨p,rfl,fun i=>Iff.rfl,ap⟩ (by omega) (fun i hi=>by have:=hT i hi;omega) (fun i hi=>by
   subst hi
   exact⟨by omega,hp2,fun h=>by have:=(hT _ h).2;omega⟩) hI2
  refine z0w (by exact gd) rfl rfl (show AppOk Tryz.prog (.func (.yield ll) [] []) _ M2 _ from hst) ?_
  rintro w M3 ⟨hk3,T',hT',hres⟩
  have hle3:=hk3.le
  have hpm1:=hkn1.lt
  have hkall:Keep (fun i=>AA i ∨ T i ∨ i=pm) M M3:=((hK1.weaken (fun i hi=>.inr (.inr hi))).grow hg2).trans hk3 (fun i hi=>by
   rcases hi with hi|hi|hi
   ·exact .inl (.inl hi)
   ·exact .inl (.inr (.inl hi))
   ·exact .inr (by subst hi;omega))
  have hkn3:KnM M3 s pm:=(hkn1.at hg2.le (hg2.old _ hkn1.lt)).at hk3.le (hk3.old _ (by omega) (by
   rintro(h|h|h)
   ·exact hpo.1 h
   ·exact hpo.2 h
   ·omega))
  have hT3:∀ i,T' i->(T i ∨ M.next<=i) /\ i < M3.next:=fun i hi=>by
   obtain⟨h1,h2⟩:=hT' i hi
   refine⟨?_,h2⟩
   rcases h1 with h1|h1|h1
   ·exact .inl h1
   ·exact .inr (by subst h1;omega)
   ·exact .inr (by omega)
  rcases hres with⟨rfl,hI3⟩|⟨rfl,hD3⟩
  ·repeat' first|with_reducible intro _|refine sv ?_|refine ss ?_ ?_<;>(intro h;first|exact sz h|refine sy h ?_)|exact sq|fail
   refine kf ?_
   exact⟨hkall,hkn3,T',hT3,.inl ⟨rfl,hI3⟩⟩
  ·repeat' first|with_reducible intro _|refine sv ?_|refine ss ?_ ?_<;>(intro h;first|exact sz h|refine sy h ?_)|exact sq|fail
   refine kf ?_
   exact⟨hkall,hkn3,T',hT3,.inr ⟨rfl,hD3⟩⟩
set_option maxHeartbeats 8000000 in
theorem z84(X:PsX MB A s a b pc pm na nb nc items ll AA II DD N0){M:Mem}{ny nof nnx:Nat}{T:Nat->Prop}{done rest:List Psg}{i off:Nat}{f:Bool}{l:List Pt}{used:Nat}(G:Nat->List Psg)
  (hus:used < 1024) (hK:Keep (fun i=>i=pm) MB M) (hkn:KnM M s pm) (hN:N0<=M.next) (hny:At M ny (.cells true [.func (.yield ll) [] []] 320))
  (hnof:At M nof (.cells true [offV nc na nb ny] 373)) (hnx:At M nnx (.cells true [nxtV nof nb nc nnx] 374)) (hN3:N0<=ny /\ N0<=nof /\ N0<=nnx) (hT3:¬ T ny /\ ¬ T nof /\ ¬ T nnx)
  (hT:∀ i,T i->N0<=i /\ i < M.next) (hit:items=done ++((offerL s a b (l ++ [b.1]) ++(List.range s.buoys.length).flatMap fun k=>if used.testBit k then [] else G k) ++ rest)) (hI:II done T M)
  (hrd:∀ k (hk:k < l.length),Rd M i (off+k*2) 2 (ptc l[k])) (h0:0 < l.length) (hi:N0<=i /\ ¬ T i) (hpl:∀ p ∈ l,PlP p) (hlen:l.length<=50)
  (IH:∀ k (hk:k < s.buoys.length),used.testBit k=false->∀(M':Mem) (T':Nat->Prop) (done' rest':List Psg) (i':Nat),Keep (fun i=>i=pm) MB M'->KnM M' s pm->N0<=M'.next ->
   At M' ny (.cells true [.func (.yield ll) [] []] 320)->At M' nof (.cells true [offV nc na nb ny] 373)->At M' nnx (.cells true [nxtV nof nb nc nnx] 374) ->
   (¬ T' ny /\ ¬ T' nof /\ ¬ T' nnx)->(∀ i,T' i->N0<=i /\ i < M'.next)->items=done' ++(G k ++ rest')->II done' T' M'->At M' i' (.cells true (l.flatMap ptc ++ ptc s.buoys[k]) (apE 30))->(N0<=i' /\ ¬ T' i') ->
   ze Tryz.prog 212 [.slice (some (i',0)) (l.length+1) false 2,I (used ||| 2 ^ k:Nat),.ptr (some (nof,0)),.ptr (some (nb,0)),.ptr (some (nc,0)),.ptr (some (nnx,0))] M' (Took AA (fun i=>i=pm) T' (fun M'=>KnM M' s pm) II DD (done' ++ G k) M')) :
  ze Tryz.prog 212 [.slice (some (i,off)) l.length f 2,I used,.ptr (some (nof,0)),.ptr (some (nb,0)),.ptr (some (nc,0)),.ptr (some (nnx,0))] M (Took AA (fun i=>i=pm) T (fun M'=>KnM M' s pm) II DD (done ++(offerL s a b (l ++ [b.1]) ++(List.range s.buoys.length).flatMap fun k=>if used.testBit k then [] else G k)) M):=by
 have hP:=X.pb.keepm hK hkn
 have hpo:=X.pm_out hT
 have hc1:=hP.c
 have ha1:=hP.a
 have hb1:=hP.b
 have hnb:=X.hs.nb
 have hpmM:=hkn.lt
 have hin:=(hrd 0 h0).2
 refine zf k212 rfl ?_
 delta x212;refine un ?_
 have e1:=hny.2
 have e2:=hnof.2
 have e3:=hnx.2
 have hnei:=hkn.ne_rd (hrd 0 h0)
 have hne1:=hkn.ne_at hny
 have hne2:=hkn.ne_at hnof
 have hne3:=hkn.ne_at hnx
 have hMB:=X.n0
 have hAlt:=X.tk.lt
 have hpmB:=X.pb.ch.known.lt
 have hassoc:done ++((offerL s a b (l ++ [b.1]) ++(List.range s.buoys.length).flatMap fun k=>if used.testBit k then [] else G k) ++ rest)=done ++(offerL s a b (l ++ [b.1]) ++(((List.range s.buoys.length).flatMap fun k=>if used.testBit k then [] else G k) ++ rest)):=by rw[List.append_assoc]
 rw[hassoc] at hit
 repeat' first|with_reducible intro _|refine sv ?_|((with_reducible first|apply z7i|apply z72);exact gd;exact rfl;exact rfl;(first|exact z6h hrd h0 (by omega)))|refine ss ?_ ?_<;>(intro h;first|exact sz h|refine sy h ?_)|exact sq|fail
 rename_i p M1 ap hp1 hp2 hg1 hle1 n16 M2 hn16 e4 e5
 have ap2:=At.new_old hn16 ap
 have hw:z08 2 l.length (.slice (some (p,0)) l.length false 2) M2=some (l.flatMap ptc):=z33 (z4t ap2) rfl h0
 refine z9y (by exact gd) rfl rfl rfl (by omega) (by omega) rfl hw (new:=ptc b.1) (z33 (l:=[b.1]) (z4t (At.new_same hn16)) rfl (by simp)) rfl ap2 ?_
 intro m M3 hk3 e6 e7 am
 have hg3:Grow M M3:=xg
 have hkn3:KnM M3 s pm:=hkn.at hg3.le (hg3.old _ hpmM)
 have hT3M:∀ i,T i->N0<=i /\ i < M3.next:=fun i hi=>by have:=hT i hi;omega
 have hI3:=X.still hN hT hI (hg3.to_keep (fun _=>False)) (fun i hi=>hi.elim)
 have hat3:At M3 m (.cells true ((l ++ [b.1]).flatMap ptc) (apE 30)):=by rw[List.flatMap_append,List.flatMap_singleton];exact am
 have hco:=ziv X (f:=false) (l:=l ++ [b.1]) (hK.grow hg3) hkn3 (by omega) (hny.grow hg3) hT3M hit hI3 (z4t hat3) (by simp) (fun q hq=>by
  rcases List.mem_append.1 hq with hq|hq
  ·exact hpl q hq
  ·obtain rfl:=List.mem_singleton.1 hq;exact X.hb.1) (by rw[List.length_append,List.length_singleton];omega)
 rw[List.length_append,List.length_singleton] at hco
 refine z0w (by exact gd) rfl rfl (show AppOk Tryz.prog _ _ M3 _ from hco) ?_
 rintro w M4 ⟨hk4,hkn4,T4,hT4,hres⟩
 have hle4:=hk4.le
 have hkall4:Keep (fun i=>AA i ∨ T i ∨ i=pm) M M4:=((hg3.to_keep (fun _=>False)).weaken (fun i hi=>hi.elim)).trans hk4 (fun i hi=>.inl hi)
 have hT4':∀ i,T4 i->(T i ∨ M.next<=i) /\ i < M4.next:=fun i hi=>by
  obtain⟨h1,h2⟩:=hT4 i hi
  exact⟨h1.imp id (fun h=>by omega),h2⟩
 have r11:Rd1 M1 nof 0 (offV nc na nb ny):=(Rd1.of_at hnof rfl).grow hg1
 have r11':Rd1 M3 nof 0 (offV nc na nb ny):=(Rd1.of_at hnof rfl).grow hg3
 rcases hres with⟨rfl,hI4⟩|⟨rfl,hD4⟩
 rotate_left
 ·repeat' first|with_reducible intro _|refine sv ?_|refine ss ?_ ?_<;>(intro h;first|exact sz h|refine sy h ?_)|exact sq|fail
  refine kf ?_
  exact⟨hkall4,hkn4,T4,hT4',.inr ⟨rfl,hD4⟩⟩
 obtain⟨aL,fL,aF,fF,aB,fB,aO,fO,eF⟩:=A
 have hnot:∀ j,N0<=j->¬ T j->j ≠ pm->¬(AA j ∨ T j ∨ j=pm):=fun j h1 h2 h3 h=>by
  rcases h with h|h|h
  ·have:=hAlt j h;omega
  ·exact h2 h
  ·exact h3 h
 have hKB:∀ {M'},Keep (fun i=>AA i ∨ T i ∨ i=pm) M M'->Keep (fun i=>i=pm) MB M':=fun {M'} hk=>hK.trans hk (fun i hi=>by
  rcases hi with hi|hi|hi
  ·exact .inr (X.ab i hi)
  ·exact .inr (by have:=(hT i hi).1;omega)
  ·exact .inl hi)
 have hP4:=X.pb.keepm (hKB hkall4) hkn4
 have hc4:=hP4.c
 have hcell4:=hP4.ch.cells
 have hpc4:=hcell4.2
 repeat' first|with_reducible intro _|refine sv ?_|refine ss ?_ ?_<;>(intro h;first|exact sz h|refine sy h ?_)|exact sq|fail
 refine zk (fun n E ms M'=>∃(k:Nat) (T':Nat->Prop),n=s.buoys.length - k /\ k<=s.buoys.length /\ ms=[] /\ Has E [(0,.slice (some (i,off)) l.length f 2),(1,I used),(2,.ptr (some (nof,0))),(3,.ptr (some (nb,0))),(4,.ptr (some (nc,0))),(5,.ptr (some (nnx,0))),(24,.slice aB s.buoys.length fB 2),(25,I s.buoys.length),(26,I k)] /\
   Keep (fun i=>AA i ∨ T i ∨ i=pm) M M' /\ KnM M' s pm /\ (∀ i,T' i->(T i ∨ M.next<=i) /\ i < M'.next) /\ II (done ++(offerL s a b (l ++ [b.1]) ++(List.range k).flatMap fun k=>if used.testBit k then [] else G k)) T' M') ?_ s.buoys.length _ _ _
  ⟨0,T4,by omega,by omega,rfl,.cons rfl (.cons rfl (.cons rfl (.cons rfl (.cons rfl (.cons rfl (.cons rfl (.cons rfl (.cons rfl .nil)))))))),hkall4,hkn4,hT4',by rw[List.range_zero,List.flatMap_nil,List.append_nil];exact hI4⟩
 rintro n E ms M5 ⟨k,T5,rfl,hk,rfl,hE,hk5,hkn5,hT5,hI5⟩
 refine z1h hE ?_
 have hle5:=hk5.le
 by_cases hlast:k=s.buoys.length
 ·subst hlast
  repeat' first|with_reducible intro _|refine sv ?_|refine ss ?_ ?_<;>(intro h;first|exact sz h|refine sy h ?_)|exact sq|fail
  refine kf ?_
  exact⟨hk5,hkn5,T5,hT5,.inl ⟨rfl,hI5⟩⟩
 have hlt:k < s.buoys.length:=by omega
 have hP5:=X.pb.keepm (hKB hk5) hkn5
 have hny5:=hny.keep hk5 (hnot _ hN3.1 hT3.1 hne1)
 have hnof5:=hnof.keep hk5 (hnot _ hN3.2.1 hT3.2.1 hne2)
 have hnx5:=hnx.keep hk5 (hnot _ hN3.2.2 hT3.2.2 hne3)
 have hrd5:∀ k (hk:k < l.length),Rd M5 i (off+k*2) 2 (ptc l[k]):=fun k hk=>(hrd k hk).keep hk5 (hnot _ hi.1 hi.2 hnei)
 have hT5':∀ i,T5 i->N0<=i /\ i < M5.next:=fun i hi=>by
  obtain⟨h1,h2⟩:=hT5 i hi
  exact⟨by rcases h1 with h1|h1;exact(hT i h1).1;omega,h2⟩
 obtain⟨iB,oB,rfl,hrB⟩:=(show SlA 2 ptc M5 aB s.buoys from hP5.ch.cr.buoys).resolve_left (fun h=>by rw[h] at hlt;simp at hlt)
 have rB:=hrB k hlt
 have hiB:=rB.2
 have hsh:=z1w (k:=k) (by omega)
 have hrange:(List.range (k+1)).flatMap (fun k=>if used.testBit k then [] else G k)=(List.range k).flatMap (fun k=>if used.testBit k then [] else G k) ++(if used.testBit k then [] else G k):=by rw[List.range_succ,List.flatMap_append,List.flatMap_singleton]
 have hl1:=hny5.2
 have hl2:=hnof5.2
 have hl3:=hnx5.2
 have hl4:=(hrd5 0 h0).2
 cases hu:used.testBit k with
 | true =>
  have hz:¬ andZ (used:Int) (shlZ 1 (k:Int))=0:=fun h=>by rw[z47,hu] at h;cases h
  rw[hu,if_pos rfl,List.append_nil] at hrange
  (have hrd0:=rB;repeat' (first|(with_reducible intro _)|refine sv ?_|refine ss ?_ ?_<;>(intro h;first|exact sz h|refine sy h ?_)|exact sq|fail))
  rename_i n10 M6 hn10 e8 e9 M7 hu7 e10 a10 hx
  have hg7:Grow M5 M7:=xg
  have hle7:=hg7.le
  refine z0d (s.buoys.length - (k+1)) (by omega) ⟨k+1,T5,rfl,by omega,rfl,.cons rfl (.cons rfl (.cons rfl (.cons rfl (.cons rfl (.cons rfl (.cons rfl (.cons rfl (.cons rfl .nil)))))))),hk5.grow hg7,hkn5.at hle7 (hg7.old _ hkn5.lt),fun i hi=>by have:=hT5 i hi;exact⟨this.1,by omega⟩,?_⟩
  rw[hrange]
  exact X.still (by omega) hT5' hI5 (hg7.to_keep (fun _=>False)) (fun i hi=>hi.elim)
 | false =>
  have hz:andZ (used:Int) (shlZ 1 (k:Int))=0:=(z47 _ _).2 hu
  rw[hu,if_neg (by decide)] at hrange
  have hmk:=fun M' (hg:Grow M5 M')=>z6h (f:=f) (e:=2) (fun k hk=>(hrd5 k hk).grow hg) h0 (by omega)
  (have hrd0:=rB;repeat' (first|(with_reducible intro _)|refine sv ?_|((with_reducible first|apply z7i|apply z72);exact gd;exact rfl;exact rfl;(first|exact hmk _ (xg)))|refine ss ?_ ?_<;>(intro h;first|exact sz h|refine sy h ?_)|exact sq|fail))
  rename_i n10 M6 hn10 e8 e9 M7 hu7 e10 a10 hx q M8 aq hq1 hq2 hg8 hle8 n41 M9 hn41 e11 e12
  have aq2:=At.new_old hn41 aq
  have hw:z08 2 l.length (.slice (some (q,0)) l.length false 2) M9=some (l.flatMap ptc):=z33 (z4t aq2) rfl h0
  refine z9y (by exact gd) rfl rfl rfl (by omega) (by omega) rfl hw (new:=ptc s.buoys[k]) (z33 (l:=[s.buoys[k]]) (z4t (At.new_same hn41)) rfl (by simp)) rfl aq2 ?_
  intro m2 MA hkA eA1 eA2 amA
  have hgA:Grow M5 MA:=xg
  have hleA:=hgA.le
  have hknA:KnM MA s pm:=hkn5.at hleA (hgA.old _ hkn5.lt)
  have hTA:∀ i,T5 i->N0<=i /\ i < MA.next:=fun i hi=>by have:=hT5' i hi;omega
  have hIA:=X.still (by omega) hT5' hI5 (hgA.to_keep (fun _=>False)) (fun i hi=>hi.elim)
  have hitA:items=(done ++(offerL s a b (l ++ [b.1]) ++(List.range k).flatMap fun k=>if used.testBit k then [] else G k)) ++(G k ++(((List.range s.buoys.length).drop (k+1)).flatMap (fun k=>if used.testBit k then [] else G k) ++ rest)):=by
   have hsplit:(List.range s.buoys.length).flatMap (fun k=>if used.testBit k then [] else G k)=(List.range (k+1)).flatMap (fun k=>if used.testBit k then [] else G k) ++((List.range s.buoys.length).drop (k+1)).flatMap (fun k=>if used.testBit k then [] else G k):=by
    rw[<-List.flatMap_append]
    congr 1
    have:=List.take_append_drop (k+1) (List.range s.buoys.length)
    rw[List.take_range,Nat.min_eq_left (by omega)] at this
    exact this.symm
   rw[hit,hsplit,hrange]
   simp only[List.append_assoc]
  have hih:=IH k hlt hu MA T5 _ _ m2 ((hKB hk5).grow hgA) hknA (by omega) (hny5.grow hgA) (hnof5.grow hgA) (hnx5.grow hgA) ⟨fun h=>by have:=(hT5 _ h).1;rcases this with h|h;exact hT3.1 h;omega,fun h=>by have:=(hT5 _ h).1;rcases this with h|h;exact hT3.2.1 h;omega,fun h=>by have:=(hT5 _ h).1;rcases this with h|h;exact hT3.2.2 h;omega⟩ hTA hitA hIA amA ⟨by omega,fun h=>by have:=(hT5' _ h).2;omega⟩
  rw[<-zk9] at hih
  have r37:Rd1 MA nnx 0 (nxtV nof nb nc nnx):=(Rd1.of_at hnx5 rfl).grow hgA
  repeat' first|with_reducible intro _|refine sv ?_|refine ss ?_ ?_<;>(intro h;first|exact sz h|refine sy h ?_)|exact sq|fail
  refine z0w (by exact gd) rfl rfl (show AppOk Tryz.prog _ _ MA _ from hih) ?_
  rintro w MB' ⟨hkB,hknB,TB,hTB,hres⟩
  have hleB:=hkB.le
  have hkallB:Keep (fun i=>AA i ∨ T i ∨ i=pm) M MB':=(hk5.grow hgA).trans hkB (fun i hi=>by
   rcases hi with hi|hi|hi
   ·exact .inl (.inl hi)
   ·exact(hT5 i hi).1.imp (fun h=>.inr (.inl h)) id
   ·exact .inl (.inr (.inr hi)))
  have hTB':∀ i,TB i->(T i ∨ M.next<=i) /\ i < MB'.next:=fun i hi=>by
   obtain⟨h1,h2⟩:=hTB i hi
   refine⟨?_,h2⟩
   rcases h1 with h1|h1
   ·exact(hT5 i h1).1
   ·exact .inr (by omega)
  rcases hres with⟨rfl,hIB⟩|⟨rfl,hDB⟩
  ·repeat' first|with_reducible intro _|refine sv ?_|refine ss ?_ ?_<;>(intro h;first|exact sz h|refine sy h ?_)|exact sq|fail
   refine z0d (s.buoys.length - (k+1)) (by omega) ⟨k+1,TB,rfl,by omega,rfl,.cons rfl (.cons rfl (.cons rfl (.cons rfl (.cons rfl (.cons rfl (.cons rfl (.cons rfl (.cons rfl .nil)))))))),hkallB,hknB,hTB',?_⟩
   rw[hrange]
   simp only[List.append_assoc] at hIB ⊢
   exact hIB
  ·repeat' first|with_reducible intro _|refine sv ?_|refine ss ?_ ?_<;>(intro h;first|exact sz h|refine sy h ?_)|exact sq|fail
   refine kf ?_
   exact⟨hkallB,hknB,TB,hTB',.inr ⟨rfl,hDB⟩⟩
theorem zoc{u k:Nat}(hu:u < 1024)(hk:k < 10):u ||| 2 ^ k < 1024:=Nat.or_lt_two_pow (n:=10) hu (Nat.pow_lt_pow_right (by omega) hk)
theorem znx(X:PsX MB A s a b pc pm na nb nc items ll AA II DD N0){ny nof nnx:Nat}(hN3:N0<=ny /\ N0<=nof /\ N0<=nnx):∀(d:Nat) {M:Mem} {T:Nat->Prop} {done rest:List Psg} {i off:Nat} {f:Bool} {l:List Pt} {used:Nat}
  (huz:∀ ks:List Nat,ks.Nodup->(∀ k ∈ ks,k < s.buoys.length /\ used.testBit k=false)->ks.length<=d)
  (hus:used < 1024) (hK:Keep (fun i=>i=pm) MB M) (hkn:KnM M s pm) (hN:N0<=M.next) (hny:At M ny (.cells true [.func (.yield ll) [] []] 320))
  (hnof:At M nof (.cells true [offV nc na nb ny] 373)) (hnx:At M nnx (.cells true [nxtV nof nb nc nnx] 374)) (hT3:¬ T ny /\ ¬ T nof /\ ¬ T nnx)
  (hT:∀ i,T i->N0<=i /\ i < M.next) (hit:items=done ++(nextL s a b d l used ++ rest)) (hI:II done T M)
  (hrd:∀ k (hk:k < l.length),Rd M i (off+k*2) 2 (ptc l[k])) (h0:0 < l.length) (hi:N0<=i /\ ¬ T i) (hpl:∀ p ∈ l,PlP p) (hlen:l.length+d<=50),
  ze Tryz.prog 212 [.slice (some (i,off)) l.length f 2,I used,.ptr (some (nof,0)),.ptr (some (nb,0)),.ptr (some (nc,0)),.ptr (some (nnx,0))] M (Took AA (fun i=>i=pm) T (fun M'=>KnM M' s pm) II DD (done ++ nextL s a b d l used) M)
 | 0,M,T,done,rest,i,off,f,l,used,huz,hus,hK,hkn,hN,hny,hnof,hnx,hT3,hT,hit,hI,hrd,h0,hi,hpl,hlen=>by
  have e:nextL s a b 0 l used=offerL s a b (l ++ [b.1]) ++(List.range s.buoys.length).flatMap fun k=>if used.testBit k then [] else(fun _=>([]:List Psg)) k:=by
   have e2:((List.range s.buoys.length).flatMap fun k=>if used.testBit k then [] else(fun _=>([]:List Psg)) k)=[]:=by
    rw[List.flatMap_eq_nil_iff];intro k _;split<;>rfl
   rw[e2,List.append_nil];rfl
  rw[e] at hit ⊢
  exact z84 X (fun _=>[]) hus hK hkn hN hny hnof hnx hN3 hT3 hT hit hI hrd h0 hi hpl (by omega) (fun k hk hu=>by
   have:=huz [k] (List.nodup_cons.2 ⟨List.not_mem_nil,List.nodup_nil⟩) (fun j hj=>by obtain rfl:=List.mem_singleton.1 hj;exact⟨hk,hu⟩)
   simp at this)
 | d+1,M,T,done,rest,i,off,f,l,used,huz,hus,hK,hkn,hN,hny,hnof,hnx,hT3,hT,hit,hI,hrd,h0,hi,hpl,hlen=>by
  have hnb:=X.hs.nb
  refine z84 X (fun k=>nextL s a b d (l ++ [s.buoys.getD k (0,0)]) (used ||| 2 ^ k)) hus hK hkn hN hny hnof hnx hN3 hT3 hT hit hI hrd h0 hi hpl (by omega) ?_
  intro k hk hu M' T' done' rest' i' hK' hkn' hN' hny' hnof' hnx' hT3' hT' hit' hI' hat hi'
  rw[z00 hk] at hit' ⊢
  have hat2:At M' i' (.cells true ((l ++ [s.buoys[k]]).flatMap ptc) (apE 30)):=by rw[List.flatMap_append,List.flatMap_singleton];exact hat
  have:=znx X hN3 d (f:=false) (l:=l ++ [s.buoys[k]]) (used:=used ||| 2 ^ k) (fun ks hnd hks=>by
    have hnk:k ∉ ks:=fun hm=>by have:=(hks k hm).2;rw[z5d] at this;simp at this
    have:=huz (k :: ks) (List.nodup_cons.2 ⟨hnk,hnd⟩) (fun j hj=>by
     rcases List.mem_cons.1 hj with rfl|hj
     ·exact⟨hk,hu⟩
     ·obtain⟨h1,h2⟩:=hks j hj
      rw[z5d,Bool.or_eq_false_iff] at h2
      exact⟨h1,h2.1⟩)
    rw[List.length_cons] at this;omega) (zoc hus (by omega)) hK' hkn' hN' hny' hnof' hnx' hT3' hT' hit' hI' (z4t hat2) (by simp) hi' (fun p hp=>by
     rcases List.mem_append.1 hp with hp|hp
     ·exact hpl p hp
     ·obtain rfl:=List.mem_singleton.1 hp;exact X.hs.buoys _ (List.getElem_mem hk)) (by rw[List.length_append,List.length_singleton];omega)
  rw[List.length_append,List.length_singleton] at this
  exact this
end
abbrev psgF(nc na nb:Nat):LV:=.func (.func 208) [] [.ptr (some (nc,0)),.ptr (some (na,0)),.ptr (some (nb,0))]
set_option maxHeartbeats 4000000 in
theorem zib{MB M0:Mem}{A:CrA}{s:Cr}{a b:Pose}{pc pm na nb nc:Nat}(hB:PsB MB A s a b pc pm na nb nc)(hK:Keep (fun i=>i=pm) MB M0)(hkn:KnM M0 s pm)(hs:CrOk s)(ha:PoseOk a)(hb:PoseOk b) :
  YieldsS Tryz.prog 208 [] [.ptr (some (nc,0)),.ptr (some (na,0)),.ptr (some (nb,0))] (fun i=>i < MB.next) (fun i=>i=pm) (fun M'=>KnM M' s pm) (passL s a b) PsgR M0:=by
 intro l AA II DD tk hS hI0
 have X:PsX MB A s a b pc pm na nb nc (passL s a b) l AA II DD M0.next:=⟨hB,hs,ha,hb,tk,fun i hi=>by
  rcases Nat.lt_or_ge i MB.next with h|h
  ·exact absurd hi (hS i h)
  ·exact h,hK.le⟩
 have hP:=hB.keepm hK hkn
 have hc1:=hP.c
 have ha1:=hP.a
 have hb1:=hP.b
 have hpmM:=hkn.lt
 have l1:=hc1.2
 have l2:=ha1.2
 have l3:=hb1.2
 have hstab:∀ {d M M'},II d (fun _=>False) M->M0.next<=M.next->Grow M M'->II d (fun _=>False) M':=fun {d M M'} hI hle hg=>X.tk.stab _ _ _ _ hI hg.le fun i hi=>hg.old i (by rcases hi with hi|hi;omega;exact hi.elim)
 refine zf k208 rfl ?_
 dsimp only[x208,zM,zO,zI,zF,zS,zB,zL,zA,zE,zN,zW,zC,zH,zK,zX,zQ,zJ,zP,zY2,zY3,zY4,zY8,zT,zR,zU,zV,zG,List.map_cons,List.map_nil,zipE,Nat.reduceAdd,List.nil_append,List.cons_append]
 have hnext:∀ {d:List Psg} {M1:Mem} {T:Nat->Prop} {ny nof nnx n25:Nat},passL s a b=d ++ nextL s a b s.buoys.length [a.1] 0->Keep (fun i=>AA i ∨ i=pm) M0 M1->KnM M1 s pm->At M1 ny (.cells true [.func (.yield l) [] []] 320) ->
   At M1 nof (.cells true [offV nc na nb ny] 373)->At M1 nnx (.cells true [nxtV nof nb nc nnx] 374)->(M0.next<=ny /\ M0.next<=nof /\ M0.next<=nnx)->(¬ T ny /\ ¬ T nof /\ ¬ T nnx)->(∀ i,T i->M0.next<=i /\ i < M1.next)->II d T M1->At M1 n25 (.cells true [I a.1.1,I a.1.2] 30)->M0.next<=n25->¬ T n25 ->
   ze Tryz.prog 212 [.slice (some (n25,0)) 1 true 2,I 0,.ptr (some (nof,0)),.ptr (some (nb,0)),.ptr (some (nc,0)),.ptr (some (nnx,0))] M1 (fun v M'=>Took AA (fun i=>i=pm) T (fun M'=>KnM M' s pm) II DD (passL s a b) M1 v M'):=by
  intro d M1 T ny nof nnx n25 hd hk1 hkn1 hny hnof hnx h3 hT3 hT hI ha25 h25 hT25
  have:=znx X h3 s.buoys.length (f:=true) (l:=[a.1]) (used:=0) (rest:=[]) (fun ks h1 h2=>z7n _ _ h1 fun k hk=>(h2 k hk).1) (by omega) (hK.trans hk1 (fun i hi=>by
    rcases hi with hi|hi
    ·exact .inr (X.ab i hi)
    ·exact .inl hi)) hkn1 hk1.le hny hnof hnx hT3 hT (by rw[List.append_nil];exact hd) hI (z4t (l:=[a.1]) ha25) (by simp) ⟨h25,hT25⟩ (fun p hp=>by obtain rfl:=List.mem_singleton.1 hp;exact ha.1) (by have:=hs.nb;simp;omega)
  rw[<-hd] at this
  exact this
 by_cases hab:a.1=b.1
 ·have hq:a.1.1=b.1.1 /\ a.1.2=b.1.2:=by rw[hab];exact⟨rfl,rfl⟩
  have hit:passL s a b=[] ++(offerL s a b [a.1] ++ nextL s a b s.buoys.length [a.1] 0):=by rw[List.nil_append];unfold passL;rw[if_pos hab]
  repeat' first|with_reducible intro _|refine sv ?_|refine ss ?_ ?_<;>(intro h;first|exact sz h|refine sy h ?_)|exact sq|fail
  rename_i ny M1 hny e1 e2 nof M2 hnof e3 e4 M3 hu3 e5 aof n17 M4 hn17 e6 e7
  have hg4:Grow M0 M4:=xg
  have hle4:=hg4.le
  have hkn4:KnM M4 s pm:=hkn.at hg4.le (hg4.old _ hpmM)
  have hny4:At M4 ny (.cells true [.func (.yield l) [] []] 320):=xm
  have hof4:At M4 nof (.cells true [offV nc na nb ny] 373):=xm
  have hco:=ziv X (f:=true) (l:=[a.1]) (T:=fun _=>False) (hK.grow hg4) hkn4 hg4.le hny4 (fun i hi=>hi.elim) hit (hstab hI0 (Nat.le_refl _) hg4) (z4t (l:=[a.1]) (At.new_same hn17)) (by simp) (fun p hp=>by obtain rfl:=List.mem_singleton.1 hp;exact ha.1) (by simp)
  refine zz (by exact gd) rfl rfl (show AppOk Tryz.prog _ _ M4 _ from hco) ?_
  rintro w M5 ⟨hk5,hkn5,T5,hT5,hres⟩
  have hle5:=hk5.le
  have hk05:Keep (fun i=>AA i ∨ i=pm) M0 M5:=((Keep.refl _ _).grow hg4).trans hk5 (fun i hi=>by
   rcases hi with hi|hi|hi
   ·exact .inl (.inl hi)
   ·exact hi.elim
   ·exact .inl (.inr hi))
  have hT5':∀ i,T5 i->M0.next<=i /\ i < M5.next:=fun i hi=>by
   obtain⟨h1,h2⟩:=hT5 i hi
   rcases h1 with h1|h1
   ·exact h1.elim
   ·exact⟨by omega,h2⟩
  have hnA:∀ j,M0.next<=j->j ≠ pm->¬(AA j ∨ False ∨ j=pm):=fun j h1 h2 h=>by
   rcases h with h|h|h
   ·have:=tk.lt j h;omega
   ·exact h
   ·exact h2 h
  rcases hres with⟨rfl,hI5⟩|⟨rfl,hD5⟩
  rotate_left
  ·repeat' first|with_reducible intro _|refine sv ?_|refine ss ?_ ?_<;>(intro h;first|exact sz h|refine sy h ?_)|exact sq|fail
   refine kf ?_
   exact⟨hk05,hkn5,T5,hT5',.inr hD5⟩
  have hny5:=hny4.keep hk5 (hnA _ (by omega) (by omega))
  have hof5:=hof4.keep hk5 (hnA _ (by omega) (by omega))
  have hb5:=hb1.grow hg4
  have hP5:=hB.keepm (hK.trans hk05 (fun i hi=>by
    rcases hi with hi|hi
    ·exact .inr (X.ab i hi)
    ·exact .inl hi)) hkn5
  have hc5:=hP5.c
  have ha5:=hP5.a
  have l5:=ha5.2
  repeat' first|with_reducible intro _|refine sv ?_|refine ss ?_ ?_<;>(intro h;first|exact sz h|refine sy h ?_)|exact sq|fail
  rename_i nnx M6 hn6 e8 e9 M7 hu7 e10 anx n25 M8 hn25 e11 e12
  have hg8:Grow M5 M8:=xg
  have hle8:=hg8.le
  have hcn:=hnext (T:=T5) (ny:=ny) (nof:=nof) (nnx:=nnx) (by rw[List.nil_append] at hit;exact hit) (hk05.grow hg8) (hkn5.at hg8.le (hg8.old _ hkn5.lt)) (hny5.grow hg8) (hof5.grow hg8) (xm) ⟨by omega,by omega,by omega⟩
   ⟨fun h=>by have:=(hT5 _ h).1;rcases this with h|h;exact h;have:=hny4.2;omega,fun h=>by have:=(hT5 _ h).1;rcases this with h|h;exact h;have:=hof4.2;omega,fun h=>by have:=(hT5' _ h).2;omega⟩ (fun i hi=>by have:=hT5' i hi;omega)
   (X.still (by omega) hT5' hI5 (hg8.to_keep (fun _=>False)) (fun i hi=>hi.elim)) (At.new_same hn25) (by omega) (fun h=>by have:=(hT5' _ h).2;omega)
  refine zz (by exact gd) rfl rfl (show AppOk Tryz.prog _ _ M8 _ from hcn) ?_
  rintro w M9 ⟨hk9,hkn9,T9,hT9,hres⟩
  have hk09:Keep (fun i=>AA i ∨ i=pm) M0 M9:=(hk05.grow hg8).trans hk9 (fun i hi=>by
   rcases hi with hi|hi|hi
   ·exact .inl (.inl hi)
   ·exact .inr (hT5' i hi).1
   ·exact .inl (.inr hi))
  have hT9':∀ i,T9 i->M0.next<=i /\ i < M9.next:=fun i hi=>by
   obtain⟨h1,h2⟩:=hT9 i hi
   rcases h1 with h1|h1
   ·exact⟨(hT5' i h1).1,h2⟩
   ·exact⟨by omega,h2⟩
  repeat' first|with_reducible intro _|refine sv ?_|refine ss ?_ ?_<;>(intro h;first|exact sz h|refine sy h ?_)|exact sq|fail
  refine kf ?_
  exact⟨hk09,hkn9,T9,hT9',hres.imp (fun h=>h.2) (fun h=>h.2)⟩
 ·have hq:¬(a.1.1=b.1.1 /\ a.1.2=b.1.2):=fun h=>hab (Prod.ext h.1 h.2)
  have hit:passL s a b=[] ++ nextL s a b s.buoys.length [a.1] 0:=by rw[List.nil_append];unfold passL;rw[if_neg hab];rfl
  repeat' first|with_reducible intro _|refine sv ?_|refine ss ?_ ?_<;>(intro h;first|exact sz h|refine sy h ?_)|exact sq|fail
  rename_i ny M1 hny e1 e2 nof M2 hnof e3 e4 M3 hu3 e5 aof hx1 nnx M6 hn6 e8 e9 M7 hu7 e10 anx n25 M8 hn25 e11 e12
  have hg8:Grow M0 M8:=xg
  have hle8:=hg8.le
  have hcn:=hnext (T:=fun _=>False) (ny:=ny) (nof:=nof) (nnx:=nnx) hit ((Keep.refl _ _).grow hg8) (hkn.at hg8.le (hg8.old _ hpmM)) (xm) (xm) (xm) ⟨by omega,by omega,by omega⟩
   ⟨id,id,id⟩ (fun i hi=>hi.elim) (hstab hI0 (Nat.le_refl _) hg8) (At.new_same hn25) (by omega) id
  refine zz (by exact gd) rfl rfl (show AppOk Tryz.prog _ _ M8 _ from hcn) ?_
  rintro w M9 ⟨hk9,hkn9,T9,hT9,hres⟩
  have hk09:Keep (fun i=>AA i ∨ i=pm) M0 M9:=((Keep.refl _ _).grow hg8).trans hk9 (fun i hi=>by
   rcases hi with hi|hi|hi
   ·exact .inl (.inl hi)
   ·exact hi.elim
   ·exact .inl (.inr hi))
  have hT9':∀ i,T9 i->M0.next<=i /\ i < M9.next:=fun i hi=>by
   obtain⟨h1,h2⟩:=hT9 i hi
   rcases h1 with h1|h1
   ·exact h1.elim
   ·exact⟨by omega,h2⟩
  repeat' first|with_reducible intro _|refine sv ?_|refine ss ?_ ?_<;>(intro h;first|exact sz h|refine sy h ?_)|exact sq|fail
  refine kf ?_
  exact⟨hk09,hkn9,T9,hT9',hres.imp (fun h=>h.2) (fun h=>h.2)⟩
theorem zgz{pc:Nat}{a b:Pose}(M:Mem):ze Tryz.prog 167 [.ptr (some (pc,0)),.agg (posc a),.agg (posc b)] M (fun v M'=>∃ nc na nb,v=psgF nc na nb /\ Grow M M' /\ At M' nc (.cells true [.ptr (some (pc,0))] 127) /\ At M' na (.cells true (posc a) 140) /\ At M' nb (.cells true (posc b) 140)):=by
 refine zf k167 rfl ?_
 delta x167;refine un ?_
 repeat' first|with_reducible intro _|refine sv ?_|refine ss ?_ ?_<;>(intro h;first|exact sz h|refine sy h ?_)|exact sq|fail
 refine kf ?_
 exact⟨_,_,_,rfl,xg,xm,xm,xm⟩
def BestAt(M:Mem)(T:Nat->Prop)(sl:LV)(c:Int)(o:Option Psg):Prop :=
 match o with
 | none=>sl=.slice none 0 true 0 /\ c=0
 | some y=>c=y.2 /\ ∃ p,sl=slp y.1.length p /\ T p /\ At M p (.cells true (y.1.flatMap ptc) (apE 30))
theorem BestAt.same{M M':Mem}{T T':Nat->Prop}{sl:LV}{c:Int}{o:Option Psg}(h:BestAt M T sl c o)(hle:M.next<=M'.next)(hg:∀ i,T i->M'.get i=M.get i)(hT:∀ i,T i->T' i):BestAt M' T' sl c o:=by
 cases o with
 | none=>exact h
 | some y =>
  obtain⟨h1,p,h2,h3,h4⟩:=h
  exact⟨h1,p,h2,hT p h3,h4.same hle (hg p h3)⟩
set_option maxHeartbeats 4000000 in
theorem zdw{gf:FuncId}{ca:List LV}{Wr:Nat->Prop}{Fin:Mem->Prop}{items:List Psg}{M0:Mem}(hy:∀ M',Grow M0 M'->YieldsS Tryz.prog gf [] ca (fun i=>i < M0.next) Wr Fin items PsgR M')(hWr:∀ i,Wr i->i < M0.next)
  (hFin:∀ M1 M2,Fin M1->M1.next<=M2.next->(∀ i,i < M0.next->M2.get i=M1.get i)->Fin M2) (hit:∀ x ∈ items,(∀ p ∈ x.1,PlP p) /\ x.1.length<=100) :
  ze Tryz.prog 166 [.func (.func gf) [] ca,.func (.func 168) [] []] M0 (fun v M'=>Keep Wr M0 M' /\ Fin M' /\ ∃ sl c,v=.tup [.agg [sl,I c],.bool (items.foldl addB none).isSome] /\ BestAt M' (fun p=>M0.next<=p) sl c (items.foldl addB none)):=by
 refine zf k166 rfl ?_
 delta x166;refine un ?_
 repeat' first|with_reducible intro _|refine sv ?_|refine ss ?_ ?_<;>(intro h;first|exact sz h|refine sy h ?_)|exact sq|fail
 rename_i n3 M1 hn3 e1 e2 n4 M2 hn4 e3 e4 n5 M2b hn5 e3b e4b
 apply z4w
 exact rfl
 intro lb d l M3 M4 hlb hd e5 e6 hl e7 e8
 have a3:At M4 n3 (.cells true [.func (.func 168) [] []] 319):=xm
 have a4:At M4 n4 (.cells true [.slice none 0 true 0,I 0] 241):=xm
 have a5:At M4 n5 (.cells true [.bool false] 4):=xm
 have ad:At M4 d .defr:=At.new_old hl (At.new_same hd)
 have hg4:Grow M0 M4:=xg
 refine(hy M4 hg4 l (fun i=>M0.next<=i /\ i < M4.next) (fun dn T M=>∃ sl c,At M n3 (.cells true [.func (.func 168) [] []] 319) /\ At M n4 (.cells true [sl,I c] 241) /\ At M n5 (.cells true [.bool (dn.foldl addB none).isSome] 4) /\
   At M l (lb .ready none) /\ At M d .defr /\ BestAt M T sl c (dn.foldl addB none)) (fun _ _=>False) ⟨fun i hi=>hi.2,?_,fun T M M' h=>h.elim,?_⟩ (fun i h1 h2=>by omega) ⟨_,_,a3,a4,a5,At.new_same hl,ad,rfl,rfl⟩).mono ?_
 ·rintro dn T M M' ⟨sl,c,h3,h4,h5,h6,h7,h8⟩ hle hg
  have hg2:∀ i,M0.next<=i->i < M4.next->M'.get i=M.get i:=fun i h1 h2=>hg i (.inl ⟨h2,fun hw=>by have:=hWr i hw;omega⟩)
  exact⟨sl,c,h3.same hle (hg2 _ (by omega) (by omega)),h4.same hle (hg2 _ (by omega) (by omega)),h5.same hle (hg2 _ (by omega) (by omega)),h6.same hle (hg2 _ (by omega) (by omega)),h7.same hle (hg2 _ (by omega) (by omega)),h8.same hle (fun i hi=>hg i (.inr hi)) (fun _ hi=>hi)⟩
 ·rintro dn x rest v U T M hits ⟨p,rfl,hU,hp⟩ hN hT hUd ⟨sl,c,h3,h4,h5,h6,h7,h8⟩
  have hx:=hit x (by rw[hits];simp)
  have hfold:(dn ++ [x]).foldl addB none=addB (dn.foldl addB none) x:=by rw[List.foldl_append];rfl
  have hpT:=hUd p ((hU p).2 rfl)
  have hxc:0<=M.next:=Nat.zero_le _
  have hdef:=ad.2
  rw[hfold]
  refine z1s hlb h6 rfl ?_
  dsimp only[zipP]
  have hfin:∀ {M':Mem} (sl':LV) (c':Int) (o':Option Psg) (T':Nat->Prop),Keep (fun i=>M0.next<=i /\ i < M4.next) M M'->At M' n3 (.cells true [.func (.func 168) [] []] 319)->At M' n4 (.cells true [sl',I c'] 241)->At M' n5 (.cells true [.bool o'.isSome] 4) ->
    At M' l (lb .ready none)->At M' d .defr->BestAt M' T' sl' c' o'->(∀ i,T' i->(T i ∨ U i))->addB (dn.foldl addB none) x=o'->Keep (fun i=>(M0.next<=i /\ i < M4.next) ∨ T i ∨ U i) M M' /\ ∃ T':Nat->Prop,(∀ i,T' i->(T i ∨ U i ∨ M.next<=i) /\ i < M'.next) /\ ((LV.bool true=.bool true /\ (∃ sl c,At M' n3 (.cells true [.func (.func 168) [] []] 319) /\ At M' n4 (.cells true [sl,I c] 241) /\ At M' n5 (.cells true [.bool (addB (dn.foldl addB none) x).isSome] 4) /\ At M' l (lb .ready none) /\ At M' d .defr /\ BestAt M' T' sl c (addB (dn.foldl addB none) x))) ∨(LV.bool true=.bool false /\ False)):=by
   intro M' sl' c' o' T' hk q3 q4 q5 q6 q7 q8 hT' ho
   refine⟨hk.weaken (fun i hi=>.inl hi),T',fun i hi=>?_,.inl ⟨rfl,sl',c',q3,q4,by rw[ho];exact q5,q6,q7,by rw[ho];exact q8⟩⟩
   have hle:=hk.le
   rcases hT' i hi with h|h
   ·exact⟨.inl h,by have:=(hT i h).2;omega⟩
   ·exact⟨.inr (.inl h),by have:=(hUd i h).2.1;omega⟩
  cases hfo:dn.foldl addB none with
  | none =>
   rw[hfo] at h5 h8 hfin
   obtain⟨rfl,rfl⟩:=h8
   repeat' first|with_reducible intro _|refine sv ?_|refine ss ?_ ?_<;>(intro h;first|exact sz h|refine sy h ?_)|exact sq|fail
   exact hfin _ _ (some x) (fun i=>i=p) (xk) (xm) (xm) (xm) (xm) (xm) ⟨rfl,p,rfl,rfl,xm⟩ (fun i hi=>.inr ((hU i).2 hi)) rfl
  | some y =>
   rw[hfo] at h5 h8 hfin
   obtain⟨rfl,py,rfl,hTy,hpy⟩:=h8
   have hyi:y ∈ items:=by
    have:=((foldB dn none).2 y hfo).2.2.resolve_right (by intro e;cases e)
    rw[hits];exact List.mem_append_left _ this
   have hpT2:=hT py hTy
   have hless:=fun M' (q1:At M' p (.cells true (x.1.flatMap ptc) (apE 30))) (q2:At M' py (.cells true (y.1.flatMap ptc) (apE 30)))=>zrw (fa:=false) (fb:=false) (x:=x) (y:=y) (.inr ⟨p,0,rfl,z4t q1⟩) (.inr ⟨py,0,rfl,z4t q2⟩) hx.1 (hit y hyi).1 (by have:=hx.2;omega) (by have:=(hit y hyi).2;omega)
   cases hlp:lessP x y with
   | true =>
    rw[hlp] at hless
    repeat' first|with_reducible intro _|refine sv ?_|((with_reducible first|apply zj|apply zi|apply d_pure0);exact gd;exact rfl;exact rfl;(first|exact hless _ (xm) (xm)))|refine ss ?_ ?_<;>(intro h;first|exact sz h|refine sy h ?_)|exact sq|fail
    exact hfin _ _ (some x) (fun i=>i=p) (xk) (xm) (xm) (xm) (xm) (xm) ⟨rfl,p,rfl,rfl,xm⟩ (fun i hi=>.inr ((hU i).2 hi)) (if_pos hlp)
   | false =>
    rw[hlp] at hless
    repeat' first|with_reducible intro _|refine sv ?_|((with_reducible first|apply zj|apply zi|apply d_pure0);exact gd;exact rfl;exact rfl;(first|exact hless _ (xm) (xm)))|refine ss ?_ ?_<;>(intro h;first|exact sz h|refine sy h ?_)|exact sq|fail
    exact hfin _ _ (some y) (fun i=>i=py) (xk) (xm) (xm) (xm) (xm) (xm) ⟨rfl,py,rfl,rfl,xm⟩ (fun i hi=>.inl (by rw[hi];exact hTy)) (if_neg (by rw[hlp];decide))
 ·rintro v M5 ⟨hk5,hf5,T5,hT5,⟨sl,c,h3,h4,h5,h6,h7,h8⟩|h⟩
  rotate_left
  ·exact h.elim
  have hle5:=hk5.le
  have hk05:Keep Wr M0 M5:=(hg4.to_keep Wr).trans hk5 (fun i hi=>hi.elim (fun h=>.inr h.1) .inl)
  have hle4:=hg4.le
  have hdl:d ≠ l:=by omega
  refine z40 h6 (by simp) fun M6 hu e9 a9=>?_
  have hendd:∀ {M9 M8 M7:Mem} (lb7 lb8:LB),Upd M6 n4 lb7 M7->Upd M7 n5 lb8 M8->Unmark [d] M8 M9->Keep Wr M0 M9 /\ Fin M9 /\ Keep (fun i=>M0.next<=i /\ i < M4.next) M5 M9:=by
   intro M9 M8 M7 lb7 lb8 hu7 hu8 hm
   have hkk:Keep (fun i=>M0.next<=i /\ i < M4.next) M5 M9:=((((Keep.refl _ M5).upd hu (.inl ⟨by omega,by omega⟩)).upd hu7 (.inl ⟨by omega,by omega⟩)).upd hu8 (.inl ⟨by omega,by omega⟩)).unmark hm (fun d' hd'=>by obtain rfl:=List.mem_singleton.1 hd';exact .inl ⟨by omega,by omega⟩)
   refine⟨hk05.trans hkk (fun i hi=>.inr hi.1),hFin M5 M9 hf5 hkk.le (fun i hi=>hkk.old i (by omega) (by omega)),hkk⟩
  cases hfo:items.foldl addB none with
  | none =>
   rw[hfo] at h5 h8
   obtain⟨rfl,rfl⟩:=h8
   repeat' first|with_reducible intro _|refine sv ?_|refine ss ?_ ?_<;>(intro h;first|exact sz h|refine sy h ?_)|exact sq|fail
   refine z0m (.inr rfl) (by simp) (fun d' hd'=>by obtain rfl:=List.mem_singleton.1 hd';exact xm) fun M9 hm=>?_
   rename_i M7 hu7 e10 a7 M8 hu8 e11 a8
   obtain⟨q1,q2,q3⟩:=hendd _ _ hu7 hu8 hm
   have b4:At M8 n4 (.cells true [.slice none 0 true 0,I 0] 241):=xm
   refine⟨_,.cellN rfl (Rd.of_at (b4.unmark hm (by simp;omega)) rfl).1 (.cell1 rfl (Rd1.of_at (a8.unmark hm (by simp;omega)) rfl).1 .nil),q1,q2,_,_,rfl,rfl,rfl⟩
  | some y =>
   rw[hfo] at h5 h8
   obtain⟨rfl,py,rfl,hTy,hpy⟩:=h8
   have hpy5:=hT5 py hTy
   repeat' first|with_reducible intro _|refine sv ?_|refine ss ?_ ?_<;>(intro h;first|exact sz h|refine sy h ?_)|exact sq|fail
   refine z0m (.inr rfl) (by simp) (fun d' hd'=>by obtain rfl:=List.mem_singleton.1 hd';exact xm) fun M9 hm=>?_
   rename_i M7 hu7 e10 a7 M8 hu8 e11 a8
   obtain⟨q1,q2,q3⟩:=hendd _ _ hu7 hu8 hm
   have b4:At M8 n4 (.cells true [slp y.1.length py,I y.2] 241):=xm
   refine⟨_,.cellN rfl (Rd.of_at (b4.unmark hm (by simp;omega)) rfl).1 (.cell1 rfl (Rd1.of_at (a8.unmark hm (by simp;omega)) rfl).1 .nil),q1,q2,_,_,rfl,rfl,py,rfl,by omega,hpy.keep q3 (by omega)⟩
set_option maxHeartbeats 4000000 in
theorem zro{A:CrA}{s:Cr}{a b:Pose}{pc pm:Nat}{M:Mem}(hC:ChM M A s pc pm)(hs:CrOk s)(ha:PoseOk a)(hb:PoseOk b) :
  ze Tryz.prog 111 [.ptr (some (pc,0)),.agg (posc a),.agg (posc b)] M (fun v M'=>Keep (fun i=>i=pm) M M' /\ KnM M' s pm /\ ∃ sl c,v=.tup [.agg [sl,I c],.bool (bestF s a b).isSome] /\ BestAt M' (fun p=>M.next<=p) sl c (bestF s a b)):=by
 refine zf k111 rfl ?_
 delta x111;refine un ?_
 repeat' first|with_reducible intro _|refine sv ?_|refine ss ?_ ?_<;>(intro h;first|exact sz h|refine sy h ?_)|exact sq|fail
 rename_i n4 M1 hn4 e1 e2 n5 M2 hn5 e3 e4 n6 M3 hn6 e5 e6
 refine zz (by exact gd) rfl rfl (show AppOk Tryz.prog _ _ M3 _ from zgz (a:=a) (b:=b) M3) ?_
 rintro w M4 ⟨nc,na,nb,rfl,hg4,ac,aa,ab⟩
 have hg04:Grow M M4:=xg
 have hle04:=hg04.le
 have hB:PsB M4 A s a b pc pm na nb nc:=⟨hC.grow hg04,ac,aa,ab⟩
 have hpm:=hC.known.lt
 have hf:=zdw (gf:=208) (ca:=[.ptr (some (nc,0)),.ptr (some (na,0)),.ptr (some (nb,0))]) (Wr:=fun i=>i=pm) (Fin:=fun M'=>KnM M' s pm) (items:=passL s a b) (M0:=M4)
  (fun M' hg=>zib hB (hg.to_keep _) (hB.ch.known.at hg.le (hg.old _ hB.ch.known.lt)) hs ha hb) (fun i hi=>by subst hi;omega) (fun M1 M2 h1 h2 h3=>h1.at h2 (h3 _ (by omega))) (fun x hx=>by have:=zeu hs ha.1 hb.1 hx;exact⟨this.1,by omega⟩)
 refine zz (by exact gd) rfl rfl (show AppOk Tryz.prog _ _ M4 _ from hf) ?_
 rintro w M5 ⟨hk5,hkn5,sl,c,rfl,hba⟩
 have hle5:=hk5.le
 have hk05:Keep (fun i=>i=pm) M M5:=(hg04.to_keep _).trans hk5 (fun i hi=>.inl hi)
 have hle4:=hg4.le
 have a6:At M5 n6 (.cells true [.slice none 0 true 0,I 0] 241):=((At.new_same hn6).grow hg4).keep hk5 (by omega)
 rw[show(passL s a b).foldl addB none=bestF s a b from rfl] at hba ⊢
 cases hbf:bestF s a b with
 | none =>
  rw[hbf] at hba
  obtain⟨rfl,rfl⟩:=hba
  repeat' first|with_reducible intro _|refine sv ?_|refine ss ?_ ?_<;>(intro h;first|exact sz h|refine sy h ?_)|exact sq|fail
  refine kf ?_
  exact⟨xk,by obtain⟨L,z1,z2⟩:=hkn5;have:=z1.2;exact⟨L,xm,z2⟩,_,_,rfl,rfl,rfl⟩
 | some y =>
  rw[hbf] at hba
  obtain⟨rfl,p,rfl,hp,ap⟩:=hba
  have hp:M4.next<=p:=hp
  repeat' first|with_reducible intro _|refine sv ?_|refine ss ?_ ?_<;>(intro h;first|exact sz h|refine sy h ?_)|exact sq|fail
  refine kf ?_
  exact⟨xk,by obtain⟨L,z1,z2⟩:=hkn5;have:=z1.2;exact⟨L,xm,z2⟩,_,_,rfl,rfl,p,rfl,by omega,xm⟩
end Go.Proofs.YtpgalhbplcanhaaGreatDoor.C
end
section
open PvL
set_option linter.unusedSimpArgs false
set_option linter.unusedVariables false
namespace Go.Proofs.YtpgalhbplcanhaaGreatDoor.C
abbrev Rch:=Pose × Int
noncomputable def wayC(s:Cr)(c:Nat):Pt × Pt:=wayF s (c / 2) ((c % 2:Nat):Int)
noncomputable def begC(s:Cr)(c:Nat):Pose:=((wayC s c).1,octW (wayC s c).1 (wayC s c).2)
noncomputable def endC(s:Cr)(c:Nat):Pose:=((wayC s c).2,octW (wayC s c).1 (wayC s c).2)
noncomputable def shotC(s:Cr)(c:Nat)(t:Int):Option Bd:=shotF s (c / 2) ((c % 2:Nat):Int) t
noncomputable def costN(s:Cr)(p q:Pose):Int:=match bestF s p q with|some y=>y.2|none=>-1
noncomputable def goF(s:Cr)(x:Rch)(c:Nat):Option Bd:=if costN s x.1 (begC s c) < 0 then none else shotC s c (x.2+costN s x.1 (begC s c))
noncomputable def rchF(s:Cr)(c:Nat)(t:Int):Rch:=(endC s c,t)
def startR(s:Cr):Rch:=(s.start,0)
noncomputable def timesG(s:Cr):Rch->List Nat->Option (List Bd)
 | _,[]=>some []
 | x,c :: l=>match goF s x c with|none=>none|some b=>(timesG s (rchF s c b.2) l).map (b :: ·)
def shN(x:Int × Int):Nat:=2*x.1.toNat+x.2.toNat
def OrdOk(s:Cr)(l:List (Int × Int)):Prop:=(∀ x ∈ l,rightP s x) /\ (l.map (·.1)).Nodup
open Classical in
noncomputable def TimesF(s:Cr)(l:List (Int × Int)):List Bd × Int :=
 if CrOk s then(if OrdOk s l then(match timesG s (startR s) (l.map shN) with|some r=>(r,0)|none=>([],4)) else([],42)) else([],40)
theorem z6w{s:Cr}(h:CrOk s){c:Nat}(hc:c / 2 < s.lines.length):PlP (wayC s c).1 /\ PlP (wayC s c).2 /\ (wayC s c).1 ≠(wayC s c).2:=zl8 h hc _
theorem zop{s:Cr}(h:CrOk s){c:Nat}(hc:c / 2 < s.lines.length):PoseOk (begC s c):=⟨(z6w h hc).1,zeq _ _⟩
theorem ze6{s:Cr}(h:CrOk s){c:Nat}(hc:c / 2 < s.lines.length):PoseOk (endC s c):=⟨(z6w h hc).2.1,zeq _ _⟩
theorem zm2{s:Cr}(h:CrOk s){p q:Pose}(hp:PoseOk p)(hq:PoseOk q):-1<=costN s p q /\ costN s p q<=600000:=by
 unfold costN
 cases hb:bestF s p q with
 | none=>exact⟨by decide,by decide⟩
 | some y =>
  have:=zeu h hp.1 hq.1 (zc5 hb).1
  dsimp only;omega
theorem z3x{α β:Type}{f:α->Option β}:∀ {l:List α} {b:β},l.findSome? f=some b->∃ a ∈ l,f a=some b
 | a :: l,b,h=>by
  rw[List.findSome?_cons] at h
  cases ha:f a with
  | none=>rw[ha] at h;obtain⟨x,h1,h2⟩:=z3x h;exact⟨x,List.mem_cons_of_mem _ h1,h2⟩
  | some v=>rw[ha] at h;cases h;exact⟨a,List.mem_cons_self ..,ha⟩
theorem zn2{s:Cr}(h:CrOk s){c:Nat}(hc:c / 2 < s.lines.length){t:Int}{b:Bd}(hb:shotC s c t=some b):t<=b.1 /\ 0<=b.1 /\ b.1<=b.2 /\ b.2<=1048576 /\ b.2 - b.1=stepsF s.speed (wayC s c).1 (wayC s c).2:=by
 unfold shotC shotF at hb
 split at hb
 ·obtain⟨w,h1,h2⟩:=z3x hb
  have hno:=h.no
  rw[z00 (by omega)] at h1
  have hw:=(z9e.1 (h.opn _ (List.getElem_mem (by omega:c / 2 < s.opn.length)))).2
  obtain⟨j,hj,rfl⟩:=List.getElem_of_mem h1
  have hj2:=hw j hj
  unfold winAt at hj2
  rw[z00 hj] at hj2
  have hway:=z6w h hc
  have hst:=z7r h.speed hway.1 hway.2.1
  unfold winO at h2
  split at h2
  ·cases h2
   unfold wayC at *
   unfold iMax at *
   dsimp only
   omega
  ·cases h2
 ·cases hb
theorem za3{s:Cr}(h:CrOk s){x:Rch}{c:Nat}(hc:c / 2 < s.lines.length){b:Bd}(hb:goF s x c=some b):x.2+costN s x.1 (begC s c)<=b.1 /\ 0<=costN s x.1 (begC s c) /\ b.1<=b.2 /\ 0<=b.1 /\ b.2<=1048576:=by
 unfold goF at hb
 split at hb
 ·cases hb
 ·have:=zn2 h hc hb
  omega
