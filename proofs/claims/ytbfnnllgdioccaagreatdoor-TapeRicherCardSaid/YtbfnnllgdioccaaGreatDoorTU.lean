/-
 Part of the proof of TapeRicher: what functions of the program and of the statement come to,walked by the rules. No condition beyond those in each theorem.
-/
import Derived.Test.YtbfnnllgdioccaaGreatDoorTS
import Derived.Test.YtbfnnllgdioccaaGreatDoorTP
import Derived.Test.YtbfnnllgdioccaaGreatDoorTW
section
open Go PvL Go.Proofs
variable {μ:Md}
set_option linter.unusedVariables false
set_option linter.unusedSimpArgs false
namespace Go.Proofs.YtbfnnllgdioccaaGreatDoor.C
section
variable {α:Type} {b q:Nat} {ty:TypeId} {enc:α->List LV} {M:Mem} {v:LV} {l l':List α} {P:Program} [Orc P] {sz:Nat} {E:Env} {K:Env->Mem->Prop} {ll:List XG} {d:Nat} {g:Option (Nat × Bool)} {s x:XO} {st:List Mem} {k:Nat} {xs:List (Nat × Nat × (Mem->Prop))} {ld:List (XG × XK)} {by':Nat} {z:List LV} {xv:LV}
end
def FwB (b:Nat) (M:Mem) (x:FW) (f:Fr):Prop:=x.1=fky f /\ x.2.2.1=f.2.2.length /\ (f.2.2=[] ∨ ∃ i o,x.2.1=some (i,o) /\ i < b /\ ∀ k (hk:k < f.2.2.length),Rd1 M i (o+k*1) (I f.2.2[k]))
inductive FwLB (b:Nat) (M:Mem):List FW->List Fr->Prop
 | nil:FwLB b M [] []
 | cons {x:FW} {f:Fr} {xs:List FW} {fs:List Fr} (h:FwB b M x f) (h':FwLB b M xs fs):FwLB b M (x :: xs) (f :: fs)
theorem FwB.keep {b b':Nat} {M M':Mem} {F:Nat->Prop} {x:FW} {f:Fr} (h:FwB b M x f) (hk:Keep F M M') (hF:∀ i,F i->b<=i) (hb:b<=b'):FwB b' M' x f :=
 ⟨h.1,h.2.1,h.2.2.imp id fun ⟨i,o,h1,h2,h3⟩=>⟨i,o,h1,by omega,fun k hk'=>(h3 k hk').keep hk (fun hf=>by have:=hF i hf;omega)⟩⟩
theorem FwB.grow {b b':Nat} {M M':Mem} {x:FW} {f:Fr} (h:FwB b M x f) (hg:Grow M M') (hb:b<=b'):FwB b' M' x f:=h.keep (hg.to_keep (fun _=>False)) (fun _ h=>h.elim) hb
theorem FwLB.keep {b b':Nat} {M M':Mem} {F:Nat->Prop} {xs:List FW} {fs:List Fr} (h:FwLB b M xs fs) (hk:Keep F M M') (hF:∀ i,F i->b<=i) (hb:b<=b'):FwLB b' M' xs fs:=by
 induction h with
 | nil=>exact .nil
 | cons h _ ih=>exact .cons (h.keep hk hF hb) ih
theorem FwLB.grow {b b':Nat} {M M':Mem} {xs:List FW} {fs:List Fr} (h:FwLB b M xs fs) (hg:Grow M M') (hb:b<=b'):FwLB b' M' xs fs:=h.keep (hg.to_keep (fun _=>False)) (fun _ h=>h.elim) hb
theorem Vec.lt {α:Type} {b q:Nat} {ty:TypeId} {enc:α->List LV} {M:Mem} {a:Option (Nat × Nat)} {n:Nat} {f:Bool} {e:Nat} {l:List α} (h:Vec b q ty enc M (.slice a n f e) l):∀ i o,a=some (i,o)->i < M.next:=fun i o he=>by
 rcases h with ⟨_,h⟩|⟨j,h,h2,_⟩
 ·cases h;cases he
 ·cases h;cases he;exact h2.2
theorem FwLB.app {b:Nat} {M:Mem} {xs xs':List FW} {fs fs':List Fr} (h:FwLB b M xs fs) (h':FwLB b M xs' fs'):FwLB b M (xs ++ xs') (fs ++ fs'):=by
 induction h with
 | nil=>exact h'
 | cons h _ ih=>exact .cons h ih
theorem FwLB.len {b:Nat} {M:Mem} {xs:List FW} {fs:List Fr} (h:FwLB b M xs fs):xs.length=fs.length:=by
 induction h with
 | nil=>rfl
 | cons _ _ ih=>simp [ih]
theorem FwLB.l {b:Nat} {M:Mem} {xs:List FW} {fs:List Fr} (h:FwLB b M xs fs):FwL M xs fs:=by
 induction h with
 | nil=>exact .nil
 | cons h _ ih=>exact .cons ⟨h.1,h.2.1,h.2.2.imp id fun ⟨i,o,h1,h2,h3⟩=>⟨i,o,h1,h3⟩⟩ ih
theorem FsV.at {M:Mem} {a:Option (Nat × Nat)} {L:List Fr} (h:FsV M a L) {k:Nat} (hk:k < L.length):∃ i o b g u,a=some (i,o) /\ Rd M i (o+k*3) 3 [I (fe L k).1,I (fe L k).2.1,.slice b (fe L k).2.2.length g u] /\ SlI M b (fe L k).2.2:=by
 obtain ⟨i,o,b,g,u,h1,h2,b',g',u',h3,h4⟩:=h.rd hk
 cases h3
 exact ⟨i,o,b,g,u,h1,h2,h4⟩
end Go.Proofs.YtbfnnllgdioccaaGreatDoor.C
end
section
open Go PvL Go.Proofs
variable {μ:Md}
set_option linter.unusedVariables false
set_option linter.unusedSimpArgs false
namespace Go.Proofs.YtbfnnllgdioccaaGreatDoor.C
end Go.Proofs.YtbfnnllgdioccaaGreatDoor.C
end
section
open Go PvL Go.Proofs
set_option linter.unusedSimpArgs false
set_option linter.unusedVariables false
namespace Go.Proofs.YtbfnnllgdioccaaGreatDoor.C
theorem znt {l l':List Int} {k:Nat} (hk:k < l.length) (hk':k < l'.length) (h:l[k] ≠ l'[k]):decide (l=l')=false:=by
 rw [decide_eq_false_iff_not]
 rintro rfl
 exact h rfl
set_option maxHeartbeats 2000000 in
theorem zjy {M:Mem} {a b:Option (Nat × Nat)} {l l':List Int} {f f':Bool} {e e':Nat} (ha:SlI M a l) (hb:SlI M b l') (hl:l.length<=1000000000000000) (hl':l'.length<=1000000000000000) :
  CallOk Tryz.prog 16 [.slice a l.length f e,.slice b l'.length f' e'] M (fun w M'=>w=.bool (decide (l=l')) /\ M'=M):=by
 refine z9 k16 rfl ?_
 dsimp only [x16,zipE,Nat.reduceAdd]
 by_cases hne:l.length=l'.length
 ·(repeat' (first|(with_reducible intro _)|refine sv ?_|(refine sc ?_ ?_<;>(intro h;try first|exact h.elim|exact absurd rfl h|(exfalso;omega)))|(refine sg ?_ ?_<;>(intro h;(fail_if_success (have:True:=h));try first|exact h.elim|exact absurd rfl h|(exfalso;omega)))|assumption|exact xm|exact rfl))
  all_goals try (exfalso;omega)
  refine z7 (fun m E ms M'=>∃ k:Nat,m=l.length - k /\ k<=l.length /\ ms=[] /\ Has E [(0,.slice a l.length f e),(1,.slice b l'.length f' e'),(5,I k)] /\ M'=M /\ l.take k=l'.take k)
   ?_ l.length _ _ _ ⟨0,by omega,by omega,rfl,.cons rfl (.cons rfl (.cons rfl .nil)),rfl,rfl⟩
  rintro m E ms M1 ⟨k,rfl,hk,rfl,hE,rfl,hall⟩
  refine zt hE ?_
  by_cases hlast:k=l.length
  ·subst hlast
   (repeat' (first|(with_reducible intro _)|refine sv ?_|(refine sc ?_ ?_<;>(intro h;try first|exact h.elim|exact absurd rfl h|(exfalso;omega)))|(refine sg ?_ ?_<;>(intro h;(fail_if_success (have:True:=h));try first|exact h.elim|exact absurd rfl h|(exfalso;omega)))|assumption|exact xm|exact rfl))
   ((with_reducible first|apply z8|apply z3);exact rx)
   refine ⟨?_,rfl⟩
   rw [List.take_of_length_le (Nat.le_refl _),List.take_of_length_le (by omega)] at hall
   rw [decide_eq_true hall];rfl
  ·have hlt:k < l.length:=by omega
   have hlt':k < l'.length:=by omega
   obtain ⟨i,o,rfl,hr⟩:=ha.rd hlt
   obtain ⟨i2,o2,rfl,hr2⟩:=hb.rd hlt'
   by_cases heq:l[k]=l'[k]
   ·rw [<-heq] at hr2
    have htk:l.take (k+1)=l'.take (k+1):=by
     rw [List.take_succ_eq_append_getElem hlt,List.take_succ_eq_append_getElem hlt',hall,heq]
    generalize l[k]=p at *
    (have hrd0:=hr;have hrd1:=hr2;repeat' (first|(with_reducible intro _)|refine sv ?_|(refine sc ?_ ?_<;>(intro h;try first|exact h.elim|exact absurd rfl h|(exfalso;omega)))|(refine sg ?_ ?_<;>(intro h;(fail_if_success (have:True:=h));try first|exact h.elim|exact absurd rfl h|(exfalso;omega)))|assumption|exact xm|exact rfl))
    all_goals try (exfalso;omega)
    refine ze (l.length - (k+1)) (by omega) ⟨k+1,rfl,by omega,rfl,.cons rfl (.cons rfl (.cons rfl .nil)),rfl,htk⟩
   ·have hd:=znt hlt hlt' heq
    rw [hd]
    generalize l[k]=p at *
    generalize l'[k]=q at *
    (have hrd0:=hr;have hrd1:=hr2;repeat' (first|(with_reducible intro _)|refine sv ?_|(refine sc ?_ ?_<;>(intro h;try first|exact h.elim|exact absurd rfl h|(exfalso;omega)))|(refine sg ?_ ?_<;>(intro h;(fail_if_success (have:True:=h));try first|exact h.elim|exact absurd rfl h|(exfalso;omega)))|assumption|exact xm|exact rfl))
    all_goals try (exfalso;omega)
    ((with_reducible first|apply z8|apply z3);exact rx)
    exact ⟨rfl,rfl⟩
 ·have hd:decide (l=l')=false:=by
   rw [decide_eq_false_iff_not];rintro rfl;exact hne rfl
  rw [hd]
  (repeat' (first|(with_reducible intro _)|refine sv ?_|(refine sc ?_ ?_<;>(intro h;try first|exact h.elim|exact absurd rfl h|(exfalso;omega)))|(refine sg ?_ ?_<;>(intro h;(fail_if_success (have:True:=h));try first|exact h.elim|exact absurd rfl h|(exfalso;omega)))|assumption|exact xm|exact rfl))
  all_goals try (exfalso;omega)
  ((with_reducible first|apply z8|apply z3);exact rx)
  exact ⟨rfl,rfl⟩
set_option maxHeartbeats 2000000 in
theorem zay {M:Mem} {v w:LV} {x y:Fr} (hv:FrV M v x) (hw:FrV M w y) (hl:x.2.2.length<=1000000000000000) (hl':y.2.2.length<=1000000000000000) :
  CallOk Tryz.prog 70 [v,w] M (fun r M'=>r=.bool (decide (x=y)) /\ Grow M M'):=by
 obtain ⟨a,f,e,rfl,hs⟩:=hv
 obtain ⟨b,f',e',rfl,hs'⟩:=hw
 obtain ⟨x1,x2,x3⟩:=x
 obtain ⟨y1,y2,y3⟩:=y
 dsimp only at *
 have hd:decide ((x1,x2,x3)=(y1,y2,y3))=(decide (x1=y1) && (decide (x2=y2) && decide (x3=y3))):=by
  rw [Bool.eq_iff_iff];simp
 rw [hd]
 have hc:∀ M',Grow M M'->CallOk Tryz.prog 16 [.slice a x3.length f e,.slice b y3.length f' e'] M' (fun w M''=>w=.bool (decide (x3=y3)) /\ M''=M'):=fun M' hg=>zjy (hs.grow hg) (hs'.grow hg) hl hl'
 refine z9 k70 rfl ?_
 dsimp only [x70,zipE,Nat.reduceAdd]
 by_cases h1:x1=y1
 ·by_cases h2:x2=y2
  ·(repeat' (first|(with_reducible intro _)|refine sv ?_|(refine sc ?_ ?_<;>(intro h;try first|exact h.elim|exact absurd rfl h|(exfalso;omega)))|((with_reducible first|apply zz|apply zx|apply zi);exact gd;exact rfl;exact rfl;(first|exact hc _ (xg)))|(refine sg ?_ ?_<;>(intro h;(fail_if_success (have:True:=h));try first|exact h.elim|exact absurd rfl h|(exfalso;omega)))|assumption|exact xm|exact rfl))
   ((with_reducible first|apply z8|apply z3);exact rx)
   refine ⟨?_,xg⟩
   rw [decide_eq_true h1,decide_eq_true h2];rfl
  ·(repeat' (first|(with_reducible intro _)|refine sv ?_|(refine sc ?_ ?_<;>(intro h;try first|exact h.elim|exact absurd rfl h|(exfalso;omega)))|(refine sg ?_ ?_<;>(intro h;(fail_if_success (have:True:=h));try first|exact h.elim|exact absurd rfl h|(exfalso;omega)))|assumption|exact xm|exact rfl))
   ((with_reducible first|apply z8|apply z3);exact rx)
   refine ⟨?_,xg⟩
   rw [decide_eq_true h1,decide_eq_false h2];rfl
 ·(repeat' (first|(with_reducible intro _)|refine sv ?_|(refine sc ?_ ?_<;>(intro h;try first|exact h.elim|exact absurd rfl h|(exfalso;omega)))|(refine sg ?_ ?_<;>(intro h;(fail_if_success (have:True:=h));try first|exact h.elim|exact absurd rfl h|(exfalso;omega)))|assumption|exact xm|exact rfl))
  ((with_reducible first|apply z8|apply z3);exact rx)
  refine ⟨?_,xg⟩
  rw [decide_eq_false h1];rfl
end Go.Proofs.YtbfnnllgdioccaaGreatDoor.C
end
section
open Go PvL Go.Proofs
variable {μ:Md}
set_option linter.unusedVariables false
set_option linter.unusedSectionVars false
set_option linter.unusedSimpArgs false
namespace Go.Proofs.YtbfnnllgdioccaaGreatDoor.C
theorem FwL.app {M:Mem} {xs xs':List FW} {fs fs':List Fr} (h:FwL M xs fs) (h':FwL M xs' fs'):FwL M (xs ++ xs') (fs ++ fs'):=by
 induction h with
 | nil=>exact h'
 | cons h _ ih=>exact .cons h ih
section
variable {α:Type} {b q:Nat} {ty:TypeId} {enc:α->List LV} {M:Mem} {v:LV} {l l':List α} {P:Program} [Orc P] {sz:Nat} {E:Env} {K:Env->Mem->Prop} {ll:List XG} {d:Nat} {g:Option (Nat × Bool)} {s x:XO} {st:List Mem} {k:Nat} {xs:List (Nat × Nat × (Mem->Prop))} {ld:List (XG × XK)} {by':Nat} {z:List LV} {xv:LV}
end
theorem FrOk.all {L:List Fr} (h:FrOk L):∀ z ∈ L,FrK z /\ z.2.2.length<=64:=fun z hz=>⟨h.k z hz,(z4l (h z hz)).2⟩
end Go.Proofs.YtbfnnllgdioccaaGreatDoor.C
end
section
open Go PvL Go.Proofs
variable {μ:Md}
set_option linter.unusedVariables false
set_option linter.unusedSimpArgs false
namespace Go.Proofs.YtbfnnllgdioccaaGreatDoor.C
set_option maxHeartbeats 4000000 in
theorem z9i {M:Mem} {a b:Option (Nat × Nat)} {L:List Fr} {f f':Bool} {e e':Nat} (hs:FsV M a L) (hs':FsV M b L) (hl:L.length<=1000000) (hL:∀ z ∈ L,z.2.2.length<=1000000) :
  CallOk Tryz.prog 33 [.slice a L.length f e,.slice b L.length f' e'] M (fun w M'=>w=.bool true /\ Grow M M'):=by
 refine z9 k33 rfl ?_
 dsimp only [x33,zipE,Nat.reduceAdd]
 (repeat' (first|(with_reducible intro _)|refine sv ?_|(refine sc ?_ ?_<;>(intro h;try first|exact h.elim|exact absurd rfl h|(exfalso;omega)))|(refine sg ?_ ?_<;>(intro h;(fail_if_success (have:True:=h));try first|exact h.elim|exact absurd rfl h|(exfalso;omega)))|assumption|exact xm|exact rfl))
 all_goals try (exfalso;omega)
 refine z7 (fun z E ms M'=>∃ (k:Nat),z=L.length - k /\ k<=L.length /\ ms=[] /\ Has E [(0,.slice a L.length f e),(1,.slice b L.length f' e'),(5,I k)] /\ Grow M M')
  ?_ (L.length - 0) _ _ _ ⟨0,rfl,Nat.zero_le _,rfl,.cons rfl (.cons rfl (.cons rfl .nil)),Grow.refl _⟩
 rintro z E ms M2 ⟨k,rfl,hk,rfl,hE,hg2⟩
 refine zt hE ?_
 by_cases hlast:k=L.length
 ·subst hlast
  (repeat' (first|(with_reducible intro _)|refine sv ?_|(refine sc ?_ ?_<;>(intro h;try first|exact h.elim|exact absurd rfl h|(exfalso;omega)))|(refine sg ?_ ?_<;>(intro h;(fail_if_success (have:True:=h));try first|exact h.elim|exact absurd rfl h|(exfalso;omega)))|assumption|exact xm|exact rfl))
  ((with_reducible first|apply z8|apply z3);exact rx)
  exact ⟨rfl,hg2⟩
 have hlt:k < L.length:=by omega
 obtain ⟨i,o,bk,gk,uk,rfl,hrk,hsk⟩:=(hs.grow hg2).rd hlt
 obtain ⟨i',o',bk',gk',uk',rfl,hrk',hsk'⟩:=(hs'.grow hg2).rd hlt
 have hln:=hL (fe L k) (by rw [z2d hlt];exact List.getElem_mem hlt)
 have cs:=zay hsk hsk' (by omega) (by omega)
 rw [decide_eq_true rfl] at cs
 (have hrd0:=hrk;have hrd1:=hrk';repeat' (first|(with_reducible intro _)|refine sv ?_|(refine sc ?_ ?_<;>(intro h;try first|exact h.elim|exact absurd rfl h|(exfalso;omega)))|((with_reducible first|apply zy|apply zw|apply zh);exact gd;exact rfl;exact rfl;(first|exact cs))|(refine sg ?_ ?_<;>(intro h;(fail_if_success (have:True:=h));try first|exact h.elim|exact absurd rfl h|(exfalso;omega)))|assumption|exact xm|exact rfl))
 rename_i M3 hg3 q3
 exact ze (L.length - (k+1)) (by omega) ⟨k+1,rfl,by omega,rfl,.cons rfl (.cons rfl (.cons rfl .nil)),hg2.trans hg3⟩
set_option maxHeartbeats 4000000 in
theorem zdc {M:Mem} {v w:LV} {r:Rl} (hv:RlV M v r) (hw:RlV M w r) (hl:r.2.length<=1000000) (hL:∀ z ∈ r.2,z.2.2.length<=1000000) :
  CallOk Tryz.prog 25 [v,w] M (fun u M'=>u=.bool true /\ Grow M M'):=by
 obtain ⟨a,f,e,rfl,hs⟩:=hv
 obtain ⟨b,f',e',rfl,hs'⟩:=hw
 refine z9 k25 rfl ?_
 dsimp only [x25,zipE,Nat.reduceAdd]
 have hb:(r.1 == r.1)=true:=z4d _
 have cs:=fun M' hg=>z9i (M:=M') (f:=f) (f':=f') (e:=e) (e':=e') (hs.grow hg) (hs'.grow hg) hl hL
 (repeat' (first|(with_reducible intro _)|refine sv ?_|(refine sc ?_ ?_<;>(intro h;try first|exact h.elim|exact absurd rfl h|(exfalso;omega)))|((with_reducible first|apply zy|apply zw|apply zh);exact gd;exact rfl;exact rfl;(first|exact cs _ (xg)))|(refine sg ?_ ?_<;>(intro h;(fail_if_success (have:True:=h));try first|exact h.elim|exact absurd rfl h|(exfalso;omega)))|assumption|exact xm|exact rfl))
 ·((with_reducible first|apply z8|apply z3);exact rx)
  exact ⟨rfl,xg⟩
 ·rw [hb] at h;cases h
end Go.Proofs.YtbfnnllgdioccaaGreatDoor.C
end
