/-
 Part of the proof of CourseAccepted: what functions of the program and of the statement come to,walked by the rules. No condition beyond those in each theorem.
-/
import Derived.Test.YtpccafeedfpbaaaGreatUA
import Derived.Test.YtpccafeedfpbaaaGreatUS
import Derived.Test.YtpccafeedfpbaaaGreatUB
import Derived.Test.YtpccafeedfpbaaaGreatUC
section
open Go PvL Go.Proofs
set_option linter.unusedSimpArgs false
set_option linter.unusedVariables false
namespace Go.Proofs.YtpccafeedfpbaaaGreat.C
set_option maxHeartbeats 1000000 in
theorem zgr {a:Option (Nat × Nat)} {f:Bool} {l:List Bd} {M:Mem} (hl:SlA 2 bdc M a l) (hlen:l.length<=1000000000000000):CallOk Tryz.prog 155 [.slice a l.length f 2] M (fun w M'=>w=.bool (winB l) /\ Grow M M'):=by
 refine z6 kq155 rfl ?_
 dsimp only [xq155,qm,qf,ql,qL,qi,qa,qn,qB,qC,qg,qS,qo,qk,qK,qq,qZ,zipE,Nat.reduceAdd]
 (repeat' first|with_reducible intro _|refine sv ?_|refine sc ?_ ?_<;>(intro h;try exact sz h)|refine sg ?_ ?_<;>(intro h;first|exact sz h|refine sy h ?_)|exact sq|fail)
 refine zc (fun n E ms M'=>∃ k:Nat,n=l.length - k /\ k<=l.length /\ ms=[] /\ Has E [(0,.slice a l.length f 2),(5,.slice a l.length f 2),(6,I l.length),(7,I k)] /\ Grow M M' /\ ∀ j,j < k->winAt l j)
  ?_ l.length _ _ _ ⟨0,by omega,by omega,rfl,.cons rfl (.cons rfl (.cons rfl (.cons rfl .nil))),xg,fun j hj=>absurd hj (Nat.not_lt_zero _)⟩
 rintro n E ms M1 ⟨k,rfl,hk,rfl,hE,hg,hall⟩
 have hle:=hg.le
 refine zw hE ?_
 by_cases hlast:k=l.length
 ·subst hlast
  (repeat' first|with_reducible intro _|refine sv ?_|refine sc ?_ ?_<;>(intro h;try exact sz h)|refine sg ?_ ?_<;>(intro h;first|exact sz h|refine sy h ?_)|exact sq|fail)
  (refine kf ?_)
  refine ⟨?_,xg⟩
  by_cases h4:l.length<=4
  ·rw [zeg (z2s.2 ⟨h4,hall⟩)]
   exact congrArg LV.bool (decide_eq_true (by omega))
  ·rw [zbs (fun hh=>h4 (z2s.1 hh).1)]
   exact congrArg LV.bool (decide_eq_false (by omega))
 have hlt:k < l.length:=by omega
 obtain ⟨i,o,rfl,hr⟩:=hl.resolve_left (fun h=>by subst h;simp at hlt)
 have hr0:Rd M1 i (o+k*2) 2 (bdc l[k]):=(hr k hlt).grow hg
 have hno:¬ winAt l k->winB l=false:=fun h=>zbs fun hh=>h ((z2s.1 hh).2 k hlt)
 have hyes:winAt l k->∀ j,j < k+1->winAt l j:=fun h j hj=>by
  by_cases hjk:j=k
  ·subst hjk;exact h
  ·exact hall j (by omega)
 unfold winAt at hno hyes
 rw [ze hlt] at hno hyes
 have hat:=hr0.2
 by_cases hk0:k=0
 ·subst hk0
  (have hrd0:=hr0;repeat' first|with_reducible intro _|refine sv ?_|refine sc ?_ ?_<;>(intro h;try exact sz h)|(with_reducible first|apply zj|apply zi|apply zd);exact gd;exact rfl;exact rfl;exact z0m _ _ _ _|refine sg ?_ ?_<;>(intro h;first|exact sz h|refine sy h ?_)|exact sq|fail)
  all_goals first
   |(refine zg (l.length - (0+1)) (by omega) ⟨0+1,rfl,by omega,rfl,.cons rfl (.cons rfl (.cons rfl (.cons rfl .nil))),xg,hyes (by omega)⟩;done)
   |((refine kf ?_)
     refine ⟨?_,xg⟩
     rw [hno (by omega)];rfl)
 ·have hlt1:k - 1 < l.length:=by omega
  have hr1:Rd M1 i (o+(k - 1)*2) 2 (bdc l[k - 1]):=(hr (k - 1) hlt1).grow hg
  have hr1':Rd1 M1 i (o+((k:Int) - 1).toNat*2+1) (I (l[k - 1]'hlt1).2):=by
   rw [show ((k:Int) - 1).toNat=k - 1 by omega];exact hr1.nth rfl
  rw [ze hlt1] at hno hyes
  (have hrd0:=hr0;have hrd1:=hr1';repeat' first|with_reducible intro _|refine sv ?_|refine sc ?_ ?_<;>(intro h;try exact sz h)|(with_reducible first|apply zj|apply zi|apply zd);exact gd;exact rfl;exact rfl;exact z0m _ _ _ _|refine sg ?_ ?_<;>(intro h;first|exact sz h|refine sy h ?_)|exact sq|fail)
  all_goals first
   |(refine zg (l.length - (k+1)) (by omega) ⟨k+1,rfl,by omega,rfl,.cons rfl (.cons rfl (.cons rfl (.cons rfl .nil))),xg,hyes (by omega)⟩;done)
   |((refine kf ?_)
     refine ⟨?_,xg⟩
     rw [hno (by omega)];rfl)
set_option maxHeartbeats 2000000 in
theorem zex {a:Option (Nat × Nat)} {f:Bool} {l:List Bd} {M:Mem} (hl:SlA 2 bdc M a l) (hlen:l.length<=1000000000000000):CallOk Tryz.prog 99 [.slice a l.length f 2] M (fun w M'=>w=.bool (winB l) /\ Grow M M'):=by
 refine z6 kq99 rfl ?_
 dsimp only [xq99,qm,qi,qn,qB,qC,qg,qo,qk,qK,qq,qZ,zipE,Nat.reduceAdd]
 (repeat' first|with_reducible intro _|refine sv ?_|refine sc ?_ ?_<;>(intro h;try exact sz h)|refine sg ?_ ?_<;>(intro h;first|exact sz h|refine sy h ?_)|exact sq|fail)
 refine zc (fun n E ms M'=>∃ (k:Nat) (b:Bool),n=l.length - k /\ k<=l.length /\ ms=[] /\ Has E [(0,.slice a l.length f 2),(3,.bool b),(4,I k)] /\ Grow M M' /\ (b=true ↔ l.length<=4 /\ ∀ j,j < k->winAt l j))
  ?_ l.length _ _ _ ⟨0,_,by omega,by omega,rfl,.cons rfl (.cons rfl (.cons rfl .nil)),xg,?_⟩
 rotate_left
 ·rw [decide_eq_true_iff]
  exact ⟨fun h=>⟨by omega,fun j hj=>absurd hj (Nat.not_lt_zero _)⟩,fun h=>by omega⟩
 rintro n E ms M1 ⟨k,b,rfl,hk,rfl,hE,hg,hall⟩
 have hle:=hg.le
 refine zw hE ?_
 by_cases hlast:k=l.length
 ·subst hlast
  have hb:b=winB l:=by
   rw [Bool.eq_iff_iff,hall,<- z2s]
   exact ⟨fun h=>zeg h,fun h=>Classical.byContradiction fun hn=>by rw [zbs hn] at h;cases h⟩
  subst hb
  (repeat' first|with_reducible intro _|refine sv ?_|refine sc ?_ ?_<;>(intro h;try exact sz h)|refine sg ?_ ?_<;>(intro h;first|exact sz h|refine sy h ?_)|exact sq|fail)
  (refine kf ?_)
  exact ⟨rfl,xg⟩
 have hlt:k < l.length:=by omega
 obtain ⟨i,o,rfl,hr⟩:=hl.resolve_left (fun h=>by subst h;simp at hlt)
 have hr0:Rd M1 i (o+k*2) 2 (bdc l[k]):=(hr k hlt).grow hg
 have ha0:Rd1 M1 i (o+k*2+0) (I l[k].1):=hr0.nth rfl
 have ha1:Rd1 M1 i (o+k*2+1) (I l[k].2):=hr0.nth rfl
 have hnext:∀ b':Bool,(b'=true ↔ b=true /\ winAt l k)->(b'=true ↔ l.length<=4 /\ ∀ j,j < k+1->winAt l j):=fun b' hb'=>by
  rw [hb',hall]
  refine ⟨fun ⟨⟨h1,h2⟩,h3⟩=>⟨h1,fun j hj=>?_⟩,fun ⟨h1,h2⟩=>⟨⟨h1,fun j hj=>h2 j (by omega)⟩,h2 k (by omega)⟩⟩
  by_cases hjk:j=k
  ·subst hjk;exact h3
  ·exact h2 j (by omega)
 unfold winAt at hnext
 rw [ze hlt] at hnext
 clear hall
 have hat:=hr0.2
 cases b with
 | false =>
  (repeat' first|with_reducible intro _|refine sv ?_|refine sc ?_ ?_<;>(intro h;try exact sz h)|refine sg ?_ ?_<;>(intro h;first|exact sz h|refine sy h ?_)|exact sq|fail)
  refine zg (l.length - (k+1)) (by omega) ⟨k+1,_,rfl,by omega,rfl,.cons rfl (.cons rfl (.cons rfl .nil)),xg,hnext _ (by simp)⟩
 | true =>
  by_cases hk0:k=0
  ·subst hk0
   (have hrd0:=ha0;have hrd1:=ha1;repeat' first|with_reducible intro _|refine sv ?_|refine sc ?_ ?_<;>(intro h;try exact sz h)|refine sg ?_ ?_<;>(intro h;first|exact sz h|refine sy h ?_)|exact sq|fail)
   all_goals refine zg (l.length - (0+1)) (by omega) ⟨0+1,_,rfl,by omega,rfl,.cons rfl (.cons rfl (.cons rfl .nil)),xg,hnext _ ?_⟩
   all_goals (simp only [decide_eq_true_eq,true_and,true_or,and_true,true_iff,Bool.false_eq_true,false_iff];omega)
  ·have hlt1:k - 1 < l.length:=by omega
   have hr1:Rd M1 i (o+(k - 1)*2) 2 (bdc l[k - 1]):=(hr (k - 1) hlt1).grow hg
   have hr1':Rd1 M1 i (o+((k:Int) - 1).toNat*2+1) (I (l[k - 1]'hlt1).2):=by
    rw [show ((k:Int) - 1).toNat=k - 1 by omega];exact hr1.nth rfl
   rw [ze hlt1] at hnext
   (have hrd0:=ha0;have hrd1:=ha1;have hrd2:=hr1';repeat' first|with_reducible intro _|refine sv ?_|refine sc ?_ ?_<;>(intro h;try exact sz h)|refine sg ?_ ?_<;>(intro h;first|exact sz h|refine sy h ?_)|exact sq|fail)
   all_goals refine zg (l.length - (k+1)) (by omega) ⟨k+1,_,rfl,by omega,rfl,.cons rfl (.cons rfl (.cons rfl .nil)),xg,hnext _ ?_⟩
   all_goals (simp only [decide_eq_true_eq,true_and,true_or,and_true,true_iff,Bool.false_eq_true,false_iff];omega)
theorem z1y {n:Nat} {p:Nat->Bool}:(List.range n).any p=true ↔ ∃ k,k < n /\ p k=true:=by
 rw [List.any_eq_true]
 exact ⟨fun ⟨k,h1,h2⟩=>⟨k,List.mem_range.1 h1,h2⟩,fun ⟨k,h1,h2⟩=>⟨k,List.mem_range.2 h1,h2⟩⟩
set_option maxHeartbeats 1000000 in
theorem z6c {a:Option (Nat × Nat)} {n:Nat} {f:Bool} {e:Nat} {g:FuncId} {fi ca:List LV} {M:Mem} (elem:Nat->LV) (p:Nat->Bool) (hn:n<=1000000000000000)
  (hread:∀ k,k < n->∃ i o,a=some (i,o) /\ Rd1 M i (o+k*1) (elem k)) (hp:∀ k,k < n->∀ M',Grow M M'->CallOk Tryz.prog g (fi ++ [elem k] ++ ca) M' (fun w M''=>w=.bool (p k) /\ Grow M' M'')) :
  CallOk Tryz.prog 150 [.slice a n f e,.func (.func g) fi ca] M (fun w M'=>∃ r:Int,w=I r /\ (0<=r ↔ (List.range n).any p=true) /\ Grow M M'):=by
 refine z6 kq150 rfl ?_
 dsimp only [xq150,qm,ql,qi,qa,qn,qB,qC,qo,qq,zipE,Nat.reduceAdd]
 (repeat' first|with_reducible intro _|refine sv ?_|refine sc ?_ ?_<;>(intro h;try exact sz h)|refine sg ?_ ?_<;>(intro h;first|exact sz h|refine sy h ?_)|exact sq|fail)
 refine zc (fun m E ms M'=>∃ k:Nat,m=n - k /\ k<=n /\ ms=[] /\ Has E [(0,.slice a n f e),(1,.func (.func g) fi ca),(7,I n),(8,I k)] /\ Grow M M' /\ ∀ j,j < k->p j=false)
  ?_ n _ _ _ ⟨0,by omega,by omega,rfl,.cons rfl (.cons rfl (.cons rfl (.cons rfl .nil))),xg,fun j hj=>absurd hj (Nat.not_lt_zero _)⟩
 rintro m E ms M1 ⟨k,rfl,hk,rfl,hE,hg,hall⟩
 have hle:=hg.le
 refine zw hE ?_
 by_cases hlast:k=n
 ·subst hlast
  (repeat' first|with_reducible intro _|refine sv ?_|refine sc ?_ ?_<;>(intro h;try exact sz h)|refine sg ?_ ?_<;>(intro h;first|exact sz h|refine sy h ?_)|exact sq|fail)
  (refine kf ?_)
  refine ⟨-1,rfl,?_,xg⟩
  rw [z1y]
  exact ⟨fun h=>by omega,fun ⟨j,h1,h2⟩=>by rw [hall j h1] at h2;cases h2⟩
 have hlt:k < n:=by omega
 obtain ⟨i,o,rfl,hr⟩:=hread k hlt
 have hr0:=hr.grow hg
 have hc:=hp k hlt M1 hg
 cases hpk:p k with
 | true =>
  rw [hpk] at hc
  (have hrd0:=hr0;repeat' first|with_reducible intro _|refine sv ?_|refine sc ?_ ?_<;>(intro h;try exact sz h)|(with_reducible first|apply za|apply z8|apply z5);exact gd;exact rfl;exact rfl;exact hc|refine sg ?_ ?_<;>(intro h;first|exact sz h|refine sy h ?_)|exact sq|fail)
  (refine kf ?_)
  refine ⟨k,rfl,?_,xg⟩
  rw [z1y]
  exact ⟨fun _=>⟨k,hlt,hpk⟩,fun _=>by omega⟩
 | false =>
  rw [hpk] at hc
  (have hrd0:=hr0;repeat' first|with_reducible intro _|refine sv ?_|refine sc ?_ ?_<;>(intro h;try exact sz h)|(with_reducible first|apply za|apply z8|apply z5);exact gd;exact rfl;exact rfl;exact hc|refine sg ?_ ?_<;>(intro h;first|exact sz h|refine sy h ?_)|exact sq|fail)
  refine zg (n - (k+1)) (by omega) ⟨k+1,rfl,by omega,rfl,.cons rfl (.cons rfl (.cons rfl (.cons rfl .nil))),xg,fun j hj=>?_⟩
  by_cases hjk:j=k
  ·subst hjk;exact hpk
  ·exact hall j (by omega)
theorem z1f {a:Option (Nat × Nat)} {n:Nat} {f:Bool} {e:Nat} {g:FuncId} {fi ca:List LV} {M:Mem} (elem:Nat->LV) (p:Nat->Bool) (hn:n<=1000000000000000)
  (hread:∀ k,k < n->∃ i o,a=some (i,o) /\ Rd1 M i (o+k*1) (elem k)) (hp:∀ k,k < n->∀ M',Grow M M'->CallOk Tryz.prog g (fi ++ [elem k] ++ ca) M' (fun w M''=>w=.bool (p k) /\ Grow M' M'')) :
  CallOk Tryz.prog 121 [.slice a n f e,.func (.func g) fi ca] M (fun w M'=>w=.bool ((List.range n).any p) /\ Grow M M'):=by
 refine z6 kq121 rfl ?_
 dsimp only [xq121,qm,qc,qC,qo,qq,zipE,Nat.reduceAdd]
 have hc:=z6c (f:=f) (e:=e) elem p hn hread hp
 (repeat' first|with_reducible intro _|refine sv ?_|refine sc ?_ ?_<;>(intro h;try exact sz h)|(with_reducible first|apply zk|apply zu|apply z00);exact gd;exact rfl;exact rfl;exact hc|refine sg ?_ ?_<;>(intro h;first|exact sz h|refine sy h ?_)|exact sq|fail)
 rename_i hq
 obtain ⟨r,rfl,hr,hg⟩:=hq
 (repeat' first|with_reducible intro _|refine sv ?_|refine sc ?_ ?_<;>(intro h;try exact sz h)|refine sg ?_ ?_<;>(intro h;first|exact sz h|refine sy h ?_)|exact sq|fail)
 (refine kf ?_)
 refine ⟨?_,hg⟩
 exact congrArg LV.bool (by rw [Bool.eq_iff_iff,decide_eq_true_iff];exact hr)
set_option maxHeartbeats 1000000 in
theorem z7n {a:Option (Nat × Nat)} {n:Nat} {f:Bool} {e:Nat} {g:FuncId} {fi ca:List LV} {M:Mem} (elem:Nat->List LV) (p:Nat->Bool) (hn:n<=1000000000000000)
  (hread:∀ k,k < n->∃ i o,a=some (i,o) /\ Rd M i (o+k*2) 2 (elem k)) (hp:∀ k,k < n->∀ M',Grow M M'->CallOk Tryz.prog g (fi ++ [.agg (elem k)] ++ ca) M' (fun w M''=>w=.bool (p k) /\ Grow M' M'')) :
  CallOk Tryz.prog 173 [.slice a n f e,.func (.func g) fi ca] M (fun w M'=>∃ r:Int,w=I r /\ (0<=r ↔ (List.range n).any p=true) /\ Grow M M'):=by
 refine z6 kq173 rfl ?_
 dsimp only [xq173,qm,qL,qi,qa,qn,qB,qC,qo,qq,zipE,Nat.reduceAdd]
 (repeat' first|with_reducible intro _|refine sv ?_|refine sc ?_ ?_<;>(intro h;try exact sz h)|refine sg ?_ ?_<;>(intro h;first|exact sz h|refine sy h ?_)|exact sq|fail)
 refine zc (fun m E ms M'=>∃ k:Nat,m=n - k /\ k<=n /\ ms=[] /\ Has E [(0,.slice a n f e),(1,.func (.func g) fi ca),(7,I n),(8,I k)] /\ Grow M M' /\ ∀ j,j < k->p j=false)
  ?_ n _ _ _ ⟨0,by omega,by omega,rfl,.cons rfl (.cons rfl (.cons rfl (.cons rfl .nil))),xg,fun j hj=>absurd hj (Nat.not_lt_zero _)⟩
 rintro m E ms M1 ⟨k,rfl,hk,rfl,hE,hg,hall⟩
 have hle:=hg.le
 refine zw hE ?_
 by_cases hlast:k=n
 ·subst hlast
  (repeat' first|with_reducible intro _|refine sv ?_|refine sc ?_ ?_<;>(intro h;try exact sz h)|refine sg ?_ ?_<;>(intro h;first|exact sz h|refine sy h ?_)|exact sq|fail)
  (refine kf ?_)
  refine ⟨-1,rfl,?_,xg⟩
  rw [z1y]
  exact ⟨fun h=>by omega,fun ⟨j,h1,h2⟩=>by rw [hall j h1] at h2;cases h2⟩
 have hlt:k < n:=by omega
 obtain ⟨i,o,rfl,hr⟩:=hread k hlt
 have hr0:=hr.grow hg
 have hc:=hp k hlt M1 hg
 cases hpk:p k with
 | true =>
  rw [hpk] at hc
  (have hrd0:=hr0;repeat' first|with_reducible intro _|refine sv ?_|refine sc ?_ ?_<;>(intro h;try exact sz h)|(with_reducible first|apply za|apply z8|apply z5);exact gd;exact rfl;exact rfl;exact hc|refine sg ?_ ?_<;>(intro h;first|exact sz h|refine sy h ?_)|exact sq|fail)
  (refine kf ?_)
  refine ⟨k,rfl,?_,xg⟩
  rw [z1y]
  exact ⟨fun _=>⟨k,hlt,hpk⟩,fun _=>by omega⟩
 | false =>
  rw [hpk] at hc
  (have hrd0:=hr0;repeat' first|with_reducible intro _|refine sv ?_|refine sc ?_ ?_<;>(intro h;try exact sz h)|(with_reducible first|apply za|apply z8|apply z5);exact gd;exact rfl;exact rfl;exact hc|refine sg ?_ ?_<;>(intro h;first|exact sz h|refine sy h ?_)|exact sq|fail)
  refine zg (n - (k+1)) (by omega) ⟨k+1,rfl,by omega,rfl,.cons rfl (.cons rfl (.cons rfl (.cons rfl .nil))),xg,fun j hj=>?_⟩
  by_cases hjk:j=k
  ·subst hjk;exact hpk
  ·exact hall j (by omega)
theorem z4p {a:Option (Nat × Nat)} {n:Nat} {f:Bool} {e:Nat} {g:FuncId} {fi ca:List LV} {M:Mem} (elem:Nat->List LV) (p:Nat->Bool) (hn:n<=1000000000000000)
  (hread:∀ k,k < n->∃ i o,a=some (i,o) /\ Rd M i (o+k*2) 2 (elem k)) (hp:∀ k,k < n->∀ M',Grow M M'->CallOk Tryz.prog g (fi ++ [.agg (elem k)] ++ ca) M' (fun w M''=>w=.bool (p k) /\ Grow M' M'')) :
  CallOk Tryz.prog 157 [.slice a n f e,.func (.func g) fi ca] M (fun w M'=>w=.bool ((List.range n).any p) /\ Grow M M'):=by
 refine z6 kq157 rfl ?_
 dsimp only [xq157,qm,qc,qC,qo,qq,zipE,Nat.reduceAdd]
 have hc:=z7n (f:=f) (e:=e) elem p hn hread hp
 (repeat' first|with_reducible intro _|refine sv ?_|refine sc ?_ ?_<;>(intro h;try exact sz h)|(with_reducible first|apply zk|apply zu|apply z00);exact gd;exact rfl;exact rfl;exact hc|refine sg ?_ ?_<;>(intro h;first|exact sz h|refine sy h ?_)|exact sq|fail)
 rename_i hq
 obtain ⟨r,rfl,hr,hg⟩:=hq
 (repeat' first|with_reducible intro _|refine sv ?_|refine sc ?_ ?_<;>(intro h;try exact sz h)|refine sg ?_ ?_<;>(intro h;first|exact sz h|refine sy h ?_)|exact sq|fail)
 (refine kf ?_)
 refine ⟨?_,hg⟩
 exact congrArg LV.bool (by rw [Bool.eq_iff_iff,decide_eq_true_iff];exact hr)
theorem SlL.elems {α:Type} {sz:Nat} {enc:α->List LV} {M:Mem} {a:Option (Nat × Nat)} {ll:List (List α)} (h:SlL sz enc M a ll) :
  ∃ (ea:Nat->Option (Nat × Nat)) (ef:Nat->Bool),∀ k (hk:k < ll.length),(∃ i o,a=some (i,o) /\ Rd1 M i (o+k*1) (.slice (ea k) ll[k].length (ef k) sz)) /\ SlA sz enc M (ea k) ll[k] /\ ll[k].length<=1000000000000000:=by
 have key:∀ k:Nat,∃ (x:Option (Nat × Nat) × Bool),∀ hk:k < ll.length,(∃ i o,a=some (i,o) /\ Rd1 M i (o+k*1) (.slice x.1 ll[k].length x.2 sz)) /\ SlA sz enc M x.1 ll[k] /\ ll[k].length<=1000000000000000:=fun k=>by
  by_cases hk:k < ll.length
  ·obtain ⟨i,o,h1,h2⟩:=h.resolve_left (fun e=>by subst e;simp at hk)
   obtain ⟨a',f',g1,g2,g3⟩:=h2 k hk
   exact ⟨(a',f'),fun _=>⟨⟨i,o,h1,g1⟩,g2,g3⟩⟩
  ·exact ⟨(none,true),fun hk'=>absurd hk' hk⟩
 have ⟨g,hg⟩:=Classical.axiomOfChoice key
 exact ⟨fun k=>(g k).1,fun k=>(g k).2,fun k hk=>hg k hk⟩
theorem zgg {a:Option (Nat × Nat)} {f:Bool} {l:List Pt} {M:Mem} (hl:SlA 2 ptc M a l) (hlen:l.length<=1000000000000000):CallOk Tryz.prog 156 [.slice a l.length f 2] M (fun w M'=>w=.bool (decide (eFd l ≠ 0)) /\ Grow M M'):=by
 refine z6 kq156 rfl ?_
 dsimp only [xq156,qm,qc,qC,qo,qq,zipE,Nat.reduceAdd]
 have hcf:=fun M' (hg:Grow M M')=>z5b (f:=f) (hl.grow hg) hlen
 (repeat' first|with_reducible intro _|refine sv ?_|refine sc ?_ ?_<;>(intro h;try exact sz h)|(with_reducible first|apply za|apply z8|apply z5);exact gd;exact rfl;exact rfl;exact hcf _ (xg)|refine sg ?_ ?_<;>(intro h;first|exact sz h|refine sy h ?_)|exact sq|fail)
 (refine kf ?_)
 exact ⟨rfl,xg⟩
theorem zgh (p:Pt) (M:Mem):CallOk Tryz.prog 158 [ptv p] M (fun w M'=>w=.bool (decide (ePt p.1 p.2 ≠ 0)) /\ Grow M M'):=by
 refine z6 kq158 rfl ?_
 dsimp only [xq158,qm,qL,qb,qc,qC,qo,qq,zipE,Nat.reduceAdd]
 (repeat' first|with_reducible intro _|refine sv ?_|refine sc ?_ ?_<;>(intro h;try exact sz h)|(with_reducible first|apply za|apply z8|apply z5);exact gd;exact rfl;exact rfl;exact zz _ _ _|refine sg ?_ ?_<;>(intro h;first|exact sz h|refine sy h ?_)|exact sq|fail)
 (refine kf ?_)
 exact ⟨rfl,xg⟩
theorem z93 (p:Pt × Int) (M:Mem):CallOk Tryz.prog 42 [.agg [I p.1.1,I p.1.2,I p.2]] M (fun w M'=>w=.bool (decide (PlP p.1 /\ 0<=p.2 /\ p.2<=7)) /\ Grow M M'):=by
 refine z6 kq42 rfl ?_
 dsimp only [xq42,qm,qf,qL,qb,qc,qC,qg,qo,qq,qZ,zipE,Nat.reduceAdd]
 by_cases hp:PlP p.1
 ·have he:ePt p.1.1 p.1.2=0:=if_pos hp
  (repeat' first|with_reducible intro _|refine sv ?_|refine sc ?_ ?_<;>(intro h;try exact sz h)|(with_reducible first|apply zj|apply zi|apply zd);exact gd;exact rfl;exact rfl;exact z0m _ _ _ _|(with_reducible first|apply za|apply z8|apply z5);exact gd;exact rfl;exact rfl;exact zz _ _ _|refine sg ?_ ?_<;>(intro h;first|exact sz h|refine sy h ?_)|exact sq|fail)
  all_goals (refine kf ?_)
  all_goals refine ⟨?_,xg⟩
  all_goals exact z39 ⟨fun h=>⟨hp,h⟩,fun h=>h.2⟩
 ·have he:ePt p.1.1 p.1.2=10:=if_neg hp
  (repeat' first|with_reducible intro _|refine sv ?_|refine sc ?_ ?_<;>(intro h;try exact sz h)|(with_reducible first|apply za|apply z8|apply z5);exact gd;exact rfl;exact rfl;exact zz _ _ _|refine sg ?_ ?_<;>(intro h;first|exact sz h|refine sy h ?_)|exact sq|fail)
  all_goals (refine kf ?_)
  all_goals refine ⟨?_,xg⟩
  all_goals exact lb_f (fun h=>hp h.1)
theorem zbo {r:Rg} (h:RgOk r /\ (tightO r).isSome=true):(tightF r).2=0:=by
 unfold tightF
 rw [if_pos h.1]
 obtain ⟨t,ht⟩:=Option.isSome_iff_exists.1 h.2
 rw [ht]
theorem zbn {r:Rg} (h:¬ (RgOk r /\ (tightO r).isSome=true)):(tightF r).2 ≠ 0:=by
 unfold tightF
 by_cases h1:RgOk r
 ·rw [if_pos h1]
  cases ht:tightO r with
  | none=>decide
  | some t=>exact absurd ⟨h1,by rw [ht];rfl⟩ h
 ·rw [if_neg h1];decide
set_option maxHeartbeats 8000000 in
theorem zjg {A:CrA} {s:Cr} {M:Mem} (hM:CrM M A s):CallOk Tryz.prog 129 [crv A s] M (fun w M'=>w=.bool (crB s) /\ Grow M M'):=by
 refine z6 kq129 rfl ?_
 dsimp only [xq129,qm,qf,ql,qL,qi,qb,qe,qc,qa,qn,qB,qC,qg,qS,qo,qq,qZ,zipE,Nat.reduceAdd]
 obtain ⟨aL,fL,aF,fF,aB,fB,aO,fO,eF⟩:=A
 have hnl:=hM.nl
 have hnf:=hM.nf
 have hnb:=hM.nb
 have hno:=hM.no
 by_cases h0:(1<=s.lines.length /\ s.lines.length<=5) /\ s.fields.length<=4 /\ s.buoys.length<=4 /\ s.opn.length=s.lines.length
 rotate_left
 ·have hb:crB s=false:=z2f fun hc=>h0 ⟨⟨hc.n1,hc.n5⟩,hc.nf,hc.nb,hc.no⟩
  have h1:¬ ((1<=(s.lines.length:Int) /\ (s.lines.length:Int)<=5) /\ (s.fields.length:Int)<=4 /\ (s.buoys.length:Int)<=4 /\ (s.opn.length:Int)=s.lines.length):=by omega
  (repeat' first|with_reducible intro _|refine sv ?_|refine sc ?_ ?_<;>(intro h;try exact sz h)|(with_reducible first|apply zj|apply zi|apply zd);exact gd;exact rfl;exact rfl;exact z0m _ _ _ _|refine sg ?_ ?_<;>(intro h;first|exact sz h|refine sy h ?_)|exact sq|fail)
  all_goals first
   |(exfalso;omega)
   |((refine kf ?_)
     exact ⟨by rw [hb];rfl,xg⟩)
 have h1:(1<=(s.lines.length:Int) /\ (s.lines.length:Int)<=5) /\ (s.fields.length:Int)<=4 /\ (s.buoys.length:Int)<=4 /\ (s.opn.length:Int)=s.lines.length:=by omega
 (repeat' first|with_reducible intro _|refine sv ?_|refine sc ?_ ?_<;>(intro h;try exact sz h)|(with_reducible first|apply zj|apply zi|apply zd);exact gd;exact rfl;exact rfl;exact z0m _ _ _ _|refine sg ?_ ?_<;>(intro h;first|exact sz h|refine sy h ?_)|exact sq|fail)
 rename_i n1 M1 hn1 e1 e2 _ _ _
 refine zc (fun n E ms M'=>∃ k:Nat,n=s.lines.length - k /\ k<=s.lines.length /\ ms=[] /\ Has E [(1,.ptr (some (n1,0))),(34,.slice aL s.lines.length fL 4),(35,I s.lines.length),(36,I k)] /\ Grow M M' /\ M1.next<=M'.next /\ At M' n1 (.cells true (crc ⟨aL,fL,aF,fF,aB,fB,aO,fO,eF⟩ s) 35) /\
   ∀ j (hj:j < s.lines.length),j < k->LineOk s.lines[j] /\ WinOk (s.opn[j]'(by omega))) ?_ s.lines.length _ _ _
  ⟨0,by omega,by omega,rfl,.cons rfl (.cons rfl (.cons rfl (.cons rfl .nil))),xg,by omega,xm,fun j hj h=>absurd h (Nat.not_lt_zero _)⟩
 rintro n E ms M2 ⟨k,rfl,hk,rfl,hE,hG,hle1,a1,hall⟩
 have hle:=hG.le
 refine zw hE ?_
 by_cases hlast:k=s.lines.length
 rotate_left
 ·have hlt:k < s.lines.length:=by omega
  have hlt2:k < s.opn.length:=by omega
  obtain ⟨i,o,rfl,hr⟩:=(show SlA 4 legc M aL s.lines from hM.lines).resolve_left (fun e=>by rw [e] at hlt;simp at hlt)
  obtain ⟨i2,o2,rfl,hr2⟩:=(show SlL 2 bdc M aO s.opn from hM.opn).resolve_left (fun e=>by rw [e] at hlt2;simp at hlt2)
  obtain ⟨a',f',g1,g2,g3⟩:=hr2 k hlt2
  have r1:Rd M2 i (o+k*4) 4 (legc s.lines[k]):=(hr k hlt).grow hG
  have r2:Rd1 M2 i2 (o2+k*1) (.slice a' s.opn[k].length f' 2):=g1.grow hG
  have hw:=fun M' (hg:Grow M M')=>zgr (f:=f') (g2.grow hg) g3
  have hi1:=r1.2
  have hi2:=r2.2
  have hbad:¬ (LineOk s.lines[k] /\ WinOk s.opn[k])->crB s=false:=fun hn=>z2f fun hc=>hn ⟨hc.lines _ (List.getElem_mem hlt),hc.opn _ (List.getElem_mem hlt2)⟩
  have hgood:LineOk s.lines[k] /\ WinOk s.opn[k]->∀ j (hj:j < s.lines.length),j < k+1->LineOk s.lines[j] /\ WinOk (s.opn[j]'(by omega)):=fun hg j hj h=>by
   by_cases hjk:j=k
   ·subst hjk;exact hg
   ·exact hall j hj (by omega)
  clear hall
  by_cases q1:PlP s.lines[k].1
  ·have e1:ePt s.lines[k].1.1 s.lines[k].1.2=0:=if_pos q1
   by_cases q2:PlP s.lines[k].2
   ·have e2:ePt s.lines[k].2.1 s.lines[k].2.2=0:=if_pos q2
    by_cases q3:s.lines[k].1.1=s.lines[k].2.1 /\ s.lines[k].1.2=s.lines[k].2.2
    ·have hb:=hbad fun hh=>hh.1.2.2 (Prod.ext q3.1 q3.2)
     (have hrd0:=r1;have hrd1:=r2;repeat' first|with_reducible intro _|refine sv ?_|refine sc ?_ ?_<;>(intro h;try exact sz h)|(with_reducible first|apply za|apply z8|apply z5);exact gd;exact rfl;exact rfl;exact zz _ _ _|refine sg ?_ ?_<;>(intro h;first|exact sz h|refine sy h ?_)|exact sq|fail)
     all_goals (refine kf ?_)
     all_goals exact ⟨by rw [hb];rfl,xg⟩
    ·by_cases q4:WinOk s.opn[k]
     ·rw [zeg q4] at hw
      have hg:=hgood ⟨⟨q1,q2,fun e=>q3 (by rw [e];exact ⟨rfl,rfl⟩)⟩,q4⟩
      (have hrd0:=r1;have hrd1:=r2;repeat' first|with_reducible intro _|refine sv ?_|refine sc ?_ ?_<;>(intro h;try exact sz h)|(with_reducible first|apply za|apply z8|apply z5);exact gd;exact rfl;exact rfl;(first|exact zz _ _ _|exact hw _ (xg))|refine sg ?_ ?_<;>(intro h;first|exact sz h|refine sy h ?_)|exact sq|fail)
      refine zg (s.lines.length - (k+1)) (by omega) ⟨k+1,rfl,by omega,rfl,.cons rfl (.cons rfl (.cons rfl (.cons rfl .nil))),xg,by omega,xm,hg⟩
     ·have hb:=hbad fun hh=>q4 hh.2
      rw [zbs q4] at hw
      (have hrd0:=r1;have hrd1:=r2;repeat' first|with_reducible intro _|refine sv ?_|refine sc ?_ ?_<;>(intro h;try exact sz h)|(with_reducible first|apply za|apply z8|apply z5);exact gd;exact rfl;exact rfl;(first|exact zz _ _ _|exact hw _ (xg))|refine sg ?_ ?_<;>(intro h;first|exact sz h|refine sy h ?_)|exact sq|fail)
      all_goals (refine kf ?_)
      all_goals exact ⟨by rw [hb];rfl,xg⟩
   ·have e2:ePt s.lines[k].2.1 s.lines[k].2.2=10:=if_neg q2
    have hb:=hbad fun hh=>q2 hh.1.2.1
    (have hrd0:=r1;have hrd1:=r2;repeat' first|with_reducible intro _|refine sv ?_|refine sc ?_ ?_<;>(intro h;try exact sz h)|(with_reducible first|apply za|apply z8|apply z5);exact gd;exact rfl;exact rfl;exact zz _ _ _|refine sg ?_ ?_<;>(intro h;first|exact sz h|refine sy h ?_)|exact sq|fail)
    all_goals (refine kf ?_)
    all_goals exact ⟨by rw [hb];rfl,xg⟩
  ·have e1:ePt s.lines[k].1.1 s.lines[k].1.2=10:=if_neg q1
   have hb:=hbad fun hh=>q1 hh.1.1
   (have hrd0:=r1;have hrd1:=r2;repeat' first|with_reducible intro _|refine sv ?_|refine sc ?_ ?_<;>(intro h;try exact sz h)|(with_reducible first|apply za|apply z8|apply z5);exact gd;exact rfl;exact rfl;exact zz _ _ _|refine sg ?_ ?_<;>(intro h;first|exact sz h|refine sy h ?_)|exact sq|fail)
   all_goals (refine kf ?_)
   all_goals exact ⟨by rw [hb];rfl,xg⟩
 subst hlast
 (repeat' first|with_reducible intro _|refine sv ?_|refine sc ?_ ?_<;>(intro h;try exact sz h)|refine sg ?_ ?_<;>(intro h;first|exact sz h|refine sy h ?_)|exact sq|fail)
 have hfld:=fun M' (hg:Grow M M')=>(show SlL 2 ptc M aF s.fields from hM.fields).grow hg
 obtain ⟨ea,ef,hel⟩:=(show SlL 2 ptc M aF s.fields from hM.fields).elems
 have hbu:=show SlA 2 ptc M aB s.buoys from hM.buoys
 have hcF:=fun (M':Mem) (hg:Grow M M')=>z1f (a:=aF) (n:=s.fields.length) (f:=fF) (e:=eF) (g:=156) (fi:=[]) (ca:=[]) (M:=M') (fun k=>.slice (ea k) (s.fields.getD k []).length (ef k) 2) (fun k=>decide (eFd (s.fields.getD k []) ≠ 0)) hnf
  (fun k hk=>by obtain ⟨⟨i,o,h1,h2⟩,_⟩:=hel k hk;exact ⟨i,o,h1,by rw [ze hk];exact h2.grow hg⟩)
  (fun k hk M'' hg2=>by obtain ⟨_,h2,h3⟩:=hel k hk;rw [ze hk];exact zgg (h2.grow (hg.trans hg2)) h3)
 have hcB:=fun (M':Mem) (hg:Grow M M')=>z4p (a:=aB) (n:=s.buoys.length) (f:=fB) (e:=2) (g:=158) (fi:=[]) (ca:=[]) (M:=M') (fun k=>ptc (s.buoys.getD k (0,0))) (fun k=>decide (ePt (s.buoys.getD k (0,0)).1 (s.buoys.getD k (0,0)).2 ≠ 0)) hnb
  (fun k hk=>by
   obtain ⟨i,o,h1,h2⟩:=hbu.resolve_left (fun e=>by rw [e] at hk;simp at hk)
   exact ⟨i,o,h1,by rw [ze hk];exact (h2 k hk).grow hg⟩)
  (fun k hk M'' hg2=>zgh _ _)
 have hokF:((List.range s.fields.length).any fun k=>decide (eFd (s.fields.getD k []) ≠ 0))=true ↔ ¬ ∀ l ∈ s.fields,FieldOk l:=by
  rw [z1y]
  constructor
  ·rintro ⟨k,hk,h2⟩ hall2
   rw [ze hk] at h2
   exact absurd (if_pos (hall2 _ (List.getElem_mem hk))) (of_decide_eq_true h2)
  ·intro hn
   refine Classical.byContradiction fun hc=>hn fun l hl=>?_
   obtain ⟨k,hk,rfl⟩:=List.getElem_of_mem hl
   refine Classical.byContradiction fun hf=>hc ⟨k,hk,?_⟩
   rw [ze hk]
   exact decide_eq_true (by unfold eFd;rw [if_neg hf];decide)
 have hokB:((List.range s.buoys.length).any fun k=>decide (ePt (s.buoys.getD k (0,0)).1 (s.buoys.getD k (0,0)).2 ≠ 0))=true ↔ ¬ ∀ p ∈ s.buoys,PlP p:=by
  rw [z1y]
  constructor
  ·rintro ⟨k,hk,h2⟩ hall2
   rw [ze hk] at h2
   exact absurd (if_pos (hall2 _ (List.getElem_mem hk))) (of_decide_eq_true h2)
  ·intro hn
   refine Classical.byContradiction fun hc=>hn fun l hl=>?_
   obtain ⟨k,hk,rfl⟩:=List.getElem_of_mem hl
   refine Classical.byContradiction fun hf=>hc ⟨k,hk,?_⟩
   rw [ze hk]
   exact decide_eq_true (by unfold ePt;rw [if_neg hf];decide)
 have hlines:∀ l ∈ s.lines,LineOk l:=fun l hl=>by
  obtain ⟨k,hk,rfl⟩:=List.getElem_of_mem hl
  exact (hall k hk hk).1
 have hopn:∀ l ∈ s.opn,WinOk l:=fun l hl=>by
  obtain ⟨k,hk,rfl⟩:=List.getElem_of_mem hl
  exact (hall k (by omega) (by omega)).2
 generalize (List.range s.fields.length).any (fun k=>decide (eFd (s.fields.getD k []) ≠ 0))=bF at hokF hcF
 generalize (List.range s.buoys.length).any (fun k=>decide (ePt (s.buoys.getD k (0,0)).1 (s.buoys.getD k (0,0)).2 ≠ 0))=bB at hokB hcB
 cases bF with
 | true =>
  have hb:crB s=false:=z2f fun hc=>hokF.1 rfl hc.fields
  (repeat' first|with_reducible intro _|refine sv ?_|refine sc ?_ ?_<;>(intro h;try exact sz h)|(with_reducible first|apply za|apply z8|apply z5);exact gd;exact rfl;exact rfl;exact hcF _ (xg)|refine sg ?_ ?_<;>(intro h;first|exact sz h|refine sy h ?_)|exact sq|fail)
  all_goals (refine kf ?_)
  all_goals exact ⟨by rw [hb];rfl,xg⟩
 | false =>
 cases bB with
 | true =>
  have hb:crB s=false:=z2f fun hc=>hokB.1 rfl hc.buoys
  (repeat' first|with_reducible intro _|refine sv ?_|refine sc ?_ ?_<;>(intro h;try exact sz h)|(with_reducible first|apply za|apply z8|apply z5);exact gd;exact rfl;exact rfl;(first|exact hcF _ (xg)|exact hcB _ (xg))|refine sg ?_ ?_<;>(intro h;first|exact sz h|refine sy h ?_)|exact sq|fail)
  all_goals (refine kf ?_)
  all_goals exact ⟨by rw [hb];rfl,xg⟩
 | false =>
 have hf1:∀ l ∈ s.fields,FieldOk l:=Classical.byContradiction fun hc=>by have:=hokF.2 hc;cases this
 have hb1:∀ p ∈ s.buoys,PlP p:=Classical.byContradiction fun hc=>by have:=hokB.2 hc;cases this
 by_cases hT:RgOk s.spread /\ (tightO s.spread).isSome=true
 rotate_left
 ·have hb:crB s=false:=z2f fun hc=>hT ⟨hc.spread.1,hc.spread.2.1⟩
  have ht:=zbn hT
  (repeat' first|with_reducible intro _|refine sv ?_|refine sc ?_ ?_<;>(intro h;try exact sz h)|(with_reducible first|apply za|apply z8|apply z5);exact gd;exact rfl;exact rfl;(first|exact hcF _ (xg)|exact hcB _ (xg)|exact z6e s.spread _)|refine sg ?_ ?_<;>(intro h;first|exact sz h|refine sy h ?_)|exact sq|fail)
  all_goals (refine kf ?_)
  all_goals exact ⟨by rw [hb];rfl,xg⟩
 have ht:=zbo hT
 have hrg:=hT.1
 dsimp only [RgOk,fitsP] at hrg
 by_cases hW:s.spread.1.2 - s.spread.1.1<=256 /\ s.spread.2.1.2 - s.spread.2.1.1<=256
 rotate_left
 ·have hb:crB s=false:=z2f fun hc=>hW ⟨hc.spread.2.2.1,hc.spread.2.2.2⟩
  (repeat' first|with_reducible intro _|refine sv ?_|refine sc ?_ ?_<;>(intro h;try exact sz h)|(with_reducible first|apply za|apply z8|apply z5);exact gd;exact rfl;exact rfl;(first|exact hcF _ (xg)|exact hcB _ (xg)|exact z6e s.spread _)|refine sg ?_ ?_<;>(intro h;first|exact sz h|refine sy h ?_)|exact sq|fail)
  all_goals first
   |(exfalso;omega)
   |((refine kf ?_)
     exact ⟨by rw [hb];rfl,xg⟩)
 by_cases hp:PlP s.start.1 /\ 0<=s.start.2 /\ s.start.2<=7
 rotate_left
 ·have hb:crB s=false:=z2f fun hc=>hp hc.start
  (repeat' first|with_reducible intro _|refine sv ?_|refine sc ?_ ?_<;>(intro h;try exact sz h)|(with_reducible first|apply zj|apply zi|apply zd);exact gd;exact rfl;exact rfl;exact z0m _ _ _ _|(with_reducible first|apply za|apply z8|apply z5);exact gd;exact rfl;exact rfl;(first|exact hcF _ (xg)|exact hcB _ (xg)|exact z6e s.spread _|exact z93 s.start _)|refine sg ?_ ?_<;>(intro h;first|exact sz h|refine sy h ?_)|exact sq|fail)
  all_goals first
   |(exact absurd (by assumption) hp)
   |((refine kf ?_)
     exact ⟨by rw [hb];rfl,xg⟩)
 by_cases hS:(1<=s.speed /\ s.speed<=1000) /\ (0<=s.turn /\ s.turn<=1000)
 ·have hb:crB s=true:=zjs ⟨h0.1.1,h0.1.2,h0.2.1,h0.2.2.1,h0.2.2.2,hlines,hopn,hf1,hb1,⟨hT.1,hT.2,hW.1,hW.2⟩,hp,hS.1,hS.2⟩
  (repeat' first|with_reducible intro _|refine sv ?_|refine sc ?_ ?_<;>(intro h;try exact sz h)|(with_reducible first|apply zj|apply zi|apply zd);exact gd;exact rfl;exact rfl;exact z0m _ _ _ _|(with_reducible first|apply za|apply z8|apply z5);exact gd;exact rfl;exact rfl;(first|exact hcF _ (xg)|exact hcB _ (xg)|exact z6e s.spread _|exact z93 s.start _)|refine sg ?_ ?_<;>(intro h;first|exact sz h|refine sy h ?_)|exact sq|fail)
  all_goals first
   |(exact absurd hp (by assumption))
   |((refine kf ?_)
     refine ⟨?_,xg⟩
     rw [hb]
     exact congrArg LV.bool (decide_eq_true hS.2))
 ·have hb:crB s=false:=z2f fun hc=>hS ⟨hc.speed,hc.turn⟩
  (repeat' first|with_reducible intro _|refine sv ?_|refine sc ?_ ?_<;>(intro h;try exact sz h)|(with_reducible first|apply zj|apply zi|apply zd);exact gd;exact rfl;exact rfl;exact z0m _ _ _ _|(with_reducible first|apply za|apply z8|apply z5);exact gd;exact rfl;exact rfl;(first|exact hcF _ (xg)|exact hcB _ (xg)|exact z6e s.spread _|exact z93 s.start _)|refine sg ?_ ?_<;>(intro h;first|exact sz h|refine sy h ?_)|exact sq|fail)
  all_goals first
   |(exact absurd hp (by assumption))
   |((refine kf ?_)
     refine ⟨?_,xg⟩
     rw [hb]
     first|rfl|exact congrArg LV.bool (decide_eq_false fun ht=>hS ⟨by assumption,ht⟩))
noncomputable def eCrB (s:Cr):Int:=if crB s=true then 0 else 40
theorem z8u {A:CrA} {s:Cr} {M:Mem} (hM:CrM M A s):CallOk Tryz.prog 94 [crv A s] M (fun w M'=>w=I (eCrB s) /\ Grow M M'):=by
 refine z6 kq94 rfl ?_
 dsimp only [xq94,qL,qi,qb,qc,qo,qq,zipE,Nat.reduceAdd]
 have hc:=fun M' (hg:Grow M M')=>zjg (hM.grow hg)
 (repeat' first|with_reducible intro _|refine sv ?_|refine sc ?_ ?_<;>(intro h;try exact sz h)|(with_reducible first|apply za|apply z8|apply z5);exact gd;exact rfl;exact rfl;exact hc _ (xg)|refine sg ?_ ?_<;>(intro h;first|exact sz h|refine sy h ?_)|exact sq|fail)
 all_goals (refine kf ?_)
 all_goals refine ⟨?_,xg⟩
 ·unfold eCrB;rw [if_neg (by rw [h];decide)];rfl
 ·unfold eCrB;rw [if_pos h];rfl
theorem zgp (p:Pt × Int) (M:Mem):CallOk Tryz.prog 45 [.agg [I p.1.1,I p.1.2,I p.2]] M (fun w M'=>w=.bool (decide (PlP p.1 /\ 0<=p.2 /\ p.2<=7)) /\ Grow M M'):=by
 refine z6 kq45 rfl ?_
 dsimp only [xq45,qm,qf,qL,qb,qc,qg,qo,qq,qZ,zipE,Nat.reduceAdd]
 by_cases hp:PlP p.1
 ·have hp':Pl p.1.1 p.1.2:=hp
  (repeat' first|with_reducible intro _|refine sv ?_|refine sc ?_ ?_<;>(intro h;try exact sz h)|(with_reducible first|apply zj|apply zi|apply zd);exact gd;exact rfl;exact rfl;exact z0b _ _ _ _|(with_reducible first|apply za|apply z8|apply z5);exact gd;exact rfl;exact rfl;exact z1g _ _ _|refine sg ?_ ?_<;>(intro h;first|exact sz h|refine sy h ?_)|exact sq|fail)
  all_goals first
   |(exfalso;omega)
   |((refine kf ?_)
     refine ⟨?_,xg⟩
     exact z39 ⟨fun h=>⟨hp,h⟩,fun h=>h.2⟩)
 ·have hp':¬ Pl p.1.1 p.1.2:=hp
  (repeat' first|with_reducible intro _|refine sv ?_|refine sc ?_ ?_<;>(intro h;try exact sz h)|(with_reducible first|apply zj|apply zi|apply zd);exact gd;exact rfl;exact rfl;exact z0b _ _ _ _|(with_reducible first|apply za|apply z8|apply z5);exact gd;exact rfl;exact rfl;exact z1g _ _ _|refine sg ?_ ?_<;>(intro h;first|exact sz h|refine sy h ?_)|exact sq|fail)
  all_goals first
   |(exact absurd (by assumption) hp')
   |((refine kf ?_)
     refine ⟨?_,xg⟩
     exact lb_f (fun h=>hp h.1))
abbrev chc (A:CrA) (s:Cr) (pm:Nat):List LV:=[.slice A.aL s.lines.length A.fL 4,.slice A.aF s.fields.length A.fF A.eF,.slice A.aB s.buoys.length A.fB 2,I s.spread.1.1,I s.spread.1.2,I s.spread.2.1.1,I s.spread.2.1.2,I s.spread.2.2.1.1,I s.spread.2.2.1.2,I s.spread.2.2.2.1,I s.spread.2.2.2.2,
 I s.start.1.1,I s.start.1.2,I s.start.2,I s.speed,I s.turn,.slice A.aO s.opn.length A.fO 1,.map (some pm)]
abbrev wayw (a b:Pt):LV:=.agg [I a.1,I a.2,I b.1,I b.2]
abbrev wayv (q:Pt × Pt):LV:=wayw q.1 q.2
def KnM (M:Mem) (s:Cr) (pm:Nat):Prop:=∃ L:List ((Pt × Pt) × Bool),At M pm (.map (encM wayv .bool L)) /\ ∀ p ∈ L,p.2=clearF s p.1.1 p.1.2
structure ChM (M:Mem) (A:CrA) (s:Cr) (pc pm:Nat):Prop where
 cr:CrM M A s
 cells:At M pc (.cells true (chc A s pm) 128)
 ne:pc ≠ pm
 known:KnM M s pm
theorem zge {A:CrA} {s:Cr} {M:Mem} (hM:CrM M A s):CallOk Tryz.prog 41 [crv A s] M (fun w M'=>Grow M M' /\ ((¬ CrOk s /\ w=.tup [.ptr none,I 40]) ∨ (CrOk s /\ ∃ pc pm,w=.tup [.ptr (some (pc,0)),I 0] /\ ChM M' A s pc pm /\ M.next<=pc /\ M.next<=pm))):=by
 refine z6 kq41 rfl ?_
 dsimp only [xq41,qm,qL,qi,qb,qc,qC,qo,qq,qZ,qN,zipE,Nat.reduceAdd]
 have hc:=fun M' (hg:Grow M M')=>z8u (hM.grow hg)
 by_cases hok:CrOk s
 ·have he:eCrB s=0:=if_pos (zjs hok)
  rw [he] at hc
  (repeat' first|with_reducible intro _|refine sv ?_|refine sc ?_ ?_<;>(intro h;try exact sz h)|(with_reducible first|apply za|apply z8|apply z5);exact gd;exact rfl;exact rfl;exact hc _ (xg)|refine sg ?_ ?_<;>(intro h;first|exact sz h|refine sy h ?_)|exact sq|fail)
  (refine kf ?_)
  exact ⟨xg,.inr ⟨hok,_,_,rfl,⟨hM.grow (xg),xm,by omega,[],xm,fun p hp=>by cases hp⟩,by omega,by omega⟩⟩
 ·have he:eCrB s=40:=if_neg (by rw [z2f hok];decide)
  rw [he] at hc
  (repeat' first|with_reducible intro _|refine sv ?_|refine sc ?_ ?_<;>(intro h;try exact sz h)|(with_reducible first|apply za|apply z8|apply z5);exact gd;exact rfl;exact rfl;exact hc _ (xg)|refine sg ?_ ?_<;>(intro h;first|exact sz h|refine sy h ?_)|exact sq|fail)
  (refine kf ?_)
  exact ⟨xg,.inl ⟨hok,rfl⟩⟩
theorem z23 (q:Pt × Pt):keyOk Tryz.prog 10000 147 (wayv q)=true:=by kernel_rfl
theorem zc8 (a b:Pt × Pt):eqL Tryz.prog Op.maxDepth 147 (wayv a) (wayv b)=some (decide (a=b)):=by
 refine z66 6 Op.maxDepth 147 [0,1,2,3] (by decide) (by kernel_rfl) _ _ _ (fun N hN=>?_) ?_
 ·have h4:szOf Tryz.prog 147=some 4:=by kernel_rfl
  rw [h4] at hN
  cases hN
  exact ⟨Nat.le_refl _,Nat.le_refl _⟩
 ·show some (decide (a.1.1=b.1.1) && (decide (a.1.2=b.1.2) && (decide (a.2.1=b.2.1) && (decide (a.2.2=b.2.2) && true))))=_
  congr 1
  rw [Bool.eq_iff_iff]
  simp only [Bool.and_eq_true,decide_eq_true_eq,and_true]
  exact ⟨fun ⟨h1,h2,h3,h4⟩=>Prod.ext (Prod.ext h1 h2) (Prod.ext h3 h4),fun h=>by rw [h];exact ⟨rfl,rfl,rfl,rfl⟩⟩
set_option maxHeartbeats 1000000 in
theorem zgq {A:CrA} {s:Cr} {pc pm:Nat} {a b:Pt} {M:Mem} (hC:At M pc (.cells true (chc A s pm) 128)) (hs:1<=s.speed /\ s.speed<=1000) (ha:PlP a) (hb:PlP b) :
  CallOk Tryz.prog 78 [.ptr (some (pc,0)),wayw a b] M (fun w M'=>w=I (stepsF s.speed a b) /\ Grow M M'):=by
 have hd:=zc6 ha hb
 have hpc:=hC.2
 have hn:0<=distF a b /\ distF a b<=8589934592:=by unfold distF;omega
 have hsq:=z4h hn.1
 have hsb:=zlj (B:=100000) hn.1 (by omega) (by omega)
 have hm:=z0o (a:=sqF (distF a b)) (b:=sqF (distF a b)) (A:=100000) (B:=100000) (by omega) (by omega)
 unfold stepsF sqU
 unfold distF at *
 dsimp only [PlP,Pl] at ha hb
 refine z6 kq78 rfl ?_
 dsimp only [xq78,qm,qf,ql,qi,qb,qe,qc,qB,qC,qo,qk,qK,qq,zipE,Nat.reduceAdd]
 (repeat' first|with_reducible intro _|refine sv ?_|refine sc ?_ ?_<;>(intro h;try exact sz h)|(with_reducible first|apply zj|apply zi|apply zd);exact gd;exact rfl;exact rfl;exact znz _ (by omega) _|refine sg ?_ ?_<;>(intro h;first|exact sz h|refine sy h ?_)|exact sq|fail)
 all_goals (refine kf ?_)
 all_goals refine ⟨?_,xg⟩
 ·rw [if_pos (by omega)];rfl
 ·rw [if_neg (by omega)];rfl
theorem zje {a:Option (Nat × Nat)} {f:Bool} {l:List Pt} {r:Rg} {p:Nat} {own:Bool} {ty:TypeId} {M:Mem} (hl:SlA 2 ptc M a l) (hlen:l.length<=1000000000000000) (hp:At M p (.cells own (rgc r) ty)) :
  CallOk Tryz.prog 122 [.slice a l.length f 2,.ptr (some (p,0))] M (fun w M'=>w=.bool (decide ((hitsF l r).2=0)) /\ Grow M M'):=by
 refine z6 kq122 rfl ?_
 dsimp only [xq122,qm,qL,qe,qc,qC,qS,qo,qq,qZ,zipE,Nat.reduceAdd]
 have hh:=fun M' (hg:Grow M M')=>znx (f:=f) (r:=r) (hl.grow hg) hlen
 (repeat' first|with_reducible intro _|refine sv ?_|refine sc ?_ ?_<;>(intro h;try exact sz h)|(with_reducible first|apply za|apply z8|apply z5);exact gd;exact rfl;exact rfl;exact hh _ (xg)|refine sg ?_ ?_<;>(intro h;first|exact sz h|refine sy h ?_)|exact sq|fail)
 (refine kf ?_)
 exact ⟨rfl,xg⟩
set_option maxHeartbeats 1000000 in
theorem zgf {A:CrA} {s:Cr} {pc pm:Nat} {a b:Pt} {M:Mem} (hC:ChM M A s pc pm) :
  CallOk Tryz.prog 83 [.ptr (some (pc,0)),wayw a b] M (fun w M'=>w=.bool (clearF s a b) /\ Keep (fun i=>i=pm) M M' /\ KnM M' s pm):=by
 obtain ⟨hM,hcell,hne,L,hL,hkn⟩:=hC
 have hpc:=hcell.2
 have hpm:=hL.2
 refine z6 kq83 rfl ?_
 dsimp only [xq83,qm,qf,ql,qL,qb,qe,qc,qC,qg,qS,qo,qk,qK,qq,qZ,zipE,Nat.reduceAdd]
 (repeat' first|with_reducible intro _|refine sv ?_|refine sc ?_ ?_<;>(intro h;try exact sz h)|refine sg ?_ ?_<;>(intro h;first|exact sz h|refine sy h ?_)|exact sq|fail)
 rename_i n3 M1 hn3 e1 e2
 have hL1:At M1 pm (.map (encM wayv .bool L)):=xm
 rcases z6s (P:=Tryz.prog) (ek:=wayv) (ev:=LV.bool) zc8 (a,b) L 0 with ⟨hf,hnew⟩|⟨j,v,hf,hin⟩
 ·refine zf1 (by exact gd) rfl rfl (z23 (a,b)) hL1 hf ?_
  have hfin:∀ (M2 M3:Mem) (v:Bool),v=clearF s a b->At M2 pm (.map (encM wayv .bool L))->Keep (fun i=>i=pm) M M2->Upd M2 pm (.map (encM wayv .bool L ++ [(wayw a b,.bool v)])) M3->Keep (fun i=>i=pm) M M3 /\ KnM M3 s pm:=fun M2 M3 v hv h2 hk hu=>by
   refine ⟨xk,L ++ [((a,b),v)],?_,fun p hp=>?_⟩
   ·rw [<-z3d];exact At.upd_same hu h2
   ·rcases List.mem_append.1 hp with hp|hp
    ·exact hkn p hp
    ·obtain rfl:=List.mem_singleton.1 hp;exact hv
  by_cases hsw:(sweptF s.spread a b).2=0
  ·obtain ⟨aL,fL,aF,fF,aB,fB,aO,fO,eF⟩:=A
   obtain ⟨ea,ef,hel⟩:=(show SlL 2 ptc M aF s.fields from hM.fields).elems
   have hnf:=hM.nf
   have hany:((List.range s.fields.length).any fun k=>decide ((hitsF (s.fields.getD k []) (sweptF s.spread a b).1).2=0))=s.fields.any fun f=>decide ((hitsF f (sweptF s.spread a b).1).2=0):=by
    rw [Bool.eq_iff_iff,z1y,List.any_eq_true]
    constructor
    ·rintro ⟨k,hk,h2⟩;rw [ze hk] at h2;exact ⟨_,List.getElem_mem hk,h2⟩
    ·rintro ⟨l,hl,h2⟩
     obtain ⟨k,hk,rfl⟩:=List.getElem_of_mem hl
     exact ⟨k,hk,by rw [ze hk];exact h2⟩
   (repeat' first|with_reducible intro _|refine sv ?_|refine sc ?_ ?_<;>(intro h;try exact sz h)|(with_reducible first|apply za|apply z8|apply z5);exact gd;exact rfl;exact rfl;exact zgb s.spread a b _|refine sg ?_ ?_<;>(intro h;first|exact sz h|refine sy h ?_)|exact sq|fail)
   rename_i M4 hg4 e4 n7 M5 hn7 e5 e6 M6 hu6 e7 a7
   have hg6:Grow M M6:=xg
   have hcc:=z1f (a:=aF) (n:=s.fields.length) (f:=fF) (e:=eF) (g:=122) (fi:=[]) (ca:=[.ptr (some (n7,0))]) (M:=M6) (fun k=>.slice (ea k) (s.fields.getD k []).length (ef k) 2) (fun k=>decide ((hitsF (s.fields.getD k []) (sweptF s.spread a b).1).2=0)) hnf
    (fun k hk=>by obtain ⟨⟨i,o,h1,h2⟩,_⟩:=hel k hk;exact ⟨i,o,h1,by rw [ze hk];exact h2.grow hg6⟩)
    (fun k hk M'' hg2=>by obtain ⟨_,h2,h3⟩:=hel k hk;rw [ze hk];exact zje (h2.grow (hg6.trans hg2)) h3 (a7.grow hg2))
   rw [hany] at hcc
   (repeat' first|with_reducible intro _|refine sv ?_|refine sc ?_ ?_<;>(intro h;try exact sz h)|(with_reducible first|apply za|apply z8|apply z5);exact gd;exact rfl;exact rfl;exact hcc|refine sg ?_ ?_<;>(intro h;first|exact sz h|refine sy h ?_)|exact sq|fail)
   refine z6k (by exact gd) rfl rfl rfl (z23 (a,b)) (xm) hf ?_
   intro M8 hu8 e8 a8
   have hv:(!(s.fields.any fun f=>decide ((hitsF f (sweptF s.spread a b).1).2=0)))=clearF s a b:=by unfold clearF;rw [decide_eq_true hsw,Bool.true_and]
   obtain ⟨hk8,hkn8⟩:=hfin _ M8 _ hv (xm) (xk) hu8
   (repeat' first|with_reducible intro _|refine sv ?_|refine sc ?_ ?_<;>(intro h;try exact sz h)|refine sg ?_ ?_<;>(intro h;first|exact sz h|refine sy h ?_)|exact sq|fail)
   (refine kf ?_)
   exact ⟨congrArg LV.bool hv,hk8,hkn8⟩
  ·(repeat' first|with_reducible intro _|refine sv ?_|refine sc ?_ ?_<;>(intro h;try exact sz h)|(with_reducible first|apply za|apply z8|apply z5);exact gd;exact rfl;exact rfl;exact zgb s.spread a b _|refine sg ?_ ?_<;>(intro h;first|exact sz h|refine sy h ?_)|exact sq|fail)
   refine z6k (by exact gd) rfl rfl rfl (z23 (a,b)) (xm) hf ?_
   intro M8 hu8 e8 a8
   have hv:false=clearF s a b:=by unfold clearF;rw [decide_eq_false hsw,Bool.false_and]
   obtain ⟨hk8,hkn8⟩:=hfin _ M8 _ hv (xm) (xk) hu8
   (repeat' first|with_reducible intro _|refine sv ?_|refine sc ?_ ?_<;>(intro h;try exact sz h)|refine sg ?_ ?_<;>(intro h;first|exact sz h|refine sy h ?_)|exact sq|fail)
   (refine kf ?_)
   exact ⟨congrArg LV.bool hv,hk8,hkn8⟩
 ·obtain rfl:v=clearF s a b:=hkn _ hin
  refine zf2 (by exact gd) rfl rfl (z23 (a,b)) hL1 hf ?_
  (repeat' first|with_reducible intro _|refine sv ?_|refine sc ?_ ?_<;>(intro h;try exact sz h)|refine sg ?_ ?_<;>(intro h;first|exact sz h|refine sy h ?_)|exact sq|fail)
  (refine kf ?_)
  exact ⟨rfl,xk,L,hL1,hkn⟩
theorem ChM.grow {M M':Mem} {A:CrA} {s:Cr} {pc pm:Nat} (h:ChM M A s pc pm) (hg:Grow M M'):ChM M' A s pc pm :=
 ⟨h.cr.grow hg,h.cells.grow hg,h.ne,let ⟨L,h1,h2⟩:=h.known;⟨L,h1.grow hg,h2⟩⟩
noncomputable def askE (s:Cr) (a b:Pt):Int:=if crB s=true then (if Pl a.1 a.2 /\ Pl b.1 b.2 then 0 else 10) else 40
noncomputable def StepsF (s:Cr) (a b:Pt):Int × Int:=(if askE s a b=0 then stepsF s.speed a b else 0,askE s a b)
noncomputable def ClearF (s:Cr) (a b:Pt):Bool × Int:=(if askE s a b=0 then clearF s a b else false,askE s a b)
theorem z9h {α:Type} {P:α->Prop} {l:List α} {k:Nat} (h:∀ j (hj:j < l.length),j < k->P l[j]) (hk:l.length<=k):∀ x ∈ l,P x:=fun x hx=>by
 obtain ⟨j,hj,rfl⟩:=List.getElem_of_mem hx
 exact h j hj (by omega)
set_option maxHeartbeats 16000000 in
theorem z7m {A:CrA} {s:Cr} {M:Mem} (hM:CrM M A s):CallOk Tryz.prog 44 [crv A s] M (fun w M'=>w=I (eCrB s) /\ Grow M M'):=by
 refine z6 kq44 rfl ?_
 dsimp only [xq44,qm,qf,ql,qL,qi,qb,qe,qc,qa,qn,qC,qg,qS,qo,qq,qZ,zipE,Nat.reduceAdd]
 obtain ⟨aL,fL,aF,fF,aB,fB,aO,fO,eF⟩:=A
 have hnl:=hM.nl
 have hnf:=hM.nf
 have hnb:=hM.nb
 have hno:=hM.no
 by_cases h0:((1<=s.lines.length /\ s.lines.length<=5) /\ s.fields.length<=4 /\ s.buoys.length<=4 /\ s.opn.length=s.lines.length) /\ (PlP s.start.1 /\ 0<=s.start.2 /\ s.start.2<=7) /\ (1<=s.speed /\ s.speed<=1000) /\ (0<=s.turn /\ s.turn<=1000)
 rotate_left
 ·have hb:crB s=false:=z2f fun hc=>h0 ⟨⟨⟨hc.n1,hc.n5⟩,hc.nf,hc.nb,hc.no⟩,hc.start,hc.speed,hc.turn⟩
  have he:eCrB s=40:=if_neg (by rw [hb];decide)
  (repeat' first|with_reducible intro _|refine sv ?_|refine su ?_|refine sc ?_ ?_<;>(intro h;try exact sz h)|(with_reducible first|apply zj|apply zi|apply zd);exact gd;exact rfl;exact rfl;exact z0b _ _ _ _|(with_reducible first|apply za|apply z8|apply z5);exact gd;exact rfl;exact rfl;exact zgp _ _|refine sg ?_ ?_<;>(intro h;first|exact sz h|refine sy h ?_)|exact sq|fail)
  all_goals first
   |((refine kf ?_)
     exact ⟨by rw [he];rfl,xg⟩)
   |(exfalso;omega)
   | trace_state
 have h1:(1<=(s.lines.length:Int) /\ (s.lines.length:Int)<=5) /\ (s.fields.length:Int)<=4 /\ (s.buoys.length:Int)<=4 /\ (s.opn.length:Int)=s.lines.length:=by omega
 obtain ⟨h0n,h0p,h0s,h0t⟩:=h0
 (repeat' first|with_reducible intro _|refine sv ?_|refine sc ?_ ?_<;>(intro h;try exact sz h)|(with_reducible first|apply zj|apply zi|apply zd);exact gd;exact rfl;exact rfl;exact z0b _ _ _ _|(with_reducible first|apply za|apply z8|apply z5);exact gd;exact rfl;exact rfl;exact zgp _ _|refine sg ?_ ?_<;>(intro h;first|exact sz h|refine sy h ?_)|exact sq|fail)
 all_goals try (exfalso;omega)
 rename_i n1 M1 hn1 e1 e2 _ _ _ M1b hg1b e2b _ _
 refine zc (fun n E ms M'=>∃ (k:Nat) (b:Bool),n=s.lines.length - k /\ k<=s.lines.length /\ ms=[] /\ Has E [(1,.ptr (some (n1,0))),(3,.bool b),(4,I k)] /\ Grow M M' /\ M1.next<=M'.next /\ At M' n1 (.cells true (crc ⟨aL,fL,aF,fF,aB,fB,aO,fO,eF⟩ s) 35) /\
   (b=true->∀ j (hj:j < s.lines.length),j < k->LineOk s.lines[j] /\ WinOk (s.opn[j]'(by omega))) /\ (b=false->crB s=false)) ?_ s.lines.length _ _ _
  ⟨0,_,by omega,by omega,rfl,.cons rfl (.cons rfl (.cons rfl .nil)),xg,by omega,xm,fun _ j hj h=>absurd h (Nat.not_lt_zero _),fun h=>by rw [decide_eq_true h0t] at h;cases h⟩
 rintro n E ms M2 ⟨k,b,rfl,hk,rfl,hE,hG,hle1,a1,hall,hbad0⟩
 have hle:=hG.le
 refine zw hE ?_
 by_cases hgo:b=true /\ k < s.lines.length
 ·obtain ⟨rfl,hlt⟩:=hgo
  have hlt2:k < s.opn.length:=by omega
  obtain ⟨i,o,rfl,hr⟩:=(show SlA 4 legc M aL s.lines from hM.lines).resolve_left (fun e=>by rw [e] at hlt;simp at hlt)
  obtain ⟨i2,o2,rfl,hr2⟩:=(show SlL 2 bdc M aO s.opn from hM.opn).resolve_left (fun e=>by rw [e] at hlt2;simp at hlt2)
  obtain ⟨a',f',g1,g2,g3⟩:=hr2 k hlt2
  have r1:Rd M2 i (o+k*4) 4 (legc s.lines[k]):=(hr k hlt).grow hG
  have r2:Rd1 M2 i2 (o2+k*1) (.slice a' s.opn[k].length f' 2):=g1.grow hG
  have hw:=fun M' (hg:Grow M M')=>zex (f:=f') (g2.grow hg) g3
  have hi1:=r1.2
  have hi2:=r2.2
  have hbad:¬ (LineOk s.lines[k] /\ WinOk s.opn[k])->crB s=false:=fun hn=>z2f fun hc=>hn ⟨hc.lines _ (List.getElem_mem hlt),hc.opn _ (List.getElem_mem hlt2)⟩
  have hgood:LineOk s.lines[k] /\ WinOk s.opn[k]->∀ j (hj:j < s.lines.length),j < k+1->LineOk s.lines[j] /\ WinOk (s.opn[j]'(by omega)):=fun hg j hj h=>by
   by_cases hjk:j=k
   ·subst hjk;exact hg
   ·exact hall rfl j hj (by omega)
  clear hall hbad0
  by_cases q1:PlP s.lines[k].1
  ·have e1:Pl s.lines[k].1.1 s.lines[k].1.2:=q1
   by_cases q2:PlP s.lines[k].2
   ·have e2:Pl s.lines[k].2.1 s.lines[k].2.2:=q2
    by_cases q3:s.lines[k].1.1=s.lines[k].2.1 /\ s.lines[k].1.2=s.lines[k].2.2
    ·have hb:=hbad fun hh=>hh.1.2.2 (Prod.ext q3.1 q3.2)
     (have hrd0:=r1;have hrd1:=r2;repeat' first|with_reducible intro _|refine sv ?_|refine sc ?_ ?_<;>(intro h;try exact sz h)|(with_reducible first|apply za|apply z8|apply z5);exact gd;exact rfl;exact rfl;exact z1g _ _ _|refine sg ?_ ?_<;>(intro h;first|exact sz h|refine sy h ?_)|exact sq|fail)
     all_goals try (exfalso;omega)
     refine zg (s.lines.length - (k+1)) (by omega) ⟨k+1,_,rfl,by omega,rfl,.cons rfl (.cons rfl (.cons rfl .nil)),xg,by omega,xm,fun h=>absurd h (by simp),fun _=>hb⟩
    ·by_cases q4:WinOk s.opn[k]
     ·rw [zeg q4] at hw
      have hg:=hgood ⟨⟨q1,q2,fun e=>q3 (by rw [e];exact ⟨rfl,rfl⟩)⟩,q4⟩
      (have hrd0:=r1;have hrd1:=r2;repeat' first|with_reducible intro _|refine sv ?_|refine sc ?_ ?_<;>(intro h;try exact sz h)|(with_reducible first|apply za|apply z8|apply z5);exact gd;exact rfl;exact rfl;(first|exact z1g _ _ _|exact hw _ (xg))|refine sg ?_ ?_<;>(intro h;first|exact sz h|refine sy h ?_)|exact sq|fail)
      all_goals try (exfalso;omega)
      all_goals refine zg (s.lines.length - (k+1)) (by omega) ⟨k+1,_,rfl,by omega,rfl,.cons rfl (.cons rfl (.cons rfl .nil)),xg,by omega,xm,fun _=>hg,fun h=>absurd h (by simp)⟩
     ·have hb:=hbad fun hh=>q4 hh.2
      rw [zbs q4] at hw
      (have hrd0:=r1;have hrd1:=r2;repeat' first|with_reducible intro _|refine sv ?_|refine sc ?_ ?_<;>(intro h;try exact sz h)|(with_reducible first|apply za|apply z8|apply z5);exact gd;exact rfl;exact rfl;(first|exact z1g _ _ _|exact hw _ (xg))|refine sg ?_ ?_<;>(intro h;first|exact sz h|refine sy h ?_)|exact sq|fail)
      all_goals try (exfalso;omega)
      all_goals refine zg (s.lines.length - (k+1)) (by omega) ⟨k+1,_,rfl,by omega,rfl,.cons rfl (.cons rfl (.cons rfl .nil)),xg,by omega,xm,fun h=>absurd h (by simp),fun _=>hb⟩
   ·have e2:¬ Pl s.lines[k].2.1 s.lines[k].2.2:=q2
    have hb:=hbad fun hh=>q2 hh.1.2.1
    (have hrd0:=r1;have hrd1:=r2;repeat' first|with_reducible intro _|refine sv ?_|refine sc ?_ ?_<;>(intro h;try exact sz h)|(with_reducible first|apply za|apply z8|apply z5);exact gd;exact rfl;exact rfl;exact z1g _ _ _|refine sg ?_ ?_<;>(intro h;first|exact sz h|refine sy h ?_)|exact sq|fail)
    all_goals try (exact absurd (by assumption) e2)
    all_goals refine zg (s.lines.length - (k+1)) (by omega) ⟨k+1,_,rfl,by omega,rfl,.cons rfl (.cons rfl (.cons rfl .nil)),xg,by omega,xm,fun h=>absurd h (by simp),fun _=>hb⟩
  ·have e1:¬ Pl s.lines[k].1.1 s.lines[k].1.2:=q1
   have hb:=hbad fun hh=>q1 hh.1.1
   (have hrd0:=r1;have hrd1:=r2;repeat' first|with_reducible intro _|refine sv ?_|refine sc ?_ ?_<;>(intro h;try exact sz h)|(with_reducible first|apply za|apply z8|apply z5);exact gd;exact rfl;exact rfl;exact z1g _ _ _|refine sg ?_ ?_<;>(intro h;first|exact sz h|refine sy h ?_)|exact sq|fail)
   all_goals try (exact absurd (by assumption) e1)
   all_goals refine zg (s.lines.length - (k+1)) (by omega) ⟨k+1,_,rfl,by omega,rfl,.cons rfl (.cons rfl (.cons rfl .nil)),xg,by omega,xm,fun h=>absurd h (by simp),fun _=>hb⟩
 cases b with
 | false =>
  have he:eCrB s=40:=if_neg (by rw [hbad0 rfl];decide)
  (repeat' first|with_reducible intro _|refine sv ?_|refine su ?_|refine sc ?_ ?_<;>(intro h;try exact sz h)|(with_reducible first|apply za|apply z8|apply z5);exact gd;exact rfl;exact rfl;exact z06 _ _|refine sg ?_ ?_<;>(intro h;first|exact sz h|refine sy h ?_)|exact sq|fail)
  (refine kf ?_)
  exact ⟨by rw [he];rfl,xg⟩
 | true =>
 have hk2:s.lines.length<=k:=by
  by_cases h:k < s.lines.length
  ·exact absurd ⟨rfl,h⟩ hgo
  ·omega
 have hlines:∀ l ∈ s.lines,LineOk l:=z9h (fun j hj h=>(hall rfl j hj h).1) hk2
 have hopn:∀ l ∈ s.opn,WinOk l:=fun l hl=>by
  obtain ⟨j,hj,rfl⟩:=List.getElem_of_mem hl
  exact (hall rfl j (by omega) (by omega)).2
 clear hall hbad0
 (repeat' first|with_reducible intro _|refine sv ?_|refine sc ?_ ?_<;>(intro h;try exact sz h)|refine sg ?_ ?_<;>(intro h;first|exact sz h|refine sy h ?_)|exact sq|fail)
 clear hE
 refine zc (fun n E ms M'=>∃ (k:Nat) (b:Bool),n=s.fields.length - k /\ k<=s.fields.length /\ ms=[] /\ Has E [(1,.ptr (some (n1,0))),(3,.bool b),(6,I k)] /\ Grow M M' /\ M1.next<=M'.next /\ At M' n1 (.cells true (crc ⟨aL,fL,aF,fF,aB,fB,aO,fO,eF⟩ s) 35) /\
   (b=true->∀ j (hj:j < s.fields.length),j < k->FieldOk s.fields[j]) /\ (b=false->crB s=false)) ?_ s.fields.length _ _ _
  ⟨0,_,by omega,by omega,rfl,.cons rfl (.cons rfl (.cons rfl .nil)),xg,by omega,xm,fun _ j hj h=>absurd h (Nat.not_lt_zero _),fun h=>by cases h⟩
 clear hgo hk2 hk hle hle1 a1 hG h
 clear M2 k E
 rintro n E ms M2 ⟨k,b,rfl,hk,rfl,hE,hG,hle1,a1,hall,hbad0⟩
 have hle:=hG.le
 refine zw hE ?_
 by_cases hgo:b=true /\ k < s.fields.length
 ·obtain ⟨rfl,hlt⟩:=hgo
  obtain ⟨i2,o2,rfl,hr2⟩:=(show SlL 2 ptc M aF s.fields from hM.fields).resolve_left (fun e=>by rw [e] at hlt;simp at hlt)
  obtain ⟨a',f',g1,g2,g3⟩:=hr2 k hlt
  have r2:Rd1 M2 i2 (o2+k*1) (.slice a' s.fields[k].length f' 2):=g1.grow hG
  have hi2:=r2.2
  have hcf:=fun M' (hg:Grow M M')=>z3t (f:=f') (g2.grow hg) g3
  have hgood:FieldOk s.fields[k]->∀ j (hj:j < s.fields.length),j < k+1->FieldOk s.fields[j]:=fun hg j hj h=>by
   by_cases hjk:j=k
   ·subst hjk;exact hg
   ·exact hall rfl j hj (by omega)
  (have hrd0:=r2;repeat' first|with_reducible intro _|refine sv ?_|refine sc ?_ ?_<;>(intro h;try exact sz h)|(with_reducible first|apply za|apply z8|apply z5);exact gd;exact rfl;exact rfl;exact hcf _ (xg)|refine sg ?_ ?_<;>(intro h;first|exact sz h|refine sy h ?_)|exact sq|fail)
  refine zg (s.fields.length - (k+1)) (by omega) ⟨k+1,_,rfl,by omega,rfl,.cons rfl (.cons rfl (.cons rfl .nil)),xg,by omega,xm,fun h=>hgood ?_,fun h=>z2f fun hc=>?_⟩
  ·have h:=of_decide_eq_true h
   exact Classical.byContradiction fun hn=>by unfold eFd at h;rw [if_neg hn] at h;cases h
  ·have h:=of_decide_eq_false h
   exact h (if_pos (hc.fields _ (List.getElem_mem hlt)))
 cases b with
 | false =>
  have he:eCrB s=40:=if_neg (by rw [hbad0 rfl];decide)
  (repeat' first|with_reducible intro _|refine sv ?_|refine su ?_|refine sc ?_ ?_<;>(intro h;try exact sz h)|(with_reducible first|apply za|apply z8|apply z5);exact gd;exact rfl;exact rfl;exact z06 _ _|refine sg ?_ ?_<;>(intro h;first|exact sz h|refine sy h ?_)|exact sq|fail)
  (refine kf ?_)
  exact ⟨by rw [he];rfl,xg⟩
 | true =>
 have hk2:s.fields.length<=k:=by
  by_cases h:k < s.fields.length
  ·exact absurd ⟨rfl,h⟩ hgo
  ·omega
 have hfields:∀ l ∈ s.fields,FieldOk l:=z9h (hall rfl) hk2
 clear hall hbad0
 (repeat' first|with_reducible intro _|refine sv ?_|refine sc ?_ ?_<;>(intro h;try exact sz h)|refine sg ?_ ?_<;>(intro h;first|exact sz h|refine sy h ?_)|exact sq|fail)
 clear hE
 refine zc (fun n E ms M'=>∃ (k:Nat) (b:Bool),n=s.buoys.length - k /\ k<=s.buoys.length /\ ms=[] /\ Has E [(1,.ptr (some (n1,0))),(3,.bool b),(7,I k)] /\ Grow M M' /\ M1.next<=M'.next /\ At M' n1 (.cells true (crc ⟨aL,fL,aF,fF,aB,fB,aO,fO,eF⟩ s) 35) /\
   (b=true->∀ j (hj:j < s.buoys.length),j < k->PlP s.buoys[j]) /\ (b=false->crB s=false)) ?_ s.buoys.length _ _ _
  ⟨0,_,by omega,by omega,rfl,.cons rfl (.cons rfl (.cons rfl .nil)),xg,by omega,xm,fun _ j hj h=>absurd h (Nat.not_lt_zero _),fun h=>by cases h⟩
 clear hgo hk2 hk hle hle1 a1 hG h
 clear M2 k E
 rintro n E ms M2 ⟨k,b,rfl,hk,rfl,hE,hG,hle1,a1,hall,hbad0⟩
 have hle:=hG.le
 refine zw hE ?_
 by_cases hgo:b=true /\ k < s.buoys.length
 ·obtain ⟨rfl,hlt⟩:=hgo
  obtain ⟨i2,o2,rfl,hr2⟩:=(show SlA 2 ptc M aB s.buoys from hM.buoys).resolve_left (fun e=>by rw [e] at hlt;simp at hlt)
  have r2:Rd M2 i2 (o2+k*2) 2 (ptc s.buoys[k]):=(hr2 k hlt).grow hG
  have hi2:=r2.2
  have hgood:PlP s.buoys[k]->∀ j (hj:j < s.buoys.length),j < k+1->PlP s.buoys[j]:=fun hg j hj h=>by
   by_cases hjk:j=k
   ·subst hjk;exact hg
   ·exact hall rfl j hj (by omega)
  (have hrd0:=r2;repeat' first|with_reducible intro _|refine sv ?_|refine sc ?_ ?_<;>(intro h;try exact sz h)|(with_reducible first|apply za|apply z8|apply z5);exact gd;exact rfl;exact rfl;exact z1g _ _ _|refine sg ?_ ?_<;>(intro h;first|exact sz h|refine sy h ?_)|exact sq|fail)
  refine zg (s.buoys.length - (k+1)) (by omega) ⟨k+1,_,rfl,by omega,rfl,.cons rfl (.cons rfl (.cons rfl .nil)),xg,by omega,xm,fun h=>hgood (of_decide_eq_true h),fun h=>z2f fun hc=>of_decide_eq_false h (hc.buoys _ (List.getElem_mem hlt))⟩
 cases b with
 | false =>
  have he:eCrB s=40:=if_neg (by rw [hbad0 rfl];decide)
  (repeat' first|with_reducible intro _|refine sv ?_|refine su ?_|refine sc ?_ ?_<;>(intro h;try exact sz h)|(with_reducible first|apply za|apply z8|apply z5);exact gd;exact rfl;exact rfl;exact z06 _ _|refine sg ?_ ?_<;>(intro h;first|exact sz h|refine sy h ?_)|exact sq|fail)
  (refine kf ?_)
  exact ⟨by rw [he];rfl,xg⟩
 | true =>
 have hk2:s.buoys.length<=k:=by
  by_cases h:k < s.buoys.length
  ·exact absurd ⟨rfl,h⟩ hgo
  ·omega
 have hbuoys:∀ l ∈ s.buoys,PlP l:=z9h (hall rfl) hk2
 clear hall hbad0
 by_cases hT:RgOk s.spread
 rotate_left
 ·have he:eCrB s=40:=if_neg (by rw [z2f fun hc=>hT hc.spread.1];decide)
  have hc:eRg s.spread=11:=if_neg hT
  (repeat' first|with_reducible intro _|refine sv ?_|refine sc ?_ ?_<;>(intro h;try exact sz h)|(with_reducible first|apply za|apply z8|apply z5);exact gd;exact rfl;exact rfl;exact z06 _ _|refine sg ?_ ?_<;>(intro h;first|exact sz h|refine sy h ?_)|exact sq|fail)
  (refine kf ?_)
  exact ⟨by rw [he];rfl,xg⟩
 have hc:eRg s.spread=0:=if_pos hT
 have hrg:=hT
 dsimp only [RgOk,fitsP] at hrg
 by_cases hW:s.spread.1.2 - s.spread.1.1<=256 /\ s.spread.2.1.2 - s.spread.2.1.1<=256
 rotate_left
 ·have he:eCrB s=40:=if_neg (by rw [z2f fun hc=>hW ⟨hc.spread.2.2.1,hc.spread.2.2.2⟩];decide)
  (repeat' first|with_reducible intro _|refine sv ?_|refine sc ?_ ?_<;>(intro h;try exact sz h)|(with_reducible first|apply za|apply z8|apply z5);exact gd;exact rfl;exact rfl;exact z06 _ _|refine sg ?_ ?_<;>(intro h;first|exact sz h|refine sy h ?_)|exact sq|fail)
  all_goals first
   |(exfalso;omega)
   |((refine kf ?_)
     exact ⟨by rw [he];rfl,xg⟩)
 by_cases hI:(tightO s.spread).isSome=true
 ·have he:eCrB s=0:=if_pos (zjs ⟨h0n.1.1,h0n.1.2,h0n.2.1,h0n.2.2.1,h0n.2.2.2,hlines,hopn,hfields,hbuoys,⟨hT,hI,hW.1,hW.2⟩,h0p,h0s,h0t⟩)
  have ht:=zbo ⟨hT,hI⟩
  (repeat' first|with_reducible intro _|refine sv ?_|refine sc ?_ ?_<;>(intro h;try exact sz h)|(with_reducible first|apply za|apply z8|apply z5);exact gd;exact rfl;exact rfl;(first|exact z06 _ _|exact zda _ _)|refine sg ?_ ?_<;>(intro h;first|exact sz h|refine sy h ?_)|exact sq|fail)
  (refine kf ?_)
  exact ⟨by rw [he];rfl,xg⟩
 ·have he:eCrB s=40:=if_neg (by rw [z2f fun hc=>hI hc.spread.2.1];decide)
  have ht:=zbn fun hh=>hI hh.2
  (repeat' first|with_reducible intro _|refine sv ?_|refine sc ?_ ?_<;>(intro h;try exact sz h)|(with_reducible first|apply za|apply z8|apply z5);exact gd;exact rfl;exact rfl;(first|exact z06 _ _|exact zda _ _)|refine sg ?_ ?_<;>(intro h;first|exact sz h|refine sy h ?_)|exact sq|fail)
  (refine kf ?_)
  exact ⟨by rw [he];rfl,xg⟩
set_option maxHeartbeats 1000000 in
theorem z5y {A:CrA} {s:Cr} {a b:Pt} {M:Mem} (hs:1<=s.speed /\ s.speed<=1000) (ha:PlP a) (hb:PlP b) :
  CallOk Tryz.prog 61 [crv A s,ptv a,ptv b] M (fun w M'=>w=I (stepsF s.speed a b) /\ Grow M M'):=by
 have hd:=zc6 ha hb
 have hn:0<=distF a b /\ distF a b<=8589934592:=by unfold distF;omega
 have hsq:=z4h hn.1
 have hsb:=zlj (B:=100000) hn.1 (by omega) (by omega)
 have hm:=z0o (a:=sqF (distF a b)) (b:=sqF (distF a b)) (A:=100000) (B:=100000) (by omega) (by omega)
 have hup:∀ n:Int,0<=n->-((-n).fdiv s.speed)=(n+s.speed - 1) / s.speed:=fun n hn=>by
  rw [z40 (by omega)]
  have h1:=Int.emod_add_mul_ediv (n+s.speed - 1) s.speed
  have h2:=Int.emod_nonneg (n+s.speed - 1) (by omega:s.speed ≠ 0)
  have h3:=Int.emod_lt_of_pos (n+s.speed - 1) (by omega:0 < s.speed)
  have:(-n) / s.speed=-((n+s.speed - 1) / s.speed):=by
   refine (Int.ediv_emod_unique (by omega) (r:=s.speed - 1 - (n+s.speed - 1) % s.speed)).2 ⟨?_,by omega,by omega⟩ |>.1
   rw [Int.mul_neg]
   omega
  omega
 unfold stepsF sqU
 unfold distF at *
 dsimp only [PlP,Pl] at ha hb
 refine z6 kq61 rfl ?_
 dsimp only [xq61,qm,qf,ql,qi,qb,qe,qc,qB,qC,qk,qK,qq,zipE,Nat.reduceAdd]
 (repeat' first|with_reducible intro _|refine sv ?_|refine sc ?_ ?_<;>(intro h;try exact sz h)|(with_reducible first|apply zj|apply zi|apply zd);exact gd;exact rfl;exact rfl;(first|exact zm1 _ (by omega) _|exact c_Up _ _ (by omega) (by omega) (by omega) _)|refine sg ?_ ?_<;>(intro h;first|exact sz h|refine sy h ?_)|exact sq|fail)
 all_goals (refine kf ?_)
 all_goals refine ⟨?_,xg⟩
 ·rw [if_pos (by omega),<- hup _ (by omega)];rfl
 ·rw [if_neg (by omega),<- hup _ (by omega)];rfl
set_option maxHeartbeats 2000000 in
theorem zl1 {A:CrA} {s:Cr} {a b:Pt} {M:Mem} (hM:CrM M A s) :
  CallOk Tryz.prog 103 [crv A s,ptv a,ptv b] M (fun w M'=>w=.bool (freeF s a b) /\ Grow M M'):=by
 refine z6 kq103 rfl ?_
 dsimp only [xq103,qm,qf,ql,qL,qi,qb,qe,qc,qa,qn,qB,qC,qS,qo,qk,qK,qq,qZ,zipE,Nat.reduceAdd]
 obtain ⟨aL,fL,aF,fF,aB,fB,aO,fO,eF⟩:=A
 have hnf:=hM.nf
 by_cases hsw:(sweptF s.spread a b).2=0
 rotate_left
 ·(repeat' first|with_reducible intro _|refine sv ?_|refine sc ?_ ?_<;>(intro h;try exact sz h)|(with_reducible first|apply za|apply z8|apply z5);exact gd;exact rfl;exact rfl;exact zd9 _ _ _ _|refine sg ?_ ?_<;>(intro h;first|exact sz h|refine sy h ?_)|exact sq|fail)
  (refine kf ?_)
  refine ⟨?_,xg⟩
  unfold freeF;rw [decide_eq_false hsw];rfl
 (repeat' first|with_reducible intro _|refine sv ?_|refine sc ?_ ?_<;>(intro h;try exact sz h)|(with_reducible first|apply za|apply z8|apply z5);exact gd;exact rfl;exact rfl;exact zd9 _ _ _ _|refine sg ?_ ?_<;>(intro h;first|exact sz h|refine sy h ?_)|exact sq|fail)
 rename_i n3 M1 hn3 f1 f2 n4 M2 hn4 f3 f4 n5 M3 hn5 f5 f6 M4 hg4 f7 n7 M5 hn7 f8 f9 M6 hu6 f10 a7
 refine zc (fun n E ms M'=>∃ (k:Nat),n=s.fields.length - k /\ k<=s.fields.length /\ ms=[] /\ Has E [(3,.ptr (some (n3,0))),(7,.ptr (some (n7,0))),(9,I k)] /\ Grow M M' /\ M6.next<=M'.next /\ At M' n3 (.cells true (crc ⟨aL,fL,aF,fF,aB,fB,aO,fO,eF⟩ s) 35) /\
   At M' n7 (.cells true (rgc (sweptF s.spread a b).1) 28) /\ ∀ j (hj:j < s.fields.length),j < k->(hitsF s.fields[j] (sweptF s.spread a b).1).2=4) ?_ s.fields.length _ _ _
  ⟨0,by omega,by omega,rfl,.cons rfl (.cons rfl (.cons rfl .nil)),xg,by omega,xm,xm,fun j hj h=>absurd h (Nat.not_lt_zero _)⟩
 rintro n E ms M7 ⟨k,rfl,hk,rfl,hE,hG,hle1,a1,a2,hall⟩
 have hle:=hG.le
 refine zw hE ?_
 by_cases hlast:k=s.fields.length
 ·subst hlast
  (repeat' first|with_reducible intro _|refine sv ?_|refine sc ?_ ?_<;>(intro h;try exact sz h)|refine sg ?_ ?_<;>(intro h;first|exact sz h|refine sy h ?_)|exact sq|fail)
  (refine kf ?_)
  refine ⟨?_,xg⟩
  unfold freeF
  rw [decide_eq_true hsw,Bool.true_and]
  refine congrArg LV.bool (Eq.symm ?_)
  rw [List.all_eq_true]
  intro l hl
  exact decide_eq_true (z9h (P:=fun l=>(hitsF l (sweptF s.spread a b).1).2=4) (fun j hj h=>hall j hj h) (Nat.le_refl _) l hl)
 have hlt:k < s.fields.length:=by omega
 obtain ⟨i2,o2,rfl,hr2⟩:=(show SlL 2 ptc M aF s.fields from hM.fields).resolve_left (fun e=>by rw [e] at hlt;simp at hlt)
 obtain ⟨a',f',g1,g2,g3⟩:=hr2 k hlt
 have r2:Rd1 M7 i2 (o2+k*1) (.slice a' s.fields[k].length f' 2):=g1.grow hG
 have hi2:=r2.2
 have hcf:=fun M' (hg:Grow M M')=>zlz (f:=f') (r:=(sweptF s.spread a b).1) (g2.grow hg) g3
 by_cases hh:(hitsF s.fields[k] (sweptF s.spread a b).1).2=4
 ·(have hrd0:=r2;repeat' first|with_reducible intro _|refine sv ?_|refine sc ?_ ?_<;>(intro h;try exact sz h)|(with_reducible first|apply za|apply z8|apply z5);exact gd;exact rfl;exact rfl;exact hcf _ (xg)|refine sg ?_ ?_<;>(intro h;first|exact sz h|refine sy h ?_)|exact sq|fail)
  refine zg (s.fields.length - (k+1)) (by omega) ⟨k+1,rfl,by omega,rfl,.cons rfl (.cons rfl (.cons rfl .nil)),xg,by omega,xm,xm,fun j hj h=>?_⟩
  by_cases hjk:j=k
  ·subst hjk;exact hh
  ·exact hall j hj (by omega)
 ·(have hrd0:=r2;repeat' first|with_reducible intro _|refine sv ?_|refine sc ?_ ?_<;>(intro h;try exact sz h)|(with_reducible first|apply za|apply z8|apply z5);exact gd;exact rfl;exact rfl;exact hcf _ (xg)|refine sg ?_ ?_<;>(intro h;first|exact sz h|refine sy h ?_)|exact sq|fail)
  (refine kf ?_)
  refine ⟨?_,xg⟩
  unfold freeF
  rw [decide_eq_true hsw,Bool.true_and]
  refine congrArg LV.bool (Eq.symm ?_)
  rw [<-Bool.not_eq_true,List.all_eq_true]
  intro hc
  exact hh (of_decide_eq_true (hc _ (List.getElem_mem hlt)))
end Go.Proofs.YtpccafeedfpbaaaGreat.C
end
