/-
 Part of the proof of CourseAccepted: what functions of the program and of the statement come to,walked by the rules. No condition beyond those in each theorem.
-/
import Derived.Test.YtpccafeedfpbaaaGreatUA
import Derived.Test.YtpccafeedfpbaaaGreatQvD
import Derived.Test.YtpccafeedfpbaaaGreatUS
section
open Go PvL Go.Proofs
set_option linter.unusedSimpArgs false
set_option linter.unusedVariables false
namespace Go.Proofs.YtpccafeedfpbaaaGreat.C
theorem zbz (n:Int) (hn:-1000000000000000<=n /\ n<=1000000000000000) (M:Mem):CallOk Tryz.prog 84 [I n] M (fun w M'=>w=I (iMax n (-n)) /\ M'=M):=by
 refine z6 kq84 rfl ?_
 dsimp only [xq84,qm,qi,qo,qq,zipE,Nat.reduceAdd]
 (repeat' first|with_reducible intro _|refine sv ?_|refine sc ?_ ?_<;>(intro h;try exact sz h)|refine sg ?_ ?_<;>(intro h;first|exact sz h|refine sy h ?_)|exact sq|fail)
 (refine kf ?_)
 exact ⟨rfl,rfl⟩
theorem zmj (a b c:Pt) (ha:PlP a) (hb:PlP b) (hc:PlP c) (M:Mem):CallOk Tryz.prog 139 [ptv a,ptv b,ptv c] M (fun w M'=>w=I (turnP a b c) /\ Grow M M'):=by
 have ht:=zil ha hb hc
 dsimp only [PlP,Pl] at ha hb hc
 refine z6 kq139 rfl ?_
 dsimp only [xq139,qm,qf,ql,qi,qb,qB,qq,zipE,Nat.reduceAdd]
 (repeat' first|with_reducible intro _|refine sv ?_|refine sc ?_ ?_<;>(intro h;try exact sz h)|refine sg ?_ ?_<;>(intro h;first|exact sz h|refine sy h ?_)|exact sq|fail)
 (refine kf ?_)
 exact ⟨rfl,xg⟩
theorem zgj (a b l:Int) (hl:0<=l /\ l<=1000000) (M:Mem):CallOk Tryz.prog 140 [.agg [I a,I b],I l] M (fun w M'=>w=.bool (decide (-l<=a /\ a<=b /\ b<=l)) /\ Grow M M'):=by
 refine z6 kq140 rfl ?_
 dsimp only [xq140,qm,qf,ql,qb,qB,qg,qo,qq,zipE,Nat.reduceAdd]
 (repeat' first|with_reducible intro _|refine sv ?_|refine sc ?_ ?_<;>(intro h;try exact sz h)|refine sg ?_ ?_<;>(intro h;first|exact sz h|refine sy h ?_)|exact sq|fail)
 all_goals (apply z6x;exact .tmp rfl .nil;refine ⟨?_,?_⟩)
 all_goals first
  |(exact xg;done)
  | exact z39 (by omega)
  | exact lb_f (by omega)
  | exact lb_t (by omega)
theorem z06 (r:Rg) (M:Mem):CallOk Tryz.prog 101 [rgv r] M (fun w M'=>w=I (eRg r) /\ Grow M M'):=by
 refine z6 kq101 rfl ?_
 dsimp only [xq101,qm,qf,qL,qi,qb,qc,qg,qo,qq,zipE,Nat.reduceAdd]
 (repeat' first|with_reducible intro _|refine sv ?_|refine sc ?_ ?_<;>(intro h;try exact sz h)|(with_reducible first|apply za|apply z8|apply z5);exact gd;exact rfl;exact rfl;exact zgj _ _ _ (by omega) _|refine sg ?_ ?_<;>(intro h;first|exact sz h|refine sy h ?_)|exact sq|fail)
 all_goals (refine kf ?_)
 all_goals refine ⟨?_,xg⟩
 all_goals (unfold eRg;split<;>first|rfl|(exfalso;omega))
theorem zl4 (r:Rg) (hr:Sm 10000000 r) (x:Int) (hx:-10000000<=x /\ x<=10000000) (M:Mem):CallOk Tryz.prog 164 [rgv r,I x] M (fun w M'=>w=rowv (rowOf r x) /\ Grow M M'):=by
 unfold Sm at hr
 refine z6 kq164 rfl ?_
 dsimp only [xq164,qm,qf,ql,qb,qB,qS,qo,qq,qZ,zipE,Nat.reduceAdd]
 (repeat' first|with_reducible intro _|refine sv ?_|refine sc ?_ ?_<;>(intro h;try exact sz h)|refine sg ?_ ?_<;>(intro h;first|exact sz h|refine sy h ?_)|exact sq|fail)
 (refine kf ?_)
 exact ⟨rfl,xg⟩
theorem zl6 (a b n:Int) (M:Mem):CallOk Tryz.prog 182 [.agg [I a,I b],I n] M (fun w M'=>w=.agg [I (iMin a n),I (iMax b n)] /\ Grow M M'):=by
 refine z6 kq182 rfl ?_
 dsimp only [xq182,qm,qf,ql,qb,qS,qo,qq,qZ,zipE,Nat.reduceAdd]
 (repeat' first|with_reducible intro _|refine sv ?_|refine sc ?_ ?_<;>(intro h;try exact sz h)|refine sg ?_ ?_<;>(intro h;first|exact sz h|refine sy h ?_)|exact sq|fail)
 (refine kf ?_)
 exact ⟨rfl,xg⟩
theorem zme (a a' b b':Int) (h1:-1000000<=a /\ a<=1000000) (h2:-1000000<=a' /\ a'<=1000000) (h3:-1000000<=b /\ b<=1000000) (h4:-1000000<=b' /\ b'<=1000000) (M:Mem):CallOk Tryz.prog 183 [.agg [I a,I a'],.agg [I b,I b']] M (fun w M'=>w=.agg [I (a+b),I (a' + b')] /\ Grow M M'):=by
 refine z6 kq183 rfl ?_
 dsimp only [xq183,qf,ql,qb,qB,qS,qo,qq,qZ,zipE,Nat.reduceAdd]
 (repeat' first|with_reducible intro _|refine sv ?_|refine sc ?_ ?_<;>(intro h;try exact sz h)|refine sg ?_ ?_<;>(intro h;first|exact sz h|refine sy h ?_)|exact sq|fail)
 (refine kf ?_)
 exact ⟨rfl,xg⟩
theorem zm4 (r q:Rg) (hr:Sm 1000000 r) (hq:Sm 1000000 q) (M:Mem):CallOk Tryz.prog 177 [rgv r,rgv q] M (fun w M'=>w=rgv (map4 plusB r q) /\ Grow M M'):=by
 unfold Sm at hr hq
 refine z6 kq177 rfl ?_
 dsimp only [xq177,qf,qL,qb,qc,qS,qo,qk,qK,qq,qZ,zipE,Nat.reduceAdd]
 (repeat' first|with_reducible intro _|refine sv ?_|refine sc ?_ ?_<;>(intro h;try exact sz h)|(with_reducible first|apply za|apply z8|apply z5);exact gd;exact rfl;exact rfl;exact zme _ _ _ _ (by omega) (by omega) (by omega) (by omega) _|refine sg ?_ ?_<;>(intro h;first|exact sz h|refine sy h ?_)|exact sq|fail)
 (refine kf ?_)
 exact ⟨rfl,xg⟩
theorem zmd (r:Rg) (M:Mem):CallOk Tryz.prog 176 [rgv r] M (fun w M'=>w=resv (insideF r) /\ Grow M M'):=by
 refine z6 kq176 rfl ?_
 dsimp only [xq176,qm,qf,qL,qi,qb,qc,qg,qS,qo,qq,qZ,zipE,Nat.reduceAdd]
 (repeat' first|with_reducible intro _|refine sv ?_|refine sc ?_ ?_<;>(intro h;try exact sz h)|(with_reducible first|apply za|apply z8|apply z5);exact gd;exact rfl;exact rfl;exact zgj _ _ _ (by omega) _|refine sg ?_ ?_<;>(intro h;first|exact sz h|refine sy h ?_)|exact sq|fail)
 all_goals (refine kf ?_)
 all_goals refine ⟨?_,xg⟩
 all_goals (unfold insideF;first|(rw [if_neg (by omega)];rfl)|(rw [if_pos (by omega)];rfl))
theorem zod (a b:Rg) (M:Mem):CallOk Tryz.prog 179 [rgv a,rgv b] M (fun w M'=>w=I (if eRg a=0 then eRg b else eRg a) /\ Grow M M'):=by
 refine z6 kq179 rfl ?_
 dsimp only [xq179,qm,qL,qi,qb,qc,qC,qq,zipE,Nat.reduceAdd]
 (repeat' first|with_reducible intro _|refine sv ?_|refine sc ?_ ?_<;>(intro h;try exact sz h)|(with_reducible first|apply za|apply z8|apply z5);exact gd;exact rfl;exact rfl;exact z06 _ _|refine sg ?_ ?_<;>(intro h;first|exact sz h|refine sy h ?_)|exact sq|fail)
 all_goals (refine kf ?_)
 all_goals refine ⟨?_,xg⟩
 ·rw [if_neg (by omega)];rfl
 ·rw [if_pos (by omega)];rfl
abbrev hullc (o:Option Rg):List LV:=[I (o.getD zRg).1.1,I (o.getD zRg).1.2,I (o.getD zRg).2.1.1,I (o.getD zRg).2.1.2,I (o.getD zRg).2.2.1.1,I (o.getD zRg).2.2.1.2,I (o.getD zRg).2.2.2.1,I (o.getD zRg).2.2.2.2,.bool o.isSome]
theorem zm3 (o:Option Rg) (q:Pt) (hq:SmP 1000000 q) {p:Nat} {M:Mem} (hp:At M p (.cells true (hullc o) 227)) :
  CallOk Tryz.prog 175 [.ptr (some (p,0)),ptv q] M (Put1 (.tup []) p (.cells true (hullc (hstep o q)) 227) M):=by
 unfold SmP at hq
 have hpl:=hp.lt
 refine z6 kq175 rfl ?_
 dsimp only [xq175,qm,qf,ql,qL,qb,qc,qB,qS,qo,qk,qK,qq,qZ,zipE,Nat.reduceAdd]
 cases o with
 | none =>
  (repeat' first|with_reducible intro _|refine sv ?_|refine sc ?_ ?_<;>(intro h;try exact sz h)|(with_reducible first|apply za|apply z8|apply z5);exact gd;exact rfl;exact rfl;exact zl6 _ _ _ _|refine sg ?_ ?_<;>(intro h;first|exact sz h|refine sy h ?_)|exact sq|fail)
  all_goals (refine kf ?_)
  all_goals exact ⟨rfl,xk,xm⟩
 | some r =>
  (repeat' first|with_reducible intro _|refine sv ?_|refine sc ?_ ?_<;>(intro h;try exact sz h)|(with_reducible first|apply za|apply z8|apply z5);exact gd;exact rfl;exact rfl;exact zl6 _ _ _ _|refine sg ?_ ?_<;>(intro h;first|exact sz h|refine sy h ?_)|exact sq|fail)
  all_goals (refine kf ?_)
  all_goals exact ⟨rfl,xk,xm⟩
theorem zkn {r:Rg} (hr:Sm 400000 r) {k:Nat} (hk:k < rowsN r):SmP 1000000 (r.1.1+(k:Int),(rowOf r (r.1.1+(k:Int))).2.1) /\ SmP 1000000 (r.1.1+(k:Int),(rowOf r (r.1.1+(k:Int))).2.2):=by
 unfold rowsN at hk
 have:=zic hr (x:=r.1.1+(k:Int)) (by omega) (by omega)
 have e:(rowOf r (r.1.1+(k:Int))).1=r.1.1+(k:Int):=rfl
 unfold SmP
 dsimp only
 omega
set_option maxHeartbeats 1000000 in
theorem zo4 (o:Option Rg) (r:Rg) (hr:Sm 400000 r) {p:Nat} {M:Mem} (hp:At M p (.cells true (hullc o) 227)) :
  CallOk Tryz.prog 160 [.ptr (some (p,0)),rgv r] M (Put1 (.tup []) p (.cells true (hullc (hullO o (endsL r))) 227) M):=by
 have hpl:=hp.lt
 refine z6 kq160 rfl ?_
 dsimp only [xq160,qm,qf,ql,qL,qb,qc,qB,qC,qS,qo,qq,qZ,zipE,Nat.reduceAdd]
 (repeat' first|with_reducible intro _|refine sv ?_|refine sc ?_ ?_<;>(intro h;try exact sz h)|refine sg ?_ ?_<;>(intro h;first|exact sz h|refine sy h ?_)|exact sq|fail)
 rename_i n3 M1 hn3 e1 e2
 refine zc (fun n E ms M'=>∃ k:Nat,n=rowsN r - k /\ k<=rowsN r /\ ms=[] /\ Has E [(0,.ptr (some (p,0))),(3,.ptr (some (n3,0))),(4,I (r.1.1+(k:Int)))] /\ Keep (fun i=>i=p) M M' /\ M1.next<=M'.next /\
   At M' p (.cells true (hullc (hullO o (endsOf (rowsK r k)))) 227) /\ At M' n3 (.cells true (rgc r) 28)) ?_ (rowsN r) _ _ _
  ⟨0,by omega,by omega,rfl,.cons rfl (.cons rfl (.cons (congrArg (fun z=>some (I z)) (Int.add_zero _).symm) .nil)),xk,by omega,xm,xm⟩
 rintro n E ms M2 ⟨k,rfl,hk,rfl,hE,hK,hle,hP,hN⟩
 refine zw hE ?_
 have hn:rowsN r=(r.1.2+1 - r.1.1).toNat:=rfl
 have hsm:Sm 10000000 r:=hr.mono (by omega)
 by_cases hlast:k=rowsN r
 ·have hl:r.1.2 < r.1.1+(k:Int):=by omega
  (repeat' first|with_reducible intro _|refine sv ?_|refine sc ?_ ?_<;>(intro h;try exact sz h)|refine sg ?_ ?_<;>(intro h;first|exact sz h|refine sy h ?_)|exact sq|fail)
  (refine kf ?_)
  exact ⟨rfl,hK,by subst hlast;exact hP⟩
 ·have hl:r.1.1+(k:Int)<=r.1.2:=by omega
  have hb:=zkn hr (k:=k) (by omega)
  have hx0:-400000<=r.1.1 /\ r.1.2<=400000:=by unfold Sm at hr;omega
  have hnx:I (r.1.1+(k:Int)+1)=I (r.1.1+((k+1:Nat):Int)):=by rw [Int.natCast_add,Int.add_assoc];rfl
  (repeat' first|with_reducible intro _|refine sv ?_|refine sc ?_ ?_<;>(intro h;try exact sz h)|(with_reducible first|apply za|apply z8|apply z5);exact gd;exact rfl;exact rfl;exact zl4 r hsm _ (by omega) _|refine sg ?_ ?_<;>(intro h;first|exact sz h|refine sy h ?_)|exact sq|fail)
  rotate_left
  ·rename_i hno
   have hno':¬ (rowOf r (r.1.1+(k:Int))).2.1<=(rowOf r (r.1.1+(k:Int))).2.2:=by omega
   refine zg (rowsN r - (k+1)) (by omega) ⟨k+1,rfl,by omega,rfl,.cons rfl (.cons rfl (.cons (by rw [<-hnx];rfl) .nil)),xk,by omega,?_,xm⟩
   rw [zax o r k hno']
   exact xm
  ·rename_i hyes
   have hyes':(rowOf r (r.1.1+(k:Int))).2.1<=(rowOf r (r.1.1+(k:Int))).2.2:=by omega
   (repeat' first|with_reducible intro _|refine sv ?_|refine sc ?_ ?_<;>(intro h;try exact sz h)|(with_reducible first|apply znh|apply zmp);exact gd;exact rfl;exact rfl;(first|exact zm3 (hullO o (endsOf (rowsK r k))) _ hb.1 (xm)|exact zm3 (hstep (hullO o (endsOf (rowsK r k))) (r.1.1+(k:Int),(rowOf r (r.1.1+(k:Int))).2.1)) _ hb.2 (xm))|refine sg ?_ ?_<;>(intro h;first|exact sz h|refine sy h ?_)|exact sq|fail)
   refine zg (rowsN r - (k+1)) (by omega) ⟨k+1,rfl,by omega,rfl,.cons rfl (.cons rfl (.cons (by rw [<-hnx];rfl) .nil)),xk,by omega,?_,xm⟩
   rw [zay o r k hyes']
   assumption
set_option maxHeartbeats 1000000 in
theorem zgl (rs:List Rg) (hr:∀ r ∈ rs,Sm 400000 r) {s:Nat} {f:Bool} {e:Nat} {M:Mem} (hs:∀ k (hk:k < rs.length),Rd M s (0+k*8) 8 (rgc rs[k])) (hlen:rs.length<=1000000) :
  CallOk Tryz.prog 141 [.slice (some (s,0)) rs.length f e] M (fun w M'=>w=.tup [rgv ((hullO none (rs.flatMap endsL)).getD zRg),I (if (hullO none (rs.flatMap endsL)).isSome then 0 else 4)] /\ Grow M M'):=by
 refine z6 kq141 rfl ?_
 dsimp only [xq141,qm,qf,ql,qL,qi,qb,qc,qa,qn,qB,qC,qS,qo,qq,qZ,zipE,Nat.reduceAdd]
 (repeat' first|with_reducible intro _|refine sv ?_|refine sc ?_ ?_<;>(intro h;try exact sz h)|refine sg ?_ ?_<;>(intro h;first|exact sz h|refine sy h ?_)|exact sq|fail)
 rename_i n2 M1 hn2 e1 e2 n4 M2 hn4 e3 e4
 refine zc (fun n E ms M'=>∃ k:Nat,n=rs.length - k /\ k<=rs.length /\ ms=[] /\ Has E [(0,.slice (some (s,0)) rs.length f e),(2,.ptr (some (n2,0))),(4,.ptr (some (n4,0))),(5,I (k:Int))] /\ Grow M M' /\ M2.next<=M'.next /\
   At M' n4 (.cells true (hullc (hullO none ((rs.take k).flatMap endsL))) 227) /\ At M' n2 (.cells true (rgc zRg) 28)) ?_ rs.length _ _ _
  ⟨0,by omega,by omega,rfl,.cons rfl (.cons rfl (.cons rfl (.cons rfl .nil))),xg,by omega,xm,xm⟩
 rintro n E ms M3 ⟨k,rfl,hk,rfl,hE,hG,hle,hP,hN⟩
 refine zw hE ?_
 by_cases hlast:k=rs.length
 ·subst hlast
  rw [List.take_length] at hP
  (repeat' first|with_reducible intro _|refine sv ?_|refine sc ?_ ?_<;>(intro h;try exact sz h)|refine sg ?_ ?_<;>(intro h;first|exact sz h|refine sy h ?_)|exact sq|fail)
  all_goals (refine kf ?_)
  all_goals refine ⟨?_,xg⟩
  all_goals generalize hullO none (rs.flatMap endsL)=oo at *
  all_goals cases oo<;>first|rfl|exact absurd h (by simp)
 ·have hlt:k < rs.length:=by omega
  have hsk:Rd M3 s (0+k*8) 8 (rgc rs[k]):=(hs k hlt).grow hG
  have htake:(rs.take (k+1)).flatMap endsL=(rs.take k).flatMap endsL ++ endsL rs[k]:=by rw [List.take_succ_eq_append_getElem hlt,List.flatMap_append];simp
  have cf:=zo4 (hullO none ((rs.take k).flatMap endsL)) rs[k] (hr _ (List.getElem_mem hlt)) hP
  (have hrd0:=hsk;repeat' first|with_reducible intro _|refine sv ?_|refine sc ?_ ?_<;>(intro h;try exact sz h)|(with_reducible first|apply znh|apply zmp);exact gd;exact rfl;exact rfl;exact cf|refine sg ?_ ?_<;>(intro h;first|exact sz h|refine sy h ?_)|exact sq|fail)
  refine zg (rs.length - (k+1)) (by omega) ⟨k+1,rfl,by omega,rfl,.cons rfl (.cons rfl (.cons rfl (.cons rfl .nil))),xg,by omega,?_,xm⟩
  rw [htake,z5j]
  assumption
theorem z8z (r:Rg) (hr:Sm 400000 r) {s:Nat} {f:Bool} {e:Nat} {M:Mem} (hs:Rd M s 0 8 (rgc r)) :
  CallOk Tryz.prog 141 [.slice (some (s,0)) 1 f e] M (fun w M'=>w=.tup [rgv ((tightO r).getD zRg),I (eTi r)] /\ Grow M M'):=by
 have h:=zgl [r] (s:=s) (f:=f) (e:=e) (M:=M) (fun r' hr'=>by obtain rfl:=List.mem_singleton.1 hr';exact hr) (fun k hk=>by
  obtain rfl:k=0:=by simpa using hk
  exact hs) (by simp)
 rw [show List.flatMap endsL [r]=endsL r by simp] at h
 exact h
theorem zji (a b:Rg) (ha:Sm 400000 a) (hb:Sm 400000 b) {s:Nat} {f:Bool} {e:Nat} {M:Mem} (h0:Rd M s 0 8 (rgc a)) (h1:Rd M s 8 8 (rgc b)) :
  CallOk Tryz.prog 141 [.slice (some (s,0)) 2 f e] M (fun w M'=>w=.tup [rgv ((hullO none (endsL a ++ endsL b)).getD zRg),I (if (hullO none (endsL a ++ endsL b)).isSome then 0 else 4)] /\ Grow M M'):=by
 have h:=zgl [a,b] (s:=s) (f:=f) (e:=e) (M:=M) (fun r' hr'=>by
   rcases List.mem_cons.1 hr' with rfl|hr'
   ·exact ha
   ·obtain rfl:=List.mem_singleton.1 hr';exact hb) (fun k hk=>by
   match k,hk with
   | 0,_=>exact h0
   | 1,_=>exact h1
   | k+2,hk=>exact absurd hk (by simp)) (by simp)
 rw [show List.flatMap endsL [a,b]=endsL a ++ endsL b by simp] at h
 exact h
theorem zda (r:Rg) (M:Mem):CallOk Tryz.prog 102 [rgv r] M (fun w M'=>w=resv (tightF r) /\ Grow M M'):=by
 refine z6 kq102 rfl ?_
 dsimp only [xq102,qm,qL,qi,qb,qe,qc,qC,qS,qo,qq,qZ,zipE,Nat.reduceAdd]
 by_cases hok:RgOk r
 ·have hc:eRg r=0:=if_pos hok
  (repeat' first|with_reducible intro _|refine sv ?_|refine sc ?_ ?_<;>(intro h;try exact sz h)|(with_reducible first|apply za|apply z8|apply z5);exact gd;exact rfl;exact rfl;(first|exact z06 r _|exact z8z r (hok.sm.mono (by omega)) (Rd.of_at (At.new_same (by assumption)) rfl))|refine sg ?_ ?_<;>(intro h;first|exact sz h|refine sy h ?_)|exact sq|fail)
  all_goals (refine kf ?_)
  all_goals refine ⟨?_,xg⟩
  all_goals (unfold tightF eTi;rw [if_pos hok];cases tightO r<;>rfl)
 ·have hc:eRg r=11:=if_neg hok
  (repeat' first|with_reducible intro _|refine sv ?_|refine sc ?_ ?_<;>(intro h;try exact sz h)|(with_reducible first|apply za|apply z8|apply z5);exact gd;exact rfl;exact rfl;exact z06 r _|refine sg ?_ ?_<;>(intro h;first|exact sz h|refine sy h ?_)|exact sq|fail)
  all_goals (refine kf ?_)
  all_goals refine ⟨?_,xg⟩
  all_goals (unfold tightF;rw [if_neg hok,hc];rfl)
theorem zm0 (a b:Rg) (M:Mem):CallOk Tryz.prog 162 [rgv a,rgv b] M (fun w M'=>w=resv (joinF a b) /\ Grow M M'):=by
 refine z6 kq162 rfl ?_
 dsimp only [xq162,qm,qL,qi,qb,qe,qc,qC,qS,qo,qq,qZ,zipE,Nat.reduceAdd]
 by_cases hok:RgOk a /\ RgOk b
 ·have hc:eRg a=0:=if_pos hok.1
  have hc':eRg b=0:=if_pos hok.2
  have h0:(if eRg a=0 then eRg b else eRg a)=0:=by rw [hc,hc'];rfl
  (repeat' first|with_reducible intro _|refine sv ?_|refine sc ?_ ?_<;>(intro h;try exact sz h)|(with_reducible first|apply za|apply z8|apply z5);exact gd;exact rfl;exact rfl;(first|exact zod a b _|exact zji a b (hok.1.sm.mono (by omega)) (hok.2.sm.mono (by omega)) (Rd.of_at (At.new_same (by assumption)) rfl) (Rd.of_at (At.new_same (by assumption)) rfl))|refine sg ?_ ?_<;>(intro h;first|exact sz h|refine sy h ?_)|exact sq|fail)
  all_goals (refine kf ?_)
  all_goals refine ⟨?_,xg⟩
  cases hs:(hullO none (endsL a ++ endsL b)).isSome
  ·rw [z4t hok hs]
   have:hullO none (endsL a ++ endsL b)=none:=by simpa using hs
   rw [this];rfl
  ·rw [z4u hok hs];rfl
 ·have h0:(if eRg a=0 then eRg b else eRg a)=11:=by
   unfold eRg
   by_cases h1:RgOk a
   ·rw [if_pos h1,if_pos rfl,if_neg (fun h2=>hok ⟨h1,h2⟩)]
   ·rw [if_neg h1];rfl
  (repeat' first|with_reducible intro _|refine sv ?_|refine sc ?_ ?_<;>(intro h;try exact sz h)|(with_reducible first|apply za|apply z8|apply z5);exact gd;exact rfl;exact rfl;exact zod a b _|refine sg ?_ ?_<;>(intro h;first|exact sz h|refine sy h ?_)|exact sq|fail)
  all_goals (refine kf ?_)
  all_goals refine ⟨?_,xg⟩
  all_goals (unfold joinF;rw [if_neg hok,h0];rfl)
theorem zf8 (p:Pt):hstep none p=some (ofP p):=by
 unfold hstep map4 spanB ofP iMin iMax
 dsimp only [Option.getD]
 have h1:∀ x:Int,min x x=x:=fun x=>by omega
 have h2:∀ x:Int,max x x=x:=fun x=>by omega
 simp only [h1,h2]
theorem zjl (p:Pt) (hp:SmP 1000000 p) (M:Mem):CallOk Tryz.prog 178 [ptv p] M (fun w M'=>w=rgv (ofP p) /\ Grow M M'):=by
 refine z6 kq178 rfl ?_
 dsimp only [xq178,qm,qf,qL,qb,qc,qS,qo,qq,qZ,zipE,Nat.reduceAdd]
 (repeat' first|with_reducible intro _|refine sv ?_|refine sc ?_ ?_<;>(intro h;try exact sz h)|(with_reducible first|apply znh|apply zmp);exact gd;exact rfl;exact rfl;exact zm3 none _ hp (xm)|refine sg ?_ ?_<;>(intro h;first|exact sz h|refine sy h ?_)|exact sq|fail)
 rename_i hat
 rw [zf8] at hat
 (repeat' first|with_reducible intro _|refine sv ?_|refine sc ?_ ?_<;>(intro h;try exact sz h)|refine sg ?_ ?_<;>(intro h;first|exact sz h|refine sy h ?_)|exact sq|fail)
 (refine kf ?_)
 exact ⟨rfl,xg⟩
theorem z6d (r:Rg) (p:Int × Int) (M:Mem):CallOk Tryz.prog 161 [rgv r,ptv p] M (fun w M'=>w=resv (moveF r p) /\ Grow M M'):=by
 refine z6 kq161 rfl ?_
 dsimp only [xq161,qm,qf,ql,qL,qi,qb,qe,qc,qC,qg,qS,qo,qk,qK,qq,qZ,zipE,Nat.reduceAdd]
 by_cases hok:RgOk r
 ·have hc:eRg r=0:=if_pos hok
  by_cases hp:SmP 65536 p
  ·have hsof:Sm 1000000 (ofP p):=by unfold Sm ofP;dsimp only;omega
   cases ht:tightO r with
   | none =>
    have he:eTi r=4:=by unfold eTi;rw [ht];rfl
    (repeat' first|with_reducible intro _|refine sv ?_|refine sc ?_ ?_<;>(intro h;try exact sz h)|(with_reducible first|apply zj|apply zi|apply zd);exact gd;exact rfl;exact rfl;exact z0b _ _ _ _|(with_reducible first|apply za|apply z8|apply z5);exact gd;exact rfl;exact rfl;(first|exact z06 r _|exact z8z r (hok.sm.mono (by omega)) (Rd.of_at (At.new_same (by assumption)) rfl))|refine sg ?_ ?_<;>(intro h;first|exact sz h|refine sy h ?_)|exact sq|fail)
    all_goals (refine kf ?_)
    all_goals refine ⟨?_,xg⟩
    all_goals (unfold moveF;rw [if_pos hok,if_pos hp,ht,he];rfl)
   | some t =>
    have he:eTi r=0:=by unfold eTi;rw [ht];rfl
    have hs:=zed hok.sm
    (repeat' first|with_reducible intro _|refine sv ?_|refine sc ?_ ?_<;>(intro h;try exact sz h)|(with_reducible first|apply zj|apply zi|apply zd);exact gd;exact rfl;exact rfl;exact z0b _ _ _ _|(with_reducible first|apply za|apply z8|apply z5);exact gd;exact rfl;exact rfl;(first|exact z06 r _|exact z8z r (hok.sm.mono (by omega)) (Rd.of_at (At.new_same (by assumption)) rfl)|exact zjl p (hp.mono (by omega)) _|exact zm4 ((tightO r).getD zRg) (ofP p) (hs.mono (by omega)) hsof _|exact zmd (map4 plusB ((tightO r).getD zRg) (ofP p)) _)|refine sg ?_ ?_<;>(intro h;first|exact sz h|refine sy h ?_)|exact sq|fail)
    all_goals (refine kf ?_)
    all_goals refine ⟨?_,xg⟩
    all_goals (unfold moveF;rw [if_pos hok,if_pos hp,ht];rfl)
  ·have hz:moveF r p=(zRg,7):=by unfold moveF;rw [if_pos hok,if_neg hp]
   (repeat' first|with_reducible intro _|refine sv ?_|refine sc ?_ ?_<;>(intro h;try exact sz h)|(with_reducible first|apply zj|apply zi|apply zd);exact gd;exact rfl;exact rfl;exact z0b _ _ _ _|(with_reducible first|apply za|apply z8|apply z5);exact gd;exact rfl;exact rfl;exact z06 r _|refine sg ?_ ?_<;>(intro h;first|exact sz h|refine sy h ?_)|exact sq|fail)
   all_goals first
    |(exact absurd ⟨by omega,by omega⟩ hp)
    |((refine kf ?_)
      refine ⟨?_,xg⟩
      rw [hz];rfl)
 ·have hc:eRg r=11:=if_neg hok
  (repeat' first|with_reducible intro _|refine sv ?_|refine sc ?_ ?_<;>(intro h;try exact sz h)|(with_reducible first|apply za|apply z8|apply z5);exact gd;exact rfl;exact rfl;exact z06 r _|refine sg ?_ ?_<;>(intro h;first|exact sz h|refine sy h ?_)|exact sq|fail)
  all_goals (refine kf ?_)
  all_goals refine ⟨?_,xg⟩
  all_goals (unfold moveF;rw [if_neg hok,hc];rfl)
theorem zd9 (r:Rg) (p q:Int × Int) (M:Mem):CallOk Tryz.prog 142 [rgv r,ptv p,ptv q] M (fun w M'=>w=resv (sweptF r p q) /\ Grow M M'):=by
 refine z6 kq142 rfl ?_
 dsimp only [xq142,qm,qL,qi,qb,qe,qc,qC,qS,qo,qq,qZ,zipE,Nat.reduceAdd]
 by_cases h1:(moveF r p).2=0
 ·by_cases h2:(moveF r q).2=0
  ·(repeat' first|with_reducible intro _|refine sv ?_|refine sc ?_ ?_<;>(intro h;try exact sz h)|(with_reducible first|apply za|apply z8|apply z5);exact gd;exact rfl;exact rfl;(first|exact z6d r p _|exact z6d r q _|exact zm0 (moveF r p).1 (moveF r q).1 _)|refine sg ?_ ?_<;>(intro h;first|exact sz h|refine sy h ?_)|exact sq|fail)
   all_goals (refine kf ?_)
   all_goals refine ⟨?_,xg⟩
   all_goals (unfold sweptF;rw [if_pos h1,if_pos h2];rfl)
  ·(repeat' first|with_reducible intro _|refine sv ?_|refine sc ?_ ?_<;>(intro h;try exact sz h)|(with_reducible first|apply za|apply z8|apply z5);exact gd;exact rfl;exact rfl;(first|exact z6d r p _|exact z6d r q _)|refine sg ?_ ?_<;>(intro h;first|exact sz h|refine sy h ?_)|exact sq|fail)
   all_goals (refine kf ?_)
   all_goals refine ⟨?_,xg⟩
   all_goals (unfold sweptF;rw [if_pos h1,if_neg h2];rfl)
 ·(repeat' first|with_reducible intro _|refine sv ?_|refine sc ?_ ?_<;>(intro h;try exact sz h)|(with_reducible first|apply za|apply z8|apply z5);exact gd;exact rfl;exact rfl;exact z6d r p _|refine sg ?_ ?_<;>(intro h;first|exact sz h|refine sy h ?_)|exact sq|fail)
  all_goals (refine kf ?_)
  all_goals refine ⟨?_,xg⟩
  all_goals (unfold sweptF;rw [if_neg h1];rfl)
theorem zky (a b:Int) (ha:-1000000000000000<=a /\ a<=1000000000000000) (hb:b ≠ 0) (hb':-1000000000000000<=b /\ b<=1000000000000000) (M:Mem):CallOk Tryz.prog 145 [I a,I b] M (fun w M'=>w=I (a.fdiv b) /\ M'=M):=by
 have h1:=zmr (a:=a) hb
 have h3:=zcb hb ha
 have h4:-1000000000000001<=a.tdiv b /\ a.tdiv b<=1000000000000001:=by rw [h1] at h3;split at h3<;>omega
 refine z6 kq145 rfl ?_
 dsimp only [xq145,qm,qi,qB,qC,qg,qo,qq,qZ,zipE,Nat.reduceAdd]
 (repeat' first|with_reducible intro _|refine sv ?_|refine sc ?_ ?_<;>(intro h;try exact sz h)|refine sg ?_ ?_<;>(intro h;first|exact sz h|refine sy h ?_)|exact sq|fail)
 all_goals (refine kf ?_)
 all_goals refine ⟨?_,rfl⟩
 all_goals rw [h1]
 ·rw [if_pos ⟨by assumption,fun e=>h (by rw [decide_eq_decide,e])⟩];rfl
 ·rw [if_neg (fun hh=>hh.2 (propext (decide_eq_decide.1 h))),Int.sub_zero];rfl
 ·rw [if_neg (fun hh=>hh.1 (by assumption)),Int.sub_zero];rfl
theorem c_Up (a b:Int) (ha:-1000000000000000<=a /\ a<=1000000000000000) (hb:b ≠ 0) (hb':-1000000000000000<=b /\ b<=1000000000000000) (M:Mem):CallOk Tryz.prog 113 [I a,I b] M (fun w M'=>w=I (-((-a).fdiv b)) /\ M'=M):=by
 have h3:=zcb (a:=-a) (B:=1000000000000000) hb (by omega)
 refine z6 kq113 rfl ?_
 dsimp only [xq113,qm,qi,qc,qo,qq,zipE,Nat.reduceAdd]
 (repeat' first|with_reducible intro _|refine sv ?_|refine sc ?_ ?_<;>(intro h;try exact sz h)|(with_reducible first|apply zj|apply zi|apply zd);exact gd;exact rfl;exact rfl;exact zky _ _ (by omega) hb hb' _|refine sg ?_ ?_<;>(intro h;first|exact sz h|refine sy h ?_)|exact sq|fail)
 all_goals (refine kf ?_)
 all_goals exact ⟨rfl,rfl⟩
def leftF (t:Int × Int × Int) (q:Pt × Pt):Int × Int × Int:=(t.1,(clip1 t.1 (t.2.1,t.2.2) q).1,(clip1 t.1 (t.2.1,t.2.2) q).2)
theorem zmc (t:Int × Int × Int) (q:Pt × Pt) (hx:-32768<=t.1 /\ t.1<=32768) (h1:PlP q.1) (h2:PlP q.2) (ht:-1000000000000000<=t.2.1 /\ t.2.1<=1000000000000000) (M:Mem) :
  CallOk Tryz.prog 165 [rowv t,ptv q.1,ptv q.2] M (fun w M'=>w=rowv (leftF t q) /\ Grow M M'):=by
 obtain ⟨b1,b2,b3,b4⟩:=zcz hx h1 h2
 unfold sideK at b1
 unfold sideN at b2
 dsimp only [PlP,Pl] at h1 h2
 refine z6 kq165 rfl ?_
 dsimp only [xq165,qm,qf,ql,qL,qb,qc,qB,qC,qS,qo,qk,qK,qq,qZ,zipE,Nat.reduceAdd]
 unfold leftF clip1 sideK sideN
 by_cases hk0:0 < q.2.1 - q.1.1
 ·rw [if_pos hk0,<- z40 hk0]
  (repeat' first|with_reducible intro _|refine sv ?_|refine sc ?_ ?_<;>(intro h;try exact sz h)|(with_reducible first|apply zj|apply zi|apply zd);exact gd;exact rfl;exact rfl;exact c_Up _ _ (by omega) (by omega) (by omega) _|refine sg ?_ ?_<;>(intro h;first|exact sz h|refine sy h ?_)|exact sq|fail)
  (refine kf ?_)
  exact ⟨rfl,xg⟩
 ·rw [if_neg hk0]
  by_cases hk1:q.2.1 - q.1.1 < 0
  ·rw [if_pos hk1,<- zaq hk1]
   (repeat' first|with_reducible intro _|refine sv ?_|refine sc ?_ ?_<;>(intro h;try exact sz h)|(with_reducible first|apply zj|apply zi|apply zd);exact gd;exact rfl;exact rfl;exact zky _ _ (by omega) (by omega) (by omega) _|refine sg ?_ ?_<;>(intro h;first|exact sz h|refine sy h ?_)|exact sq|fail)
   (refine kf ?_)
   exact ⟨rfl,xg⟩
  ·rw [if_neg hk1]
   by_cases hn0:0 < (q.2.1 - q.1.1)*q.1.2+(q.2.2 - q.1.2)*(t.1 - q.1.1)
   ·rw [if_pos hn0]
    (repeat' first|with_reducible intro _|refine sv ?_|refine sc ?_ ?_<;>(intro h;try exact sz h)|refine sg ?_ ?_<;>(intro h;first|exact sz h|refine sy h ?_)|exact sq|fail)
    (refine kf ?_)
    exact ⟨rfl,xg⟩
   ·rw [if_neg hn0]
    (repeat' first|with_reducible intro _|refine sv ?_|refine sc ?_ ?_<;>(intro h;try exact sz h)|refine sg ?_ ?_<;>(intro h;first|exact sz h|refine sy h ?_)|exact sq|fail)
    (refine kf ?_)
    exact ⟨rfl,xg⟩
set_option maxHeartbeats 4000000 in
theorem z3t {a:Option (Nat × Nat)} {f:Bool} {l:List Pt} {M:Mem} (hl:SlA 2 ptc M a l) (hlen:l.length<=1000000000000000):CallOk Tryz.prog 100 [.slice a l.length f 2] M (fun w M'=>w=I (eFd l) /\ Grow M M'):=by
 refine z6 kq100 rfl ?_
 dsimp only [xq100,qm,qL,qi,qc,qa,qn,qB,qC,qg,qo,qk,qK,qq,qZ,zipE,Nat.reduceAdd]
 by_cases hn:3<=l.length /\ l.length<=8
 rotate_left
 ·have hno:eFd l=12:=if_neg fun h=>hn ⟨h.1,h.2.1⟩
  have hw:¬ (3<=(l.length:Int) /\ (l.length:Int)<=8):=by omega
  (repeat' first|with_reducible intro _|refine sv ?_|refine sc ?_ ?_<;>(intro h;try exact sz h)|(with_reducible first|apply zj|apply zi|apply zd);exact gd;exact rfl;exact rfl;exact z0b _ _ _ _|refine sg ?_ ?_<;>(intro h;first|exact sz h|refine sy h ?_)|exact sq|fail)
  all_goals (refine kf ?_)
  all_goals exact ⟨by rw [hno];rfl,xg⟩
 obtain ⟨i,o,rfl,hr⟩:=hl.resolve_left (fun h=>by subst h;simp at hn)
 have hw:(3<=(l.length:Int) /\ (l.length:Int)<=8):=by omega
 (repeat' first|with_reducible intro _|refine sv ?_|refine sc ?_ ?_<;>(intro h;try exact sz h)|(with_reducible first|apply zj|apply zi|apply zd);exact gd;exact rfl;exact rfl;exact z0b _ _ _ _|refine sg ?_ ?_<;>(intro h;first|exact sz h|refine sy h ?_)|exact sq|fail)
 refine zc (fun n E ms M'=>∃ k:Nat,n=l.length - k /\ k<=l.length /\ ms=[] /\ Has E [(0,.slice (some (i,o)) l.length f 2),(3,I k)] /\ Grow M M' /\ ∀ p ∈ l.take k,PlP p)
  ?_ l.length _ _ _ ⟨0,by omega,by omega,rfl,.cons rfl (.cons rfl .nil),xg,by simp⟩
 rintro n E ms M1 ⟨k,rfl,hk,rfl,hE,hg,hpl⟩
 have hle:=hg.le
 refine zw hE ?_
 have hr1:∀ k (hk:k < l.length),Rd M1 i (o+k*2) 2 (ptc l[k]):=fun k hk=>(hr k hk).grow hg
 by_cases hlast:k=l.length
 rotate_left
 ·have hlt:k < l.length:=by omega
  have htake:l.take (k+1)=l.take k ++ [l[k]]:=List.take_succ_eq_append_getElem hlt
  by_cases hp:PlP l[k]
  ·have he:Pl l[k].1 l[k].2:=hp
   (have hrd0:=hr1 k hlt;repeat' first|with_reducible intro _|refine sv ?_|refine sc ?_ ?_<;>(intro h;try exact sz h)|(with_reducible first|apply za|apply z8|apply z5);exact gd;exact rfl;exact rfl;exact z90 _ _ _|refine sg ?_ ?_<;>(intro h;first|exact sz h|refine sy h ?_)|exact sq|fail)
   refine zg (l.length - (k+1)) (by omega) ⟨k+1,rfl,by omega,rfl,.cons rfl (.cons rfl .nil),xg,?_⟩
   rw [htake]
   intro p hp'
   rcases List.mem_append.1 hp' with h|h
   ·exact hpl p h
   ·obtain rfl:=List.mem_singleton.1 h;exact hp
  ·have he:¬ Pl l[k].1 l[k].2:=hp
   have hno:eFd l=12:=if_neg fun h=>hp (h.2.2.1 _ (List.getElem_mem hlt))
   (have hrd0:=hr1 k hlt;repeat' first|with_reducible intro _|refine sv ?_|refine sc ?_ ?_<;>(intro h;try exact sz h)|(with_reducible first|apply za|apply z8|apply z5);exact gd;exact rfl;exact rfl;exact z90 _ _ _|refine sg ?_ ?_<;>(intro h;first|exact sz h|refine sy h ?_)|exact sq|fail)
   all_goals (refine kf ?_)
   all_goals exact ⟨by rw [hno];rfl,xg⟩
 subst hlast
 rw [List.take_length] at hpl
 (repeat' first|with_reducible intro _|refine sv ?_|refine sc ?_ ?_<;>(intro h;try exact sz h)|refine sg ?_ ?_<;>(intro h;first|exact sz h|refine sy h ?_)|exact sq|fail)
 have hpl':∀ (i:Nat) (h:i < l.length),PlP l[i]:=fun i h=>hpl _ (List.getElem_mem h)
 have hmod:∀ i:Nat,((i:Int)+1) % (l.length:Int)=(((i+1) % l.length:Nat):Int):=fun i=>by rw [Int.natCast_emod];rfl
 have hml:∀ i:Nat,(i+1) % l.length < l.length:=fun i=>z4v (by omega)
 refine zc (fun n E ms M'=>∃ k:Nat,n=l.length - k /\ k<=l.length /\ ms=[] /\ Has E [(0,.slice (some (i,o)) l.length f 2),(4,I k)] /\ Grow M M' /\
   ∀ (i j:Nat) (hi:i < k) (hi':i < l.length) (hj:j < l.length),j ≠ i->j ≠ (i+1) % l.length->0 < turnP l[i] (l[(i+1) % l.length]'(hml i)) l[j])
  ?_ l.length _ _ _ ⟨0,by omega,by omega,rfl,.cons rfl (.cons rfl .nil),xg,fun i j hi=>absurd hi (Nat.not_lt_zero _)⟩
 clear hE hr1 hg hle
 clear M1
 rintro n E ms M1 ⟨k,rfl,hk,rfl,hE,hg,hall⟩
 have hle:=hg.le
 refine zw hE ?_
 have hr1:∀ k (hk:k < l.length),Rd M1 i (o+k*2) 2 (ptc l[k]):=fun k hk=>(hr k hk).grow hg
 by_cases hlast:k=l.length
 ·subst hlast
  have hyes:eFd l=0:=if_pos ⟨hn.1,hn.2,hpl,fun i j hi hj=>hall i j hi hi hj⟩
  (repeat' first|with_reducible intro _|refine sv ?_|refine sc ?_ ?_<;>(intro h;try exact sz h)|refine sg ?_ ?_<;>(intro h;first|exact sz h|refine sy h ?_)|exact sq|fail)
  all_goals (refine kf ?_)
  all_goals exact ⟨by rw [hyes];rfl,xg⟩
 have hlt:k < l.length:=by omega
 have hk1:=hmod k
 have hk1':=hml k
 (have hrd0:=hr1 k hlt;repeat' first|with_reducible intro _|refine sv ?_|refine sc ?_ ?_<;>(intro h;try exact sz h)|refine sg ?_ ?_<;>(intro h;first|exact sz h|refine sy h ?_)|exact sq|fail)
 refine zc (fun n E ms M'=>∃ kk:Nat,n=l.length - kk /\ kk<=l.length /\ ms=[] /\ Has E [(0,.slice (some (i,o)) l.length f 2),(4,I k),(5,I ((k+1) % l.length:Nat)),(6,I kk)] /\
   Grow M1 M' /\ ∀ (j:Nat) (hi:j < kk) (hj:j < l.length),j ≠ k->j ≠ (k+1) % l.length->0 < turnP l[k] (l[(k+1) % l.length]'(hml k)) l[j])
  ?_ l.length _ _ _ ⟨0,by omega,by omega,rfl,.cons rfl (.cons rfl (.cons (by rw [<-hk1];rfl) (.cons rfl .nil))),xg,fun j hi=>absurd hi (Nat.not_lt_zero _)⟩
 rintro n E ms M4 ⟨kk,rfl,hkk,rfl,hE4,hg4,hall4⟩
 have hle4:=hg4.le
 refine zw hE4 ?_
 have hr4:∀ k (hk:k < l.length),Rd M4 i (o+k*2) 2 (ptc l[k]):=fun k hk=>(hr1 k hk).grow hg4
 by_cases hlast4:kk=l.length
 ·subst hlast4
  (repeat' first|with_reducible intro _|refine sv ?_|refine sc ?_ ?_<;>(intro h;try exact sz h)|refine sg ?_ ?_<;>(intro h;first|exact sz h|refine sy h ?_)|exact sq|fail)
  refine zg (l.length - (k+1)) (by omega) ⟨k+1,rfl,by omega,rfl,.cons rfl (.cons rfl .nil),xg,fun i' j hi hi' hj h1 h2=>?_⟩
  by_cases hik:i'=k
  ·subst hik;exact hall4 j hj hj h1 h2
  ·exact hall i' j (by omega) hi' hj h1 h2
 have hlt4:kk < l.length:=by omega
 have hstep:(kk=k ∨ kk=(k+1) % l.length ∨ 0 < turnP l[k] (l[(k+1) % l.length]'(hml k)) l[kk])->∀ (j:Nat) (hi:j < kk+1) (hj:j < l.length),j ≠ k->j ≠ (k+1) % l.length->0 < turnP l[k] (l[(k+1) % l.length]'(hml k)) l[j]:=fun hc j hi hj h1 h2=>by
  by_cases hjk:j=kk
  ·subst hjk
   rcases hc with hc|hc|hc
   ·exact absurd hc h1
   ·exact absurd hc h2
   ·exact hc
  ·exact hall4 j (by omega) hj h1 h2
 have hi4:i < M4.next:=(hr4 kk hlt4).2
 have hpa:=hpl' k hlt
 have hpb:=hpl' _ (hml k)
 have hpc:=hpl' kk hlt4
 have cl:=zmj l[k] (l[(k+1) % l.length]'(hml k)) l[kk] hpa hpb hpc
 (have hrd0:=hr4 kk hlt4;have hrd1:=hr4 _ (hml k);have hrd2:=hr4 k hlt;repeat' first|with_reducible intro _|refine sv ?_|refine sc ?_ ?_<;>(intro h;try exact sz h)|(with_reducible first|apply za|apply z8|apply z5);exact gd;exact rfl;exact rfl;exact cl _|refine sg ?_ ?_<;>(intro h;first|exact sz h|refine sy h ?_)|exact sq|fail)
 all_goals first
  |(refine zg (l.length - (kk+1)) (by omega) ⟨kk+1,rfl,by omega,rfl,.cons rfl (.cons rfl (.cons rfl (.cons rfl .nil))),xg,hstep (by omega)⟩;done)
  |((refine kf ?_)
    refine ⟨?_,xg⟩
    rw [show eFd l=12 from if_neg fun hF=>by have:=hF.2.2.2 k kk hlt hlt4 (by omega) (by omega);omega];rfl)
theorem zm6 {a:Option (Nat × Nat)} {f:Bool} {l:List Pt} {r:Rg} {M:Mem} (hl:SlA 2 ptc M a l) (hlen:l.length<=1000000000000000):CallOk Tryz.prog 163 [.slice a l.length f 2,rgv r] M (fun w M'=>w=I (if eFd l=0 then eRg r else eFd l) /\ Grow M M'):=by
 refine z6 kq163 rfl ?_
 dsimp only [xq163,qm,qL,qi,qb,qc,qC,qq,zipE,Nat.reduceAdd]
 have hcf:=fun M' (hg:Grow M M')=>z3t (f:=f) (hl.grow hg) hlen
 (repeat' first|with_reducible intro _|refine sv ?_|refine sc ?_ ?_<;>(intro h;try exact sz h)|(with_reducible first|apply za|apply z8|apply z5);exact gd;exact rfl;exact rfl;(first|exact hcf _ (xg)|exact z06 r _)|refine sg ?_ ?_<;>(intro h;first|exact sz h|refine sy h ?_)|exact sq|fail)
 all_goals (refine kf ?_)
 all_goals refine ⟨?_,xg⟩
 ·rw [if_neg (by omega)];rfl
 ·rw [if_pos (by omega)];rfl
def pw (j:Nat):Int:=((2 ^ j:Nat):Int)
theorem zi3 (j:Nat):pw (j+1)=2*pw j:=by unfold pw;rw [Nat.pow_succ];omega
theorem zoy (j:Nat):0 < pw j:=by unfold pw;have:0 < 2 ^ j:=Nat.pow_pos (by omega);omega
theorem zqe {j k:Nat} (h:j<=k):pw j<=pw k:=by unfold pw;have:=Nat.pow_le_pow_right (n:=2) (by omega) h;omega
def p2:Nat->Int | 0=>0|j+1=>pw j
theorem zn8 (j:Nat):p2 (j+1) / 2=p2 j:=by
 cases j with
 | zero=>decide
 | succ j=>show pw (j+1) / 2=pw j;rw [zi3];omega
set_option maxHeartbeats 1000000 in
theorem zoa (n:Int) (hn:0<=n /\ n<=1099511627776) (M:Mem):CallOk Tryz.prog 147 [I n] M (fun w M'=>w=I (sqF n) /\ M'=M):=by
 refine z6 kq147 rfl ?_
 dsimp only [xq147,qm,qi,qB,qC,qq,zipE,Nat.reduceAdd]
 (repeat' first|with_reducible intro _|refine sv ?_|refine sc ?_ ?_<;>(intro h;try exact sz h)|refine sg ?_ ?_<;>(intro h;first|exact sz h|refine sy h ?_)|exact sq|fail)
 refine zc (fun m E ms M'=>∃ (j:Nat) (r:Int),m=j /\ j<=21 /\ ms=[] /\ Has E [(0,I n),(3,I r),(4,I (p2 j))] /\ M'=M /\ 0<=r /\ r<=1048576 /\ r*r<=n /\ n < (r+pw j)*(r+pw j)) ?_ 21 _ _ _
  ⟨21,0,rfl,by omega,rfl,.cons rfl (.cons rfl (.cons rfl .nil)),rfl,by omega,by omega,by omega,?_⟩
 rotate_left
 ·rw [show pw 21=2097152 from rfl];omega
 rintro j E ms M1 ⟨_,r,rfl,hj,rfl,hE,rfl,h0,hr,h1,h2⟩
 refine zw hE ?_
 cases j with
 | zero =>
  rw [show pw 0=1 from rfl] at h2
  rw [show p2 0=0 from rfl]
  (repeat' first|with_reducible intro _|refine sv ?_|refine sc ?_ ?_<;>(intro h;try exact sz h)|refine sg ?_ ?_<;>(intro h;first|exact sz h|refine sy h ?_)|exact sq|fail)
  (refine kf ?_)
  exact ⟨congrArg I (zea h0 h1 h2),rfl⟩
 | succ j =>
  have hh:=zn8 j
  have hpj:=zoy j
  have hle:pw j<=1048576:=zqe (k:=20) (by omega)
  have hs:=zi3 j
  rw [hs] at h2
  rw [show p2 (j+1)=pw j from rfl] at hh ⊢
  have hb:=z0o (a:=r+pw j) (b:=r+pw j) (A:=2097152) (B:=2097152) (by omega) (by omega)
  have e2:r+pw j+pw j=r+2*pw j:=by omega
  (repeat' first|with_reducible intro _|refine sv ?_|refine sc ?_ ?_<;>(intro h;try exact sz h)|refine sg ?_ ?_<;>(intro h;first|exact sz h|refine sy h ?_)|exact sq|fail)
  ·refine zg j (by omega) ⟨j,r+pw j,rfl,by omega,rfl,.cons rfl (.cons rfl (.cons (by rw [<-hh];rfl) .nil)),rfl,by omega,?_,by assumption,by rw [e2];exact h2⟩
   have:=zig (a:=r+pw j) (b:=1048577) (by omega) (by omega)
   omega
  ·exact zg j (by omega) ⟨j,r,rfl,by omega,rfl,.cons rfl (.cons rfl (.cons (by rw [<-hh];rfl) .nil)),rfl,h0,hr,h1,by assumption⟩
def rootE (n:Int):Int:=if 0<=n /\ n<=1099511627776 then 0 else 7
theorem znz (n:Int) (hn:0<=n /\ n<=1099511627776) (M:Mem):CallOk Tryz.prog 118 [I n] M (fun w M'=>w=.tup [I (sqF n),I 0] /\ M'=M):=by
 refine z6 kq118 rfl ?_
 dsimp only [xq118,qm,qi,qc,qo,qq,qZ,zipE,Nat.reduceAdd]
 (repeat' first|with_reducible intro _|refine sv ?_|refine sc ?_ ?_<;>(intro h;try exact sz h)|(with_reducible first|apply zj|apply zi|apply zd);exact gd;exact rfl;exact rfl;(first|exact z6i _ _ _ _|exact zoa _ hn _)|refine sg ?_ ?_<;>(intro h;first|exact sz h|refine sy h ?_)|exact sq|fail)
 (refine kf ?_)
 exact ⟨rfl,rfl⟩
set_option maxHeartbeats 1000000 in
theorem zm1 (n:Int) (hn:0<=n /\ n<=1099511627776) (M:Mem):CallOk Tryz.prog 112 [I n] M (fun w M'=>w=.tup [I (sqF n),I 0] /\ M'=M):=by
 refine z6 kq112 rfl ?_
 dsimp only [xq112,qm,qi,qc,qB,qC,qo,qq,qZ,zipE,Nat.reduceAdd]
 (repeat' first|with_reducible intro _|refine sv ?_|refine sc ?_ ?_<;>(intro h;try exact sz h)|(with_reducible first|apply zj|apply zi|apply zd);exact gd;exact rfl;exact rfl;exact z0b _ _ _ _|refine sg ?_ ?_<;>(intro h;first|exact sz h|refine sy h ?_)|exact sq|fail)
 refine zc (fun m E ms M'=>∃ (lo hi:Int),m=(hi - lo).toNat /\ ms=[] /\ Has E [(0,I n),(4,I lo),(5,I hi)] /\ M'=M /\ 0<=lo /\ lo < hi /\ hi<=2097152 /\ lo*lo<=n /\ n < hi*hi) ?_ 2097152 _ _ _
  ⟨0,2097152,rfl,rfl,.cons rfl (.cons rfl (.cons rfl .nil)),rfl,by omega,by omega,by omega,by omega,by omega⟩
 rintro m E ms M1 ⟨lo,hi,rfl,rfl,hE,rfl,h0,h1,h2,h3,h4⟩
 refine zw hE ?_
 by_cases hd:1 < hi - lo
 ·have hm:lo < (lo+hi) / 2 /\ (lo+hi) / 2 < hi:=by omega
  have hb:=z0o (a:=(lo+hi) / 2) (b:=(lo+hi) / 2) (A:=2097152) (B:=2097152) (by omega) (by omega)
  (repeat' first|with_reducible intro _|refine sv ?_|refine sc ?_ ?_<;>(intro h;try exact sz h)|refine sg ?_ ?_<;>(intro h;first|exact sz h|refine sy h ?_)|exact sq|fail)
  ·exact zg _ (by omega) ⟨(lo+hi) / 2,hi,rfl,rfl,.cons rfl (.cons rfl (.cons rfl .nil)),rfl,by omega,by omega,h2,by assumption,h4⟩
  ·exact zg _ (by omega) ⟨lo,(lo+hi) / 2,rfl,rfl,.cons rfl (.cons rfl (.cons rfl .nil)),rfl,h0,by omega,by omega,h3,by assumption⟩
 ·obtain rfl:hi=lo+1:=by omega
  (repeat' first|with_reducible intro _|refine sv ?_|refine sc ?_ ?_<;>(intro h;try exact sz h)|refine sg ?_ ?_<;>(intro h;first|exact sz h|refine sy h ?_)|exact sq|fail)
  (refine kf ?_)
  exact ⟨by rw [<-zea h0 h3 h4];rfl,rfl⟩
theorem zjm {x:Int} {t:Int × Int} {q:Pt × Pt} (hx:-32768<=x /\ x<=32768) (h1:PlP q.1) (h2:PlP q.2) (ht:-6442450944<=t.1 /\ t.1<=6442450944):-6442450944<=(clip1 x t q).1 /\ (clip1 x t q).1<=6442450944:=by
 obtain ⟨b1,b2,b3,b4⟩:=zcz hx h1 h2
 unfold clip1
 split
 ·rename_i hk
  have:=zcb (a:=-(sideN x q)) (b:=sideK q) (B:=6442450944) (by omega) (by omega)
  rw [z40 hk] at this
  unfold iMax
  dsimp only
  omega
 ·split
  ·exact ht
  ·split
   ·exact ht
   ·exact ht
theorem zde {x:Int} (hx:-32768<=x /\ x<=32768):∀ (qs:List (Pt × Pt)) (t:Int × Int),(∀ q ∈ qs,PlP q.1 /\ PlP q.2)->(-6442450944<=t.1 /\ t.1<=6442450944)->-6442450944<=(clips x t qs).1 /\ (clips x t qs).1<=6442450944
 | [],t,_,h=>h
 | q :: qs,t,hq,h=>zde hx qs (clip1 x t q) (fun q' h'=>hq q' (List.mem_cons_of_mem _ h')) (zjm hx (hq q List.mem_cons_self).1 (hq q List.mem_cons_self).2 h)
set_option maxHeartbeats 4000000 in
theorem zlz {a:Option (Nat × Nat)} {f:Bool} {l:List Pt} {r:Rg} {M:Mem} (hl:SlA 2 ptc M a l) (hlen:l.length<=1000000000000000):CallOk Tryz.prog 143 [.slice a l.length f 2,rgv r] M (fun w M'=>w=.tup [ptv (hitsF l r).1,I (hitsF l r).2] /\ Grow M M'):=by
 refine z6 kq143 rfl ?_
 dsimp only [xq143,qm,qf,ql,qL,qi,qb,qc,qa,qn,qB,qC,qS,qo,qk,qK,qq,qZ,zipE,Nat.reduceAdd]
 have hcf:=fun M' (hg:Grow M M')=>zm6 (f:=f) (r:=r) (hl.grow hg) hlen
 by_cases hok:FieldOk l /\ RgOk r
 rotate_left
 ·have he:(if eFd l=0 then eRg r else eFd l) ≠ 0 /\ (hitsF l r).1=(0,0) /\ (hitsF l r).2=(if eFd l=0 then eRg r else eFd l):=by
   unfold eFd eRg hitsF
   by_cases h1:FieldOk l
   ·have h2:¬ RgOk r:=fun h=>hok ⟨h1,h⟩
    simp [h1,h2]
   ·simp [h1]
  obtain ⟨he1,he2,he3⟩:=he
  (repeat' first|with_reducible intro _|refine sv ?_|refine sc ?_ ?_<;>(intro h;try exact sz h)|(with_reducible first|apply za|apply z8|apply z5);exact gd;exact rfl;exact rfl;exact hcf _ (xg)|refine sg ?_ ?_<;>(intro h;first|exact sz h|refine sy h ?_)|exact sq|fail)
  all_goals (refine kf ?_)
  all_goals exact ⟨by rw [he2,he3];rfl,xg⟩
 obtain ⟨hf,hrg⟩:=hok
 have he:(if eFd l=0 then eRg r else eFd l)=0:=by unfold eFd eRg;simp [hf,hrg]
 have hpl:=hf.2.2.1
 have hlen3:=hf.1
 have hlen8:=hf.2.1
 obtain ⟨s,o,rfl,hr⟩:=hl.resolve_left (fun h=>by subst h;simp at hlen3)
 (repeat' first|with_reducible intro _|refine sv ?_|refine sc ?_ ?_<;>(intro h;try exact sz h)|(with_reducible first|apply za|apply z8|apply z5);exact gd;exact rfl;exact rfl;exact hcf _ (xg)|refine sg ?_ ?_<;>(intro h;first|exact sz h|refine sy h ?_)|exact sq|fail)
 rename_i n3 M1 hn3 e1 e2 n4 M2 hn4 e3 e4 M3 hg3 e5
 have hn:rowsN r=(r.1.2+1 - r.1.1).toNat:=rfl
 have hsm:Sm 10000000 r:=hrg.sm.mono (by omega)
 refine zc (fun n E ms M'=>∃ k:Nat,n=rowsN r - k /\ k<=rowsN r /\ ms=[] /\ Has E [(0,.slice (some (s,o)) l.length f 2),(3,.ptr (some (n3,0))),(4,.ptr (some (n4,0))),(7,I (r.1.1+(k:Int)))] /\ Grow M M' /\ M3.next<=M'.next /\
   At M' n3 (.cells true (rgc r) 28) /\ At M' n4 (.cells true [I 0,I 0] 30) /\ ∀ j,j < k->¬ (cutRow l (rowAt r j)).1<=(cutRow l (rowAt r j)).2) ?_ (rowsN r) _ _ _
  ⟨0,by omega,by omega,rfl,.cons rfl (.cons rfl (.cons rfl (.cons (congrArg (fun z=>some (I z)) (Int.add_zero _).symm) .nil))),xg,by omega,xm,xm,fun j hj=>absurd hj (Nat.not_lt_zero _)⟩
 rintro n E ms M4 ⟨k,rfl,hk,rfl,hE,hg4,hle4,a3,a4,hdead⟩
 refine zw hE ?_
 by_cases hlast:k=rowsN r
 ·subst hlast
  have hl:r.1.2 < r.1.1+(rowsN r:Int):=by omega
  have hh:hitsF l r=((0,0),4):=by unfold hitsF;rw [if_pos hf,if_pos hrg,zhe hdead]
  (repeat' first|with_reducible intro _|refine sv ?_|refine sc ?_ ?_<;>(intro h;try exact sz h)|refine sg ?_ ?_<;>(intro h;first|exact sz h|refine sy h ?_)|exact sq|fail)
  (refine kf ?_)
  exact ⟨by rw [hh];rfl,xg⟩
 have hl:r.1.1+(k:Int)<=r.1.2:=by omega
 have hx0:-32768<=r.1.1 /\ r.1.2<=32768:=by dsimp only [RgOk,fitsP] at hrg;omega
 have hnx:I (r.1.1+(k:Int)+1)=I (r.1.1+((k+1:Nat):Int)):=by rw [Int.natCast_add,Int.add_assoc];rfl
 (repeat' first|with_reducible intro _|refine sv ?_|refine sc ?_ ?_<;>(intro h;try exact sz h)|(with_reducible first|apply za|apply z8|apply z5);exact gd;exact rfl;exact rfl;exact zl4 r hsm _ (by omega) _|refine sg ?_ ?_<;>(intro h;first|exact sz h|refine sy h ?_)|exact sq|fail)
 rename_i M5 hg5 e6 n8 M6 hn8 e7 e8 M7 hu7 e9 a8
 have hml:∀ i:Nat,(i+1) % l.length < l.length:=fun i=>z4v (by omega)
 have hrb:=zic hrg.sm (x:=r.1.1+(k:Int)) (by omega) (by omega)
 refine zc (fun n E ms M'=>∃ i:Nat,n=l.length - i /\ i<=l.length /\ ms=[] /\ Has E [(0,.slice (some (s,o)) l.length f 2),(3,.ptr (some (n3,0))),(4,.ptr (some (n4,0))),(7,I (r.1.1+(k:Int))),(8,.ptr (some (n8,0))),(9,I (i:Int))] /\
   Keep (fun i=>i=n8) M7 M' /\ At M' n8 (.cells true [I (r.1.1+(k:Int)),I (clips (r.1.1+(k:Int)) ((rowAt r k).2.1,(rowAt r k).2.2) ((sidesL l).take i)).1,I (clips (r.1.1+(k:Int)) ((rowAt r k).2.1,(rowAt r k).2.2) ((sidesL l).take i)).2] 231)) ?_ l.length _ _ _
  ⟨0,by omega,by omega,rfl,.cons rfl (.cons rfl (.cons rfl (.cons rfl (.cons rfl (.cons rfl .nil))))),xk,a8⟩
 rintro n E ms M8 ⟨i,rfl,hi,rfl,hE8,hK8,a88⟩
 have hle8:=hK8.le
 refine zw hE8 ?_
 have b3:At M8 n3 (.cells true (rgc r) 28):=by
  have:At M7 n3 (.cells true (rgc r) 28):=xm
  exact this.keep hK8 (by intro hh;have:=a3.2;omega)
 have b4:At M8 n4 (.cells true [I 0,I 0] 30):=by
  have:At M7 n4 (.cells true [I 0,I 0] 30):=xm
  exact this.keep hK8 (by intro hh;have:=a4.2;omega)
 have hgM7:Grow M M7:=xg
 have hgM8:Grow M M8:=Keep.to_grow' hgM7 hK8 (fun i hi=>by have:=hg4.le;omega)
 by_cases hlast8:i=l.length
 ·subst hlast8
  rw [show (sidesL l).take l.length=sidesL l by rw [<-z4g l,List.take_length]] at a88
  have hcut:cutRow l (rowAt r k)=clips (r.1.1+(k:Int)) ((rowAt r k).2.1,(rowAt r k).2.2) (sidesL l):=rfl
  rw [<-hcut] at a88
  by_cases hlive:(cutRow l (rowAt r k)).1<=(cutRow l (rowAt r k)).2
  ·have hh:hitsF l r=((r.1.1+(k:Int),(cutRow l (rowAt r k)).1),0):=by unfold hitsF;rw [if_pos hf,if_pos hrg,zmv (by omega) hdead hlive]
   (repeat' first|with_reducible intro _|refine sv ?_|refine sc ?_ ?_<;>(intro h;try exact sz h)|refine sg ?_ ?_<;>(intro h;first|exact sz h|refine sy h ?_)|exact sq|fail)
   (refine kf ?_)
   exact ⟨by rw [hh];rfl,xg⟩
  ·(repeat' first|with_reducible intro _|refine sv ?_|refine sc ?_ ?_<;>(intro h;try exact sz h)|refine sg ?_ ?_<;>(intro h;first|exact sz h|refine sy h ?_)|exact sq|fail)
   refine zg (rowsN r - (k+1)) (by omega) ⟨k+1,rfl,by omega,rfl,.cons rfl (.cons rfl (.cons rfl (.cons (by rw [<-hnx];rfl) .nil))),hgM8,by omega,b3,b4,fun j hj=>?_⟩
   by_cases hjk:j=k
   ·subst hjk;exact hlive
   ·exact hdead j (by omega)
 have hlt:i < l.length:=by omega
 have hrd:∀ k (hk:k < l.length),Rd M8 s (o+k*2) 2 (ptc l[k]):=fun k hk=>(hr k hk).grow hgM8
 have hrm:Rd M8 s (o+(((i:Int)+1) % (l.length:Int)).toNat*2) 2 (ptc (l[(i+1) % l.length]'(hml i))):=by
  have:((i:Int)+1) % (l.length:Int)=(((i+1) % l.length:Nat):Int):=by rw [Int.natCast_emod];rfl
  rw [this];exact hrd _ (hml i)
 have hmi:0<=((i:Int)+1) % (l.length:Int) /\ ((i:Int)+1) % (l.length:Int) < (l.length:Int):=⟨Int.emod_nonneg _ (by omega),Int.emod_lt_of_pos _ (by omega)⟩
 have hp1:=hpl _ (List.getElem_mem hlt)
 have hp2:=hpl _ (List.getElem_mem (hml i))
 have hq:(sidesL l)[i]?=some (l[i],l[(i+1) % l.length]'(hml i)):=by rw [z8l hlt,z7v hlt,z7v (hml i)]
 have hct:=z80 (x:=r.1.1+(k:Int)) (t:=((rowAt r k).2.1,(rowAt r k).2.2)) hq
 have hbd:=zde (x:=r.1.1+(k:Int)) (by omega) ((sidesL l).take i) ((rowAt r k).2.1,(rowAt r k).2.2) (fun q hq=>zbl hpl (List.mem_of_mem_take hq)) (by unfold rowAt;dsimp only;omega)
 have cl:=zmc (r.1.1+(k:Int),(clips (r.1.1+(k:Int)) ((rowAt r k).2.1,(rowAt r k).2.2) ((sidesL l).take i)).1,(clips (r.1.1+(k:Int)) ((rowAt r k).2.1,(rowAt r k).2.2) ((sidesL l).take i)).2) (l[i],l[(i+1) % l.length]'(hml i)) (by dsimp only;omega) hp1 hp2 (by dsimp only;omega)
 have hr1:=hrd i hlt
 (have hrd0:=hr1;have hrd1:=hrm;repeat' first|with_reducible intro _|refine sv ?_|refine sc ?_ ?_<;>(intro h;try exact sz h)|(with_reducible first|apply za|apply z8|apply z5);exact gd;exact rfl;exact rfl;exact cl _|refine sg ?_ ?_<;>(intro h;first|exact sz h|refine sy h ?_)|exact sq|fail)
 refine zg (l.length - (i+1)) (by omega) ⟨i+1,rfl,by omega,rfl,.cons rfl (.cons rfl (.cons rfl (.cons rfl (.cons rfl (.cons rfl .nil))))),xk,?_⟩
 rw [hct]
 assumption
end Go.Proofs.YtpccafeedfpbaaaGreat.C
end
