/-
 Part of the proof of CourseAccepted: what functions of the program and of the statement come to,walked by the rules. No condition beyond those in each theorem.
-/
import Derived.Test.YtpccafeedfpbaaaGreatUI
import Derived.Test.YtpccafeedfpbaaaGreatUE
import Derived.Test.YtpccafeedfpbaaaGreatUK
import Derived.Test.YtpccafeedfpbaaaGreatUS
section
open Go PvL Go.Proofs
set_option linter.unusedSimpArgs false
set_option linter.unusedVariables false
namespace Go.Proofs.YtpccafeedfpbaaaGreat.C
noncomputable def posR (s:Cr) (i:Nat):Pose:=if i < 2*s.lines.length then endC s i else s.start
noncomputable def costR (s:Cr) (i k:Nat):Int:=costN s (posR s i) (begC s k)
noncomputable def rowC (s:Cr) (i m:Nat):List Int:=(List.range m).map fun k=>costR s i k
noncomputable def costM (s:Cr):List (List Int):=(List.range (2*s.lines.length+1)).map fun i=>rowC s i (2*s.lines.length)
theorem zi0 {s:Cr} (hs:CrOk s) (i:Nat):PoseOk (posR s i):=by
 unfold posR
 split
 ·exact z9a hs (by omega)
 ·exact hs.start
theorem zjr {s:Cr} (hs:CrOk s) {i k:Nat} (hk:k < 2*s.lines.length):-1<=costR s i k /\ costR s i k<=600000:=zdh hs (zi0 hs i) (z8s hs (by omega))
noncomputable def onR (s:Cr) (fr:Nat) (t:Int) (to:Nat):Int:=match goF s (posR s fr,t) to with|some b=>b.2|none=>-1
structure CoM (M:Mem) (A:CrA) (s:Cr) (aC:Option (Nat × Nat)):Prop where
 cr:CrM M A s
 tab:SlL 1 intz M aC (costM s)
theorem CoM.grow {M M':Mem} {A:CrA} {s:Cr} {aC:Option (Nat × Nat)} (h:CoM M A s aC) (hg:Grow M M'):CoM M' A s aC:=⟨h.cr.grow hg,h.tab.grow hg⟩
abbrev coc (A:CrA) (s:Cr) (aC:Option (Nat × Nat)) (fC:Bool):List LV:=[.slice A.aL s.lines.length A.fL 4,.slice A.aF s.fields.length A.fF A.eF,.slice A.aB s.buoys.length A.fB 2,I s.spread.1.1,I s.spread.1.2,I s.spread.2.1.1,I s.spread.2.1.2,I s.spread.2.2.1.1,I s.spread.2.2.1.2,I s.spread.2.2.2.1,I s.spread.2.2.2.2,
 I s.start.1.1,I s.start.1.2,I s.start.2,I s.speed,I s.turn,.slice A.aO s.opn.length A.fO 1,.slice aC (2*s.lines.length+1) fC 1]
theorem zal {s:Cr}:(costM s).length=2*s.lines.length+1:=by unfold costM;rw [List.length_map,List.length_range]
theorem z65 {s:Cr} {i m:Nat}:(rowC s i m).length=m:=by unfold rowC;rw [List.length_map,List.length_range]
theorem zak {s:Cr} {i:Nat} (h:i < (costM s).length):(costM s)[i]=rowC s i (2*s.lines.length) :=
 (List.getElem_map (l:=List.range (2*s.lines.length+1)) (fun i=>rowC s i (2*s.lines.length)) (i:=i) (h:=h)).trans (congrArg (fun i=>rowC s i (2*s.lines.length)) (List.getElem_range ..))
theorem zko {s:Cr} {i m k:Nat} (h:k < (rowC s i m).length):(rowC s i m)[k]=costR s i k :=
 (List.getElem_map (l:=List.range m) (fun k=>costR s i k) (i:=k) (h:=h)).trans (congrArg (fun k=>costR s i k) (List.getElem_range ..))
theorem zq0 {M:Mem} {s:Cr} {aC:Option (Nat × Nat)} (h:SlL 1 intz M aC (costM s)) {i k:Nat} (hi:i < 2*s.lines.length+1) (hk:k < 2*s.lines.length) :
  ∃ ia oa ir ro fr,aC=some (ia,oa) /\ Rd1 M ia (oa+i*1) (.slice (some (ir,ro)) (2*s.lines.length) fr 1) /\ Rd1 M ir (ro+k*1) (I (costR s i k)):=by
 have hl:=zal (s:=s)
 obtain ⟨ia,oa,e,hr⟩:=h.resolve_left (fun h=>by rw [h] at hl;simp at hl)
 obtain ⟨aw,fw,g1,g2,g3⟩:=hr i (by omega)
 rw [zak] at g1 g2
 have hlen:=z65 (s:=s) (i:=i) (m:=2*s.lines.length)
 obtain ⟨ir,ro,e2,hr2⟩:=g2.resolve_left (fun h=>by rw [h] at hlen;simp at hlen;omega)
 rw [hlen] at g1
 have g4:=(hr2 k (by omega)).nth (j:=0) (v:=I (costR s i k)) (by rw [zko];rfl)
 subst e2
 exact ⟨ia,oa,ir,ro,fw,e,g1,g4⟩
set_option maxHeartbeats 4000000 in
theorem zo7 {A:CrA} {s:Cr} {aC:Option (Nat × Nat)} {fC:Bool} {fr to:Nat} {t:Int} {M:Mem} (hs:CrOk s) (hm:CoM M A s aC) (hfr:fr<=2*s.lines.length) (hto:to < 2*s.lines.length) (ht:0<=t /\ t<=100000000) :
  CallOk Tryz.prog 59 [.agg (coc A s aC fC),I fr,I t,I to] M (fun v M'=>v=I (onR s fr t to) /\ Grow M M'):=by
 obtain ⟨ia,oa,ir,ro,f,rfl,r1,r2⟩:=zq0 hm.tab (show fr < 2*s.lines.length+1 by omega) hto
 have hb:=zjr hs (i:=fr) hto
 have hi:=r1.2
 have hi2:=r2.2
 have hsh:=fun M' (hg:Grow M M') (h:0<=costR s fr to)=>zmg (t:=t+costR s fr to) (hm.cr.grow hg) hs (k:=to / 2) (w:=((to % 2:Nat):Int)) (by omega) (by omega) (by omega)
 have hon:onR s fr t to=if costR s fr to < 0 then -1 else match shotC s to (t+costR s fr to) with|some b=>b.2|none=>-1:=by
  unfold onR goF
  show (match (if costR s fr to < 0 then none else shotC s to (t+costR s fr to)) with|some b=>b.2|none=>-1)=_
  by_cases hc:costR s fr to < 0
  ·rw [if_pos hc,if_pos hc]
  ·rw [if_neg hc,if_neg hc]
 rw [hon]
 unfold shotC
 have hn5:=hs.n5
 generalize costR s fr to=c at *
 refine z6 kq59 rfl ?_
 dsimp only [xq59,qm,qf,ql,qL,qi,qb,qe,qc,qa,qB,qC,qS,qo,qk,qK,qq,qZ,zipE,Nat.reduceAdd]
 by_cases hc:c < 0
 ·rw [if_pos hc]
  (have hrd0:=r1;have hrd1:=r2;repeat' first|with_reducible intro _|refine sv ?_|refine sc ?_ ?_<;>(intro h;try exact sz h)|refine sg ?_ ?_<;>(intro h;first|exact sz h|refine sy h ?_)|exact sq|fail)
  (refine kf ?_)
  exact ⟨rfl,xg⟩
 ·rw [if_neg hc]
  generalize hso:shotF s (to / 2) ((to % 2:Nat):Int) (t+c)=so at *
  cases so with
  | none =>
   (have hrd0:=r1;have hrd1:=r2;repeat' first|with_reducible intro _|refine sv ?_|refine sc ?_ ?_<;>(intro h;try exact sz h)|(with_reducible first|apply za|apply z8|apply z5);exact gd;exact rfl;exact rfl;exact hsh _ (xg) (by omega)|refine sg ?_ ?_<;>(intro h;first|exact sz h|refine sy h ?_)|exact sq|fail)
   (refine kf ?_)
   exact ⟨rfl,xg⟩
  | some b =>
   (have hrd0:=r1;have hrd1:=r2;repeat' first|with_reducible intro _|refine sv ?_|refine sc ?_ ?_<;>(intro h;try exact sz h)|(with_reducible first|apply za|apply z8|apply z5);exact gd;exact rfl;exact rfl;exact hsh _ (xg) (by omega)|refine sg ?_ ?_<;>(intro h;first|exact sz h|refine sy h ?_)|exact sq|fail)
   (refine kf ?_)
   exact ⟨rfl,xg⟩
theorem Vec.other {α β:Type} {b q b' q':Nat} {ty ty':TypeId} {enc:α->List LV} {enc':β->List LV} {M M':Mem} {v v':LV} {l:List α} {l':List β} (h:Vec b q ty enc M v l) (h':Vec b' q' ty' enc' M v' l') (hty:ty ≠ ty')
  (hk:Keep (fun i=>b<=i /\ ∃ o n f e,v=.slice (some (i,o)) n f e) M M'):Vec b' q' ty' enc' M' v' l':=by
 refine h'.imp id fun ⟨i,z1,z2,z3⟩=>⟨i,z1,z2.keep hk ?_,z3⟩
 rintro ⟨_,o,n,f,e,h2⟩
 rcases h with ⟨_,q1⟩|⟨j,q1,q2,_⟩
 ·rw [q1] at h2;cases h2
 ·rw [q1] at h2
  cases h2
  exact hty (z5t q2 z2)
theorem zat:∀ i,i < 10->(i ^^^ 1) / 2=i / 2 /\ (i ^^^ 1) % 2=1 - i % 2:=by decide
theorem zno {P:Program} [Orc P] {E:Env} {M:Mem} {x:XO}:∀ {i:Nat} (hi:i < 10) (hx:xval E x=some (I (i:Int))),xstep P (.bin .xor x (.c (.int .i64 1))) E M=some (.val (I ((i ^^^ 1:Nat):Int)) M)
 | 0,_,hx | 1,_,hx | 2,_,hx | 3,_,hx | 4,_,hx | 5,_,hx | 6,_,hx | 7,_,hx | 8,_,hx | 9,_,hx=>by
  show ob (xval E x) _=_
  rw [hx];rfl
 | n+10,hi,_=>absurd hi (by omega)
theorem zjy {s:Cr} {i:Nat} (hi:i < 10):(wayC s (i ^^^ 1)).1=(wayC s i).2:=by
 obtain ⟨h1,h2⟩:=zat i hi
 unfold wayC
 rw [h1,h2]
 unfold wayF
 rcases Nat.mod_two_eq_zero_or_one i with h|h
 ·rw [h];rfl
 ·rw [h];rfl
noncomputable def begL (s:Cr) (m:Nat):List Pt:=(List.range m).map fun i=>(begC s i).1
noncomputable def octL (s:Cr) (m:Nat):List Int:=(List.range m).map fun i=>(begC s i).2
theorem zg7 {s:Cr} {m:Nat}:begL s (m+1)=begL s m ++ [(begC s m).1]:=by unfold begL;rw [List.range_succ,List.map_append];rfl
theorem zhu {s:Cr} {m:Nat}:octL s (m+1)=octL s m ++ [(begC s m).2]:=by unfold octL;rw [List.range_succ,List.map_append];rfl
theorem z3r {s:Cr} {m:Nat}:(begL s m).length=m:=by unfold begL;rw [List.length_map,List.length_range]
theorem z62 {s:Cr} {m:Nat}:(octL s m).length=m:=by unfold octL;rw [List.length_map,List.length_range]
theorem zj6 {s:Cr} {m k:Nat} (h:k < (begL s m).length):(begL s m)[k]=(begC s k).1 :=
 (List.getElem_map (l:=List.range m) (fun k=>(begC s k).1) (i:=k) (h:=h)).trans (congrArg (fun k=>(begC s k).1) (List.getElem_range ..))
theorem zdz {s:Cr} {m k:Nat} (h:k < (octL s m).length):(octL s m)[k]=(begC s k).2 :=
 (List.getElem_map (l:=List.range m) (fun k=>(begC s k).2) (i:=k) (h:=h)).trans (congrArg (fun k=>(begC s k).2) (List.getElem_range ..))
theorem zib {s:Cr} {i m:Nat}:rowC s i (m+1)=rowC s i m ++ [costR s i m]:=by unfold rowC;rw [List.range_succ,List.map_append];rfl
theorem zjh {A:CrA} {s:Cr} {c:Nat} {M:Mem} (hM:CrM M A s) (hs:CrOk s) (hc:c < 2*s.lines.length) :
  CallOk Tryz.prog 60 [crv A s,shC c] M (fun v M'=>v=.tup [.agg (posc (begC s c)),.agg (posc (endC s c))] /\ Grow M M') :=
 zgk hM hs (k:=c / 2) (w:=((c % 2:Nat):Int)) (by omega) (by omega)
noncomputable def mapP (s:Cr):List Pt:=s.buoys ++ (begL s (2*s.lines.length) ++ [s.start.1])
theorem zdt {s:Cr} {k:Nat} (hk:k < 2*s.lines.length):(mapP s).getD (s.buoys.length+k) (0,0)=(begC s k).1:=by
 have hl:=z3r (s:=s) (m:=2*s.lines.length)
 show (s.buoys ++ (begL s (2*s.lines.length) ++ [s.start.1])).getD (s.buoys.length+k) (0,0)=_
 rw [List.getD_eq_getElem?_getD,List.getElem?_append_right (by omega),Nat.add_sub_cancel_left,List.getElem?_append_left (by omega),List.getElem?_eq_getElem (by omega),zj6];rfl
theorem zfg {s:Cr}:(mapP s).getD (s.buoys.length+2*s.lines.length) (0,0)=s.start.1:=by
 have hl:=z3r (s:=s) (m:=2*s.lines.length)
 show (s.buoys ++ (begL s (2*s.lines.length) ++ [s.start.1])).getD (s.buoys.length+2*s.lines.length) (0,0)=_
 rw [List.getD_eq_getElem?_getD,List.getElem?_append_right (by omega),Nat.add_sub_cancel_left,List.getElem?_append_right (by omega),hl,Nat.sub_self];rfl
theorem zdu {s:Cr}:(mapP s).length=s.buoys.length+(2*s.lines.length+1):=by
 unfold mapP;rw [List.length_append,List.length_append,z3r];simp
abbrev cow (A:CrA) (s:Cr) (v:LV):List LV:=[.slice A.aL s.lines.length A.fL 4,.slice A.aF s.fields.length A.fF A.eF,.slice A.aB s.buoys.length A.fB 2,I s.spread.1.1,I s.spread.1.2,I s.spread.2.1.1,I s.spread.2.1.2,I s.spread.2.2.1.1,I s.spread.2.2.1.2,I s.spread.2.2.2.1,I s.spread.2.2.2.2,
 I s.start.1.1,I s.start.1.2,I s.start.2,I s.speed,I s.turn,.slice A.aO s.opn.length A.fO 1,v]
set_option maxHeartbeats 64000000 in
theorem zjf {A:CrA} {s:Cr} {M:Mem} (hs:CrOk s) (hM:CrM M A s) :
  CallOk Tryz.prog 58 [crv A s] M (fun v M'=>Grow M M' /\ ∃ aC fC,v=.agg (coc A s aC fC) /\ CoM M' A s aC):=by
 have hn5:=hs.n5
 have hn1:=hs.n1
 have hnb:=hs.nb
 refine z6 kq58 rfl ?_
 dsimp only [xq58,qm,qf,ql,qL,qi,qb,qe,qc,qa,qn,qB,qC,qS,qo,qk,qK,qq,qZ,qN,zipE,Nat.reduceAdd]
 (repeat' first|with_reducible intro _|refine sv ?_|refine sc ?_ ?_<;>(intro h;try exact sz h)|refine sg ?_ ?_<;>(intro h;first|exact sz h|refine sy h ?_)|exact sq|fail)
 rename_i n1 M1 hn1' e1 e2 n2 M2 hn2 e3 e4
 have hg2:Grow M M2:=xg
 have b1:At M2 n1 (.cells true (crc A s) 35):=xm
 have b2:At M2 n2 (.cells true [.slice none 0 true 0,.slice none 0 true 0,.slice none 0 true 0,I 0,I 0,I 0,I 0,I 0,I 0,I 0,I 0,I 0,I 0,I 0,I 0,I 0,.slice none 0 true 0,.slice none 0 true 0] 121):=xm
 have hM2:=hM.grow hg2
 have hgs:Grow M M2 /\ True:=⟨hg2,trivial⟩
 clear hg2
 refine zc (fun n E ms M'=>∃ (k:Nat) (vm vo:LV),n=2*s.lines.length - k /\ k<=2*s.lines.length /\ ms=[] /\ Has E [(1,.ptr (some (n1,0))),(2,.ptr (some (n2,0))),(3,I (2*(s.lines.length:Int))),(4,vm),(5,vo),(6,I k)] /\ Grow M2 M' /\ Vec M2.next 2 30 ptc M' vm (begL s k) /\ Vec M2.next 1 3 intz M' vo (octL s k)) ?_ (2*s.lines.length) _ _ _
  ⟨0,_,_,by omega,by omega,rfl,.cons rfl (.cons rfl (.cons rfl (.cons rfl (.cons rfl (.cons rfl .nil))))),Grow.refl _,.nil,.nil⟩
 rintro n E ms M3 ⟨k,vm,vo,rfl,hk,rfl,hE,hg3,hvm,hvo⟩
 refine zw hE ?_
 have le3:=hg3.le
 have c1:=b1.grow hg3
 have c2:=b2.grow hg3
 by_cases hlast:k=2*s.lines.length
 ·subst hlast
  obtain ⟨am,fm,em,rfl⟩:=hvm.shape
  have hbl:=z3r (s:=s) (m:=2*s.lines.length)
  have hol:=z62 (s:=s) (m:=2*s.lines.length)
  rcases hvo with ⟨h0,_⟩|⟨io,rfl,hO,hOb⟩
  ·rw [h0] at hol;simp at hol;omega
  rw [hol]
  have hg03:Grow M M3 /\ True:=⟨hgs.1.trans hg3,trivial⟩
  have l2:=c2.2
  (repeat' first|with_reducible intro _|refine sv ?_|refine sc ?_ ?_<;>(intro h;try exact sz h)|refine sg ?_ ?_<;>(intro h;first|exact sz h|refine sy h ?_)|exact sq|fail)
  rename_i n51 M4 hn51 e5 e6
  have hw4:firstL 2 1 (.slice (some (n51,0)) 1 true 2) M4=some ([s.start.1].flatMap ptc):=zn (enc:=ptc) (l:=[s.start.1]) (fun _ _=>rfl) (fun k' hk'=>zo (enc:=ptc) (l:=[s.start.1]) (At.new_same hn51) (fun _ _=>rfl) hk')
  have hvm4:=hvm.grow hn51.grow
  refine z0q (by exact gd) (l':=[s.start.1]) hvm4 rfl rfl rfl (by simp) (by rw [List.length_singleton];omega) rfl hw4 (fun _=>rfl) (fun _=>rfl) (by omega) ?_
  intro v5 M5 hv5 e7 hk5
  have hO5:At M5 io (.cells true ((octL s (2*s.lines.length)).flatMap intz) 3):=(hO.grow hn51.grow).keep hk5 (by
   rintro ⟨_,o,n,f,e,h2⟩
   rcases hvm4 with ⟨_,q1⟩|⟨j,q1,q2,_⟩
   ·rw [q1] at h2;cases h2
   ·rw [q1] at h2;cases h2;exact absurd (z5t q2 (hO.grow hn51.grow)) (by decide))
  have hg25:Grow M2 M5:=Keep.to_grow' (hg3.trans hn51.grow) hk5 (fun i hi=>hi.1)
  have d1:=b1.grow hg25
  have d2:=b2.grow hg25
  have hg05:Grow M M5 /\ True:=⟨hgs.1.trans hg25,trivial⟩
  have le25:=hg25.le
  clear hk5 hg25
  have hml:(begL s (2*s.lines.length) ++ [s.start.1]).length=2*s.lines.length+1:=by rw [List.length_append,hbl];rfl
  rcases hv5 with ⟨h0,_⟩|⟨im,rfl,hm5,hmb⟩
  ·rw [h0] at hml;simp at hml
  have hmap:=zjk (A:=A) (s:=s) (more:=begL s (2*s.lines.length) ++ [s.start.1]) (aM:=some (im,0)) (fM:=false) (eM:=2) hs (hM.grow hg05.1) (.inr ⟨im,0,rfl,z0r hm5⟩) (by omega) (by omega)
  (repeat' first|with_reducible intro _|refine sv ?_|refine sc ?_ ?_<;>(intro h;try exact sz h)|refine sg ?_ ?_<;>(intro h;first|exact sz h|refine sy h ?_)|exact sq|fail)
  refine zk (by exact gd) rfl rfl (show AppOk Tryz.prog _ _ M5 _ from hmap) ?_
  rintro w M6 ⟨hg6,aP,fP,aF,fF,rfl,hmm⟩
  have hmP:MpM M6 A s (mapP s) aP aF:=hmm
  have hPlen:=zdu (s:=s)
  have hPe:(s.buoys ++ (begL s (2*s.lines.length) ++ [s.start.1])).length=(mapP s).length:=rfl
  rw [hPe]
  clear hmap hmm
  have le6:=hg6.le
  have f1:=d1.grow hg6
  have f2:=d2.grow hg6
  have hO6:=hO5.grow hg6
  have hg06:Grow M M6 /\ True:=⟨hg05.1.trans hg6,trivial⟩
  generalize hLP:(mapP s).length=LP at *
  clear hg6
  (repeat' first|with_reducible intro _|refine sv ?_|refine sc ?_ ?_<;>(intro h;try exact sz h)|refine sg ?_ ?_<;>(intro h;first|exact sz h|refine sy h ?_)|exact sq|fail)
  rename_i n9 MA hnA e8 e9 MB huB e10 aB n11 MC hnC e11 e12 MD huD e13 aD
  have hk6D:Keep (fun i=>i=n9 ∨ i=n11) M6 MD:=((((Keep.refl (fun i=>i=n9 ∨ i=n11) M6).new hnA).upd huB (.inl (.inl rfl))).new hnC).upd huD (.inl (.inr rfl))
  have hg6D:Grow M6 MD:=Keep.to_grow' (Grow.refl M6) hk6D (fun i hi=>by omega)
  have hg0D:Grow M MD:=hg06.1.trans hg6D
  have g1:=f1.grow hg6D
  have g2:=f2.grow hg6D
  have gO:=hO6.grow hg6D
  have g9:At MD n9 (.cells true (mpc A s aP LP fP aF LP fF) 99):=(At.new_old hnC aB).upd_ne huD (by omega)
  have g11:At MD n11 (.cells true (cow A s (.slice none 0 true 0)) 121):=aD
  have hgD6:Grow M6 MD /\ True:=⟨hg6D,trivial⟩
  have hord:n1 < M6.next /\ n2 < M6.next /\ io < M6.next /\ M6.next<=n9 /\ n9 < n11 /\ n11 < MD.next /\ M.next<=n1 /\ M.next<=n2:=by have:=f1.2;have:=f2.2;have:=hO6.2;omega
  have hMD:=hM.grow hg0D
  clear hk6D hg6D hnA huB aB hnC huD aD f1 f2 hO6 d1 d2 hO5 hO c1 c2 b1 b2 hg3 hvm hvm4 hw4 hn51 hm5
  have hPl:∀ p ∈ mapP s,PlP p:=fun p hp=>by
   unfold mapP at hp
   rcases List.mem_append.1 hp with hp|hp
   ·exact hs.buoys p hp
   ·rcases List.mem_append.1 hp with hp|hp
    ·unfold begL at hp
     obtain ⟨i,hi,rfl⟩:=List.mem_map.1 hp
     exact (z8s hs (by have:=List.mem_range.1 hi;omega)).1
    ·obtain rfl:=List.mem_singleton.1 hp
     exact hs.start.1
  refine zc (fun n E ms M'=>∃ (k:Nat) (vc:LV) (is:List Nat),n=2*s.lines.length+1 - k /\ k<=2*s.lines.length+1 /\ is.length=k /\ ms=[] /\ Has E [(1,.ptr (some (n1,0))),(2,.ptr (some (n2,0))),(3,I (2*(s.lines.length:Int))),(5,.slice (some (io,0)) (2*s.lines.length) false 1),(9,.ptr (some (n9,0))),(10,I s.buoys.length),(11,.ptr (some (n11,0))),(12,I k)] /\
    Keep (fun i=>i=n11) MD M' /\ At M' n11 (.cells true (cow A s vc) 121) /\ Vec MD.next 1 52 (rslc (2*s.lines.length)) M' vc is /\ ∀ j (hj:j < is.length),MD.next<=is[j] /\ At M' is[j] (.cells true ((rowC s j (2*s.lines.length)).flatMap intz) 3)) ?_ (2*s.lines.length+1) _ _ _
   ⟨0,_,[],by omega,by omega,rfl,rfl,.cons rfl (.cons rfl (.cons rfl (.cons rfl (.cons rfl (.cons rfl (.cons rfl (.cons rfl .nil))))))),Keep.refl _ _,g11,.nil,fun j hj=>by simp at hj⟩
  rintro n E ms M8 ⟨k,vc,is,rfl,hk,hisl,rfl,hE,hk8,h11,hvc,hbk⟩
  refine zw hE ?_
  have le8:=hk8.le
  have h1:=g1.keep hk8 (by omega)
  have h2:=g2.keep hk8 (by omega)
  have h9:=g9.keep hk8 (by omega)
  have hO8:=gO.keep hk8 (by omega)
  have l1:=h1.2
  have l2':=h2.2
  have l9:=h9.2
  have l11:=h11.2
  have lO:=hO8.2
  by_cases hlastk:k=2*s.lines.length+1
  ·subst hlastk
   rcases hvc with ⟨h0,_⟩|⟨iv,rfl,av,hb⟩
   ·rw [h0] at hisl;simp at hisl
   have hgs8:Grow M M8 /\ True:=⟨Keep.to_grow' hg0D hk8 (fun i hi=>by omega),trivial⟩
   clear hg0D
   (repeat' first|with_reducible intro _|refine sv ?_|refine sc ?_ ?_<;>(intro h;try exact sz h)|refine sg ?_ ?_<;>(intro h;first|exact sz h|refine sy h ?_)|exact sq|fail)
   rename_i M9 hu9 e14 a9
   have hk9:Keep (fun i=>i=n2) M8 M9:=(Keep.refl (fun i=>i=n2) M8).upd hu9 (.inl rfl)
   have hg89:Grow M M9:=Keep.to_grow' hgs8.1 hk9 (fun i hi=>by omega)
   (refine kf ?_)
   refine ⟨hg89,some (iv,0),false,by rw [hisl];rfl,hM.grow hg89,.inr ⟨iv,0,rfl,fun j hj=>?_⟩⟩
   have hj1:j < is.length:=by rw [zal] at hj;omega
   obtain ⟨q1,q2⟩:=hbk j hj1
   rw [zak]
   refine ⟨some (is[j],0),false,?_,?_,by rw [z65];omega⟩
   ·rw [z65]
    exact (zo (enc:=rslc (2*s.lines.length)) (av.keep hk9 (by omega)) (fun _ _=>rfl) hj1).nth (j:=0) rfl
   ·exact .inr ⟨is[j],0,rfl,fun q hq=>zo (enc:=intz) (q2.keep hk9 (by omega)) (fun _ _=>rfl) hq⟩
  have hkl:k < 2*s.lines.length+1:=by omega
  have hg8:Grow M M8 /\ True:=⟨Keep.to_grow' hg0D hk8 (fun i hi=>by omega),trivial⟩
  by_cases hk2:k < 2*s.lines.length
  case' pos =>
   have rO:Rd1 M8 io (0+k*1) (I (begC s k).2):=(zo (enc:=intz) hO8 (fun _ _=>rfl) (by rw [z62];exact hk2)).nth (j:=0) (by rw [zdz];rfl)
   (have hrd0:=rO;repeat' first|with_reducible intro _|refine sv ?_|refine sc ?_ ?_<;>(intro h;try exact sz h)|refine sg ?_ ?_<;>(intro h;first|exact sz h|refine sy h ?_)|exact sq|fail)
   refine zmq (by exact gd) (zno (by omega) rfl) ?_
   have hfl:=zat k (by omega)
   have hxb:(k ^^^ 1) < 10:=by omega
   (have hrd0:=rO;repeat' first|with_reducible intro _|refine sv ?_|refine sc ?_ ?_<;>(intro h;try exact sz h)|refine sg ?_ ?_<;>(intro h;first|exact sz h|refine sy h ?_)|exact sq|fail)
   refine zw (show Has _ [(1,.ptr (some (n1,0))),(2,.ptr (some (n2,0))),(3,I (2*(s.lines.length:Int))),(5,.slice (some (io,0)) (2*s.lines.length) false 1),(9,.ptr (some (n9,0))),(10,I s.buoys.length),(11,.ptr (some (n11,0))),(12,I k),(13,I ((s.buoys.length+(k ^^^ 1):Nat):Int)),(14,I (begC s k).2),(15,.slice none 0 true 0),(16,I 0)] from .cons rfl (.cons rfl (.cons rfl (.cons rfl (.cons rfl (.cons rfl (.cons rfl (.cons rfl (.cons rfl (.cons rfl (.cons rfl (.cons rfl .nil)))))))))))) ?_
   have hf1:s.buoys.length+(k ^^^ 1) < LP:=by omega
   have hf2:(mapP s).getD (s.buoys.length+(k ^^^ 1)) (0,0)=(posR s k).1:=by
    rw [zdt (by omega)]
    unfold posR
    rw [if_pos hk2]
    exact zjy (by omega)
   have hh:(begC s k).2=(posR s k).2:=by unfold posR;rw [if_pos hk2];rfl
   generalize s.buoys.length+(k ^^^ 1)=fr at *
   rw [hh]
   clear rO hh hfl hxb
  case' neg =>
   have hke:k=2*s.lines.length:=by omega
   (repeat' first|with_reducible intro _|refine sv ?_|refine sc ?_ ?_<;>(intro h;try exact sz h)|refine sg ?_ ?_<;>(intro h;first|exact sz h|refine sy h ?_)|exact sq|fail)
   refine zw (show Has _ [(1,.ptr (some (n1,0))),(2,.ptr (some (n2,0))),(3,I (2*(s.lines.length:Int))),(5,.slice (some (io,0)) (2*s.lines.length) false 1),(9,.ptr (some (n9,0))),(10,I s.buoys.length),(11,.ptr (some (n11,0))),(12,I k),(13,I ((s.buoys.length+2*s.lines.length:Nat):Int)),(14,I s.start.2),(15,.slice none 0 true 0),(16,I 0)] from .cons rfl (.cons rfl (.cons rfl (.cons rfl (.cons rfl (.cons rfl (.cons rfl (.cons rfl (.cons rfl (.cons rfl (.cons rfl (.cons rfl .nil)))))))))))) ?_
   have hf1:s.buoys.length+2*s.lines.length < LP:=by omega
   have hf2:(mapP s).getD (s.buoys.length+2*s.lines.length) (0,0)=(posR s k).1:=by
    rw [zfg]
    unfold posR
    rw [if_neg hk2]
   have hh:s.start.2=(posR s k).2:=by unfold posR;rw [if_neg hk2]
   generalize s.buoys.length+2*s.lines.length=fr at *
   rw [hh]
   clear hh hke
  all_goals
   have hpo:=zi0 hs k
   refine zc (fun n E ms M'=>∃ (m:Nat) (vr:LV),n=2*s.lines.length - m /\ m<=2*s.lines.length /\ ms=[] /\ Has E [(1,.ptr (some (n1,0))),(2,.ptr (some (n2,0))),(3,I (2*(s.lines.length:Int))),(5,.slice (some (io,0)) (2*s.lines.length) false 1),(9,.ptr (some (n9,0))),(10,I s.buoys.length),(11,.ptr (some (n11,0))),(12,I k),(13,I fr),(14,I (posR s k).2),(15,vr),(16,I m)] /\ Grow M8 M' /\ Vec M8.next 1 3 intz M' vr (rowC s k m)) ?_ (2*s.lines.length) _ _ _ ⟨0,_,by omega,by omega,rfl,.cons rfl (.cons rfl (.cons rfl (.cons rfl (.cons rfl (.cons rfl (.cons rfl (.cons rfl (.cons rfl (.cons rfl (.cons rfl (.cons rfl .nil))))))))))),Grow.refl _,.nil⟩
   rintro n E2 ms M9 ⟨m,vr,rfl,hm,rfl,hE2,hg9,hvr⟩
   refine zw hE2 ?_
   have le9:=hg9.le
   have p1:=h1.grow hg9
   have p2:=h2.grow hg9
   have p9:=h9.grow hg9
   have p11:=h11.grow hg9
   have pO:=hO8.grow hg9
   have hlr:=z65 (s:=s) (i:=k) (m:=m)
   obtain ⟨ar,fr',er,rfl⟩:=hvr.shape
   by_cases hlm:m=2*s.lines.length
   ·subst hlm
    rcases hvr with ⟨h0,_⟩|⟨iR,eR,hR,hRb⟩
    ·rw [h0] at hlr;simp at hlr;omega
    cases eR
    obtain ⟨ac,fc,ec,rfl⟩:=hvc.shape
    rw [hlr]
    (repeat' first|with_reducible intro _|refine sv ?_|refine sc ?_ ?_<;>(intro h;try exact sz h)|refine sg ?_ ?_<;>(intro h;first|exact sz h|refine sy h ?_)|exact sq|fail)
    rename_i n111 M10 hn111 e14 e15
    have hg810:Grow M8 M10:=hg9.trans hn111.grow
    have hvc10:=hvc.grow hg810
    have hw10:firstL 1 1 (.slice (some (n111,0)) 1 true 1) M10=some ([iR].flatMap (rslc (2*s.lines.length))):=zn (enc:=rslc (2*s.lines.length)) (l:=[iR]) (fun _ _=>rfl) (fun k' hk'=>zo (enc:=rslc (2*s.lines.length)) (l:=[iR]) (At.new_same hn111) (fun _ _=>rfl) hk')
    have hvc10':Vec MD.next 1 52 (rslc (2*s.lines.length)) M10 (.slice ac is.length fc ec) is:=hvc10
    have d10:At M10 n11 (.cells true (cow A s (.slice ac is.length fc ec)) 121):=h11.grow hg810
    have hR10:=hR.grow hn111.grow
    have hbk10:∀ j (hj:j < is.length),MD.next<=is[j] /\ At M10 is[j] (.cells true ((rowC s j (2*s.lines.length)).flatMap intz) 3):=fun j hj=>⟨(hbk j hj).1,(hbk j hj).2.grow hg810⟩
    have hgs810:Grow M8 M10 /\ True:=⟨hg810,trivial⟩
    clear hg810
    refine z0q (by exact gd) (l':=[iR]) hvc10' rfl rfl rfl (by simp) (by rw [List.length_singleton];omega) rfl hw10 (fun _=>rfl) (fun _=>rfl) (by omega) ?_
    intro v11 M11 hv11 e16 hk11
    have le11:=hk11.le
    have hF:∀ i,(∃ cs ty,At M10 i (.cells true cs ty) /\ ty ≠ 52)->¬ (MD.next<=i /\ ∃ o n f e,LV.slice ac is.length fc ec=.slice (some (i,o)) n f e):=by
     rintro i ⟨cs,ty,hi,hty⟩ ⟨h1,o,n,f,e,h2⟩
     rcases hvc10' with ⟨_,q1⟩|⟨q,q1,q2,_⟩
     ·rw [q1] at h2;cases h2
     ·rw [q1] at h2
      cases h2
      exact hty (z5t hi q2)
    have d11:=d10.keep hk11 (hF _ ⟨_,_,d10,by decide⟩)
    have hR11:=hR10.keep hk11 (hF _ ⟨_,_,hR10,by decide⟩)
    have hbk11:∀ j (hj:j < is.length),MD.next<=is[j] /\ At M11 is[j] (.cells true ((rowC s j (2*s.lines.length)).flatMap intz) 3):=fun j hj=>by
     obtain ⟨g1,g2⟩:=hbk10 j hj
     exact ⟨g1,g2.keep hk11 (hF _ ⟨_,_,g2,by decide⟩)⟩
    have hk811:Keep (fun i=>MD.next<=i) M8 M11:=(hgs810.1.to_keep _).trans hk11 (fun i hi=>.inl hi.1)
    clear hF hk11
    obtain ⟨av,fv,ev,rfl⟩:=hv11.shape
    (repeat' first|with_reducible intro _|refine sv ?_|refine sc ?_ ?_<;>(intro h;try exact sz h)|refine sg ?_ ?_<;>(intro h;first|exact sz h|refine sy h ?_)|exact sq|fail)
    rename_i M12 hu12 e17 a12
    have hv12:Vec MD.next 1 52 (rslc (2*s.lines.length)) M12 (.slice av (is ++ [iR]).length fv ev) (is ++ [iR]):=Or.imp id (fun ⟨i,z1,z2,z3⟩=>⟨i,z1,z2.upd_ne hu12 (by omega),z3⟩) hv11
    refine zg (2*s.lines.length+1 - (k+1)) (by omega) ⟨k+1,_,is ++ [iR],rfl,by omega,by rw [List.length_append,List.length_singleton];omega,rfl,.cons rfl (.cons rfl (.cons rfl (.cons rfl (.cons rfl (.cons rfl (.cons rfl (.cons rfl .nil))))))),(hk8.trans hk811 (fun i hi=>.inr hi)).upd hu12 (.inl rfl),a12,hv12,fun j hj=>?_⟩
    by_cases hjk:j < is.length
    ·rw [List.getElem_append_left hjk]
     obtain ⟨g1,g2⟩:=hbk11 j hjk
     exact ⟨g1,g2.upd_ne hu12 (by omega)⟩
    ·obtain rfl:j=is.length:=by rw [List.length_append,List.length_singleton] at hj;omega
     rw [List.getElem_append_right (Nat.le_refl _)]
     simp only [Nat.sub_self,List.getElem_cons_zero]
     subst hisl
     exact ⟨by omega,hR11.upd_ne hu12 (by omega)⟩
   have hml:m < 2*s.lines.length:=by omega
   have rM:Rd1 M9 io (0+m*1) (I (begC s m).2):=(zo (enc:=intz) pO (fun _ _=>rfl) (by rw [z62];exact hml)).nth (j:=0) (by rw [zdz];rfl)
   have hbo:=z8s hs (c:=m) (by omega)
   have hgM9:Grow M M9 /\ True:=⟨hg8.1.trans hg9,trivial⟩
   have q0:=zdu (s:=s)
   have q1:(mapP s).length<=100:=by omega
   have q2:fr < (mapP s).length:=by omega
   have q3:s.buoys.length+m < (mapP s).length:=by omega
   have hps:=fun (M':Mem) (hg:Grow M9 M')=>zev (A:=A) (s:=s) (P:=mapP s) (more:=begL s (2*s.lines.length) ++ [s.start.1]) (fr:=fr) (to:=s.buoys.length+m) (a:=(posR s k).2) (b:=(begC s m).2) (aP:=aP) (aF:=aF) (fP:=fP) (fF:=fF) hs rfl hPl q1 q2 (Nat.le_add_right _ _) q3 hpo.2 hbo.2 (M:=M') ((hmP.grow (Keep.to_grow' hgD6.1 hk8 (fun i hi=>by omega))).grow (hg9.trans hg))
   have hpe:passR s (mapP s) fr (posR s k).2 (s.buoys.length+m) (begC s m).2=bestF s (posR s k) (begC s m):=by
    rw [zki (P:=mapP s) (more:=begL s (2*s.lines.length) ++ [s.start.1]) rfl (Nat.le_add_right _ _) q3,hf2,zdt hml]
   rw [hpe,hLP] at hps
   have hcR:costR s k m=match bestF s (posR s k) (begC s m) with|some y=>y.2|none=>-1:=rfl
   (have hrd0:=rM;repeat' first|with_reducible intro _|refine sv ?_|refine sc ?_ ?_<;>(intro h;try exact sz h)|(with_reducible first|apply zk|apply zu|apply z00);exact gd;exact rfl;exact rfl;exact hps _ (xg)|refine sg ?_ ?_<;>(intro h;first|exact sz h|refine sy h ?_)|exact sq|fail)
   rename_i w M10 hq n17 M11 hn17 e14 e15
   obtain ⟨hg10,sl,c,b',rfl,hw⟩:=hq
   obtain ⟨ax,nx,fx,ex,rfl⟩:=hw.shape
   have le10:=hg10.le
   have hbb:b'=(bestF s (posR s k) (begC s m)).isSome /\ (b'=true->c=costR s k m):=by
    cases hb:bestF s (posR s k) (begC s m) with
    | none=>rw [hb] at hw;exact ⟨hw.1,fun h=>by rw [hw.1] at h;cases h⟩
    | some y=>rw [hb] at hw hcR;exact ⟨hw.1,fun _=>by rw [hcR];exact hw.2.1⟩
   have hg911:Grow M9 M11:=hg10.trans hn17.grow
   have hgs811:Grow M8 M11 /\ True:=⟨hg9.trans hg911,trivial⟩
   have hvr11:=hvr.grow hg911
   clear hg911
   have hend:∀ {E':Env} {M':Mem} {K:Ex->Env->List Nat->Mem->Prop} {vr':LV},Has E' [(1,.ptr (some (n1,0))),(2,.ptr (some (n2,0))),(3,I (2*(s.lines.length:Int))),(5,.slice (some (io,0)) (2*s.lines.length) false 1),(9,.ptr (some (n9,0))),(10,I s.buoys.length),(11,.ptr (some (n11,0))),(12,I k),(13,I fr),(14,I (posR s k).2),(15,vr'),(16,I ((m+1:Nat):Int))]->Grow M8 M'->Vec M8.next 1 3 intz M' vr' (rowC s k m ++ [costR s k m]) ->
     KStep (fun n E ms M'=>∃ (m:Nat) (vr:LV),n=2*s.lines.length - m /\ m<=2*s.lines.length /\ ms=[] /\ Has E [(1,.ptr (some (n1,0))),(2,.ptr (some (n2,0))),(3,I (2*(s.lines.length:Int))),(5,.slice (some (io,0)) (2*s.lines.length) false 1),(9,.ptr (some (n9,0))),(10,I s.buoys.length),(11,.ptr (some (n11,0))),(12,I k),(13,I fr),(14,I (posR s k).2),(15,vr),(16,I m)] /\ Grow M8 M' /\ Vec M8.next 1 3 intz M' vr (rowC s k m)) (2*s.lines.length - m) K .norm E' [] M':=by
    intro E' M' K vr' g1 g2 g3
    exact zg (2*s.lines.length - (m+1)) (by omega) ⟨m+1,vr',rfl,by omega,rfl,g1,g2,by rw [zib];exact g3⟩
   cases b' with
   | false =>
    have hx:costR s k m=-1:=by
     rw [hcR]
     cases hb:bestF s (posR s k) (begC s m) with
     | none=>rfl
     | some y=>rw [hb] at hbb;cases hbb.1
    (repeat' first|with_reducible intro _|refine sv ?_|refine sc ?_ ?_<;>(intro h;try exact sz h)|refine sg ?_ ?_<;>(intro h;first|exact sz h|refine sy h ?_)|exact sq|fail)
    rename_i M12 hu12 e16 a12 M13 hu13 e17 a13 n106 M14 hn106 e18 e19
    have hk11:Keep (fun i=>i=n17) M11 M14:=(((Keep.refl (fun i=>i=n17) M11).upd hu12 (.inl rfl)).upd hu13 (.inl rfl)).new hn106
    have hvr14:Vec M8.next 1 3 intz M14 (.slice ar (rowC s k m).length fr' er) (rowC s k m):=hvr.imp id fun ⟨i,z1,z2,z3⟩=>⟨i,z1,((z2.grow hg10).grow hn17.grow).keep hk11 (by have:=(z2.grow hg10).2;omega),z3⟩
    have hw14:firstL 1 1 (.slice (some (n106,0)) 1 true 1) M14=some ([(-1:Int)].flatMap intz):=zn (enc:=intz) (l:=[(-1:Int)]) (fun _ _=>rfl) (fun k' hk'=>zo (enc:=intz) (l:=[(-1:Int)]) (At.new_same hn106) (fun _ _=>rfl) hk')
    have hg814:Grow M8 M14:=Keep.to_grow' hgs811.1 hk11 (fun i hi=>by omega)
    refine z0q (by exact gd) (l':=[(-1:Int)]) hvr14 rfl rfl rfl (by simp) (by rw [List.length_singleton];omega) rfl hw14 (fun _=>rfl) (fun _=>rfl) (by omega) ?_
    intro v15 M15 hv15 e20 hk15
    have hg815:Grow M8 M15:=Keep.to_grow' hg814 hk15 (fun i hi=>hi.1)
    clear hk15 hg814 hk11
    (repeat' first|with_reducible intro _|refine sv ?_|refine sc ?_ ?_<;>(intro h;try exact sz h)|refine sg ?_ ?_<;>(intro h;first|exact sz h|refine sy h ?_)|exact sq|fail)
    exact hend (.cons rfl (.cons rfl (.cons rfl (.cons rfl (.cons rfl (.cons rfl (.cons rfl (.cons rfl (.cons rfl (.cons rfl (.cons rfl (.cons rfl .nil)))))))))))) hg815 (by rw [hx];exact hv15)
   | true =>
    have hx:costR s k m=c:=(hbb.2 rfl).symm
    (repeat' first|with_reducible intro _|refine sv ?_|refine sc ?_ ?_<;>(intro h;try exact sz h)|refine sg ?_ ?_<;>(intro h;first|exact sz h|refine sy h ?_)|exact sq|fail)
    rename_i M12 hu12 e16 a12 n106 M14 hn106 e18 e19
    have hk11:Keep (fun i=>i=n17) M11 M14:=((Keep.refl (fun i=>i=n17) M11).upd hu12 (.inl rfl)).new hn106
    have hvr14:Vec M8.next 1 3 intz M14 (.slice ar (rowC s k m).length fr' er) (rowC s k m):=hvr.imp id fun ⟨i,z1,z2,z3⟩=>⟨i,z1,((z2.grow hg10).grow hn17.grow).keep hk11 (by have:=(z2.grow hg10).2;omega),z3⟩
    have hw14:firstL 1 1 (.slice (some (n106,0)) 1 true 1) M14=some ([c].flatMap intz):=zn (enc:=intz) (l:=[c]) (fun _ _=>rfl) (fun k' hk'=>zo (enc:=intz) (l:=[c]) (At.new_same hn106) (fun _ _=>rfl) hk')
    have hg814:Grow M8 M14:=Keep.to_grow' hgs811.1 hk11 (fun i hi=>by omega)
    refine z0q (by exact gd) (l':=[c]) hvr14 rfl rfl rfl (by simp) (by rw [List.length_singleton];omega) rfl hw14 (fun _=>rfl) (fun _=>rfl) (by omega) ?_
    intro v15 M15 hv15 e20 hk15
    have hg815:Grow M8 M15:=Keep.to_grow' hg814 hk15 (fun i hi=>hi.1)
    clear hk15 hg814 hk11
    (repeat' first|with_reducible intro _|refine sv ?_|refine sc ?_ ?_<;>(intro h;try exact sz h)|refine sg ?_ ?_<;>(intro h;first|exact sz h|refine sy h ?_)|exact sq|fail)
    exact hend (.cons rfl (.cons rfl (.cons rfl (.cons rfl (.cons rfl (.cons rfl (.cons rfl (.cons rfl (.cons rfl (.cons rfl (.cons rfl (.cons rfl .nil)))))))))))) hg815 (by rw [hx];exact hv15)
 have hlt:k < 2*s.lines.length:=by omega
 have hend:=fun M' (hg:Grow M2 M')=>zjh (hM2.grow hg) hs hlt
 obtain ⟨am,fm,em,rfl⟩:=hvm.shape
 obtain ⟨ao,fo,eo,rfl⟩:=hvo.shape
 have hbl:=z3r (s:=s) (m:=k)
 have hol:=z62 (s:=s) (m:=k)
 (repeat' first|with_reducible intro _|refine sv ?_|refine sc ?_ ?_<;>(intro h;try exact sz h)|(with_reducible first|apply za|apply z8|apply z5);exact gd;exact rfl;exact rfl;exact hend _ (xg)|refine sg ?_ ?_<;>(intro h;first|exact sz h|refine sy h ?_)|exact sq|fail)
 rename_i M4 hg4 e5 n7 M5 hn7 e6 e7 n8 M6 hn8 e8 e9 M7 hu7 e10 a7 M8 hu8 e11 a8 n40 M9 hn40 e12 e13
 have hg39:Grow M3 M9:=xg
 have d7:At M9 n7 (.cells true (posc (begC s k)) 32):=xm
 have hvm9:=hvm.grow hg39
 have hvo9:=hvo.grow hg39
 have hw9:firstL 2 1 (.slice (some (n40,0)) 1 true 2) M9=some ([(begC s k).1].flatMap ptc):=zn (enc:=ptc) (l:=[(begC s k).1]) (fun _ _=>rfl) (fun k' hk'=>zo (enc:=ptc) (l:=[(begC s k).1]) (At.new_same hn40) (fun _ _=>rfl) hk')
 have hgs39:Grow M2 M9 /\ True:=⟨hg3.trans hg39,trivial⟩
 have le39:=hg39.le
 have hl7:M2.next<=n7:=by omega
 clear hg39
 refine z0n (by exact gd) (l':=[(begC s k).1]) hvm9 rfl rfl rfl (by simp) (by rw [List.length_singleton];omega) rfl hw9 (fun _=>rfl) (fun _=>rfl) (by omega) ?_
 intro v10 M10 hv10 e14 hk10
 have hvo10:=Vec.other hvm9 hvo9 (by decide) hk10
 have d7':At M10 n7 (.cells true (posc (begC s k)) 32):=d7.keep hk10 (by
  rintro ⟨_,o,n,f,e,h2⟩
  rcases hvm9 with ⟨_,q1⟩|⟨j,q1,q2,_⟩
  ·rw [q1] at h2;cases h2
  ·rw [q1] at h2;cases h2;exact absurd (z5t q2 d7) (by decide))
 have hgs10:Grow M2 M10 /\ True:=⟨Keep.to_grow' hgs39.1 hk10 (fun i hi=>hi.1),trivial⟩
 have le10:=hk10.le
 clear hk10
 (repeat' first|with_reducible intro _|refine sv ?_|refine sc ?_ ?_<;>(intro h;try exact sz h)|refine sg ?_ ?_<;>(intro h;first|exact sz h|refine sy h ?_)|exact sq|fail)
 rename_i n45 M11 hn45 e15 e16
 have hw11:firstL 1 1 (.slice (some (n45,0)) 1 true 1) M11=some ([(begC s k).2].flatMap intz):=zn (enc:=intz) (l:=[(begC s k).2]) (fun _ _=>rfl) (fun k' hk'=>zo (enc:=intz) (l:=[(begC s k).2]) (At.new_same hn45) (fun _ _=>rfl) hk')
 have hvo11:=hvo10.grow hn45.grow
 have hvm11:Vec M2.next 2 30 ptc M11 v10 (begL s k ++ [(begC s k).1]):=hv10.grow hn45.grow
 refine z0n (by exact gd) (l':=[(begC s k).2]) hvo11 rfl rfl rfl (by simp) (by rw [List.length_singleton];omega) rfl hw11 (fun _=>rfl) (fun _=>rfl) (by omega) ?_
 intro v12 M12 hv12 e17 hk12
 have hvm12:=Vec.other hvo11 hvm11 (by decide) hk12
 have hg12:Grow M2 M12:=Keep.to_grow' (hgs10.1.trans hn45.grow) hk12 (fun i hi=>hi.1)
 clear hk12
 (repeat' first|with_reducible intro _|refine sv ?_|refine sc ?_ ?_<;>(intro h;try exact sz h)|refine sg ?_ ?_<;>(intro h;first|exact sz h|refine sy h ?_)|exact sq|fail)
 refine zg (2*s.lines.length - (k+1)) (by omega) ⟨k+1,v10,v12,rfl,by omega,rfl,.cons rfl (.cons rfl (.cons rfl (.cons rfl (.cons rfl (.cons rfl .nil))))),hg12,by rw [zg7];exact hvm12,by rw [zhu];exact hv12⟩
end Go.Proofs.YtpccafeedfpbaaaGreat.C
end
