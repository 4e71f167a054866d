/-
 Part of the proof of CourseAccepted: what functions of the program and of the statement come to,walked by the rules. No condition beyond those in each theorem.
-/
import Derived.Test.YtpccafeedfpbaaaGreatUM
import Derived.Test.YtpccafeedfpbaaaGreatUN
import Derived.Test.YtpccafeedfpbaaaGreatUI
import Derived.Test.YtpccafeedfpbaaaGreatUE
section
open Go PvL Go.Proofs
set_option linter.unusedSimpArgs false
set_option linter.unusedVariables false
namespace Go.Proofs.YtpccafeedfpbaaaGreat.C
theorem zlw {s:Cr} {t:List Int} {set c:Nat}:badS s t set c=true ↔ ∃ x ∈ earL s t set c,t.getD (plN s set c) 0=-1 ∨ x < t.getD (plN s set c) 0:=by
 unfold badS
 cases h:minL (earL s t set c) with
 | none =>
  rw [zb8.1 h]
  exact ⟨fun h=>(by cases h),fun ⟨x,hx,_⟩=>(by cases hx)⟩
 | some w =>
  obtain ⟨h1,h2⟩:=z2o h
  dsimp only
  rw [decide_eq_true_iff]
  refine ⟨fun h=>⟨w,h1,h⟩,fun ⟨x,hx,h3⟩=>?_⟩
  have:=h2 x hx
  omega
def okc (s:Cr) (t:List Int) (e:Int) (set c:Nat):Prop:=set.testBit (c / 2)=true->badS s t set c=false /\ (set=allN s->¬ (t.getD (plN s set c) 0 ≠ -1 /\ t.getD (plN s set c) 0 < e))
noncomputable def pvV (s:Cr) (t:List Int) (e:Int):Bool:=!(badA s t) && !((t.drop (plN s (allN s) 0)).any fun v=>decide (v ≠ -1) && decide (v < e))
theorem zh1 {s:Cr} {t:List Int} {e:Int} (hl:t.length=2*s.lines.length*2 ^ s.lines.length):((t.drop (plN s (allN s) 0)).any fun v=>decide (v ≠ -1) && decide (v < e))=true ↔ ∃ c,c < 2*s.lines.length /\ (t.getD (plN s (allN s) c) 0 ≠ -1 /\ t.getD (plN s (allN s) c) 0 < e):=by
 have hp:=Nat.two_pow_pos s.lines.length
 have hlen:plN s (allN s) 0+2*s.lines.length=t.length:=by
  rw [hl]
  unfold plN allN
  rw [Nat.mul_sub]
  have:2*s.lines.length*1<=2*s.lines.length*2 ^ s.lines.length:=Nat.mul_le_mul_left _ hp
  omega
 rw [List.any_eq_true]
 constructor
 ·rintro ⟨v,hv,h⟩
  rw [Bool.and_eq_true,decide_eq_true_iff,decide_eq_true_iff] at h
  obtain ⟨c,hc,rfl⟩:=List.getElem_of_mem hv
  rw [List.length_drop] at hc
  refine ⟨c,by omega,?_⟩
  rw [List.getElem_drop] at h
  have hpc:plN s (allN s) c=plN s (allN s) 0+c:=rfl
  rw [ze (by omega)]
  exact h
 ·rintro ⟨c,hc,h⟩
  have hpc:plN s (allN s) c=plN s (allN s) 0+c:=rfl
  rw [ze (by omega)] at h
  refine ⟨t[plN s (allN s) c]'(by omega),?_,by rw [Bool.and_eq_true,decide_eq_true_iff,decide_eq_true_iff];exact h⟩
  rw [List.mem_drop_iff_getElem]
  exact ⟨c,by omega,rfl⟩
def restM (x m:Int):Int:=if x.tmod m < 0 then x.tmod m+m else x.tmod m
theorem ze7 {x m:Int} (hm:1<=m):0<=restM x m /\ restM x m < m:=by
 have h1:=Int.lt_tmod_of_pos x (b:=m) (by omega)
 have h2:=Int.tmod_lt_of_pos x (b:=m) (by omega)
 unfold restM
 split<;>omega
theorem zga (x m:Int) (hm:1<=m /\ m<=1000000000000000) (M:Mem):CallOk Tryz.prog 28 [I x,I m] M (fun w M'=>w=I (restM x m) /\ M'=M):=by
 have h1:=Int.lt_tmod_of_pos x (b:=m) (by omega)
 have h2:=Int.tmod_lt_of_pos x (b:=m) (by omega)
 refine z6 kq28 rfl ?_
 dsimp only [xq28,qm,qi,qB,qC,qq,zipE,Nat.reduceAdd]
 (repeat' first|with_reducible intro _|refine sv ?_|refine sc ?_ ?_<;>(intro h;try exact sz h)|refine sg ?_ ?_<;>(intro h;first|exact sz h|refine sy h ?_)|exact sq|fail)
 all_goals (refine kf ?_)
 all_goals refine ⟨?_,rfl⟩
 all_goals unfold restM
 ·rw [if_pos (by omega)];rfl
 ·rw [if_neg (by omega)];rfl
theorem zpy {a:Option (Nat × Nat)} {f:Bool} {e:Nat} {l:List Int} {M:Mem} (h:SlA 1 intz M a l) (hl:l.length<=1000000) :
  CallOk Tryz.prog 69 [.slice a l.length f e] M (fun w M'=>Vec M.next 1 3 intz M' w l /\ Grow M M'):=by
 refine z6 kq69 rfl ?_
 dsimp only [xq69,qm,qo,qq,qZ,qN,zipE,Nat.reduceAdd]
 (repeat' first|with_reducible intro _|refine sv ?_|refine sc ?_ ?_<;>(intro h;try exact sz h)|refine sg ?_ ?_<;>(intro h;first|exact sz h|refine sy h ?_)|exact sq|fail)
 refine z56 (by exact gd) (b:=M.next) (l:=[]) (l':=l) (enc:=intz) (.inl ⟨rfl,rfl⟩) rfl rfl rfl (by simp;omega) rfl (fun h0=>z7f h (fun _ _=>rfl) h0) (fun _=>rfl) (fun _=>rfl) (Nat.le_refl _) ?_
 intro v M1 hv le hk
 have hg:Grow M M1:=Keep.to_grow' (Grow.refl _) hk (fun i hi=>hi.1)
 (repeat' first|with_reducible intro _|refine sv ?_|refine sc ?_ ?_<;>(intro h;try exact sz h)|refine sg ?_ ?_<;>(intro h;first|exact sz h|refine sy h ?_)|exact sq|fail)
 (refine kf ?_)
 exact ⟨hv,hg⟩
abbrev clv (own:Bool) (at_ less:Int) (aT:Option (Nat × Nat)) (n:Nat) (fT:Bool) (e:Int):LV:=.agg [.bool own,I at_,I less,.slice aT n fT 1,I e]
set_option maxHeartbeats 8000000 in
theorem zjd {A:CrA} {s:Cr} {own:Bool} {at_ less e:Int} {aT:Option (Nat × Nat)} {fT:Bool} {t:List Int} {M:Mem} (hM:CrM M A s) (ht:SlA 1 intz M aT t) (htl:t.length<=1000000000000000) :
  CallOk Tryz.prog 24 [clv own at_ less aT t.length fT e,crv A s] M (fun v M'=>Grow M M' /\ ∃ (a:Option (Nat × Nat)) (l:List Int) (f:Bool) (q:Nat),v=.slice a l.length f q /\ SlA 1 intz M' a l /\ l.length<=1000000000000000 /\ (CrOk s->q=1)):=by
 refine z6 kq24 rfl ?_
 dsimp only [xq24,qm,qf,ql,qL,qb,qe,qc,qa,qn,qB,qC,qS,qo,qk,qK,qq,qN,zipE,Nat.reduceAdd]
 cases own with
 | false =>
  (repeat' first|with_reducible intro _|refine sv ?_|refine sc ?_ ?_<;>(intro h;try exact sz h)|refine sg ?_ ?_<;>(intro h;first|exact sz h|refine sy h ?_)|exact sq|fail)
  all_goals try (exfalso;omega)
  (refine kf ?_)
  exact ⟨xg,aT,t,fT,1,rfl,ht.grow (xg),htl,fun _=>rfl⟩
 | true =>
  have htb:=fun M' (hg:Grow M M')=>zjb (hM.grow hg)
  have hll:=zfq (s:=s)
  have hne:CrOk s->0 < (TableF s).1.length:=fun hok=>by
   unfold TableF
   rw [if_pos hok]
   show 0 < (tabF s).length
   rw [z53]
   have:=Nat.two_pow_pos s.lines.length
   exact Nat.mul_pos (by have:=hok.n1;omega) this
  have htv:∀ v ∈ (TableF s).1,-1<=v /\ v<=1048576:=by
   unfold TableF
   split
   ·next hok=>exact (TbOk.rows hok _).2
   ·exact fun v hv=>(by cases hv)
  generalize TableF s=tf at *
  (repeat' first|with_reducible intro _|refine sv ?_|refine sc ?_ ?_<;>(intro h;try exact sz h)|(with_reducible first|apply zk|apply zu|apply z00);exact gd;exact rfl;exact rfl;exact htb _ (xg)|refine sg ?_ ?_<;>(intro h;first|exact sz h|refine sy h ?_)|exact sq|fail)
  rename_i n2 M1 hn2 e1 e2 n3 M2 hn3 e3 e4 w M3 hq
  obtain ⟨hg3,sl,rfl,hsl⟩:=hq
  have le3:=hg3.le
  obtain ⟨a1,f1,q1,rfl,hA⟩:=znc hsl
  have hown:=fun M' (hg:Grow M3 M')=>zpy (f:=f1) (e:=q1) (hA.grow hg) hll
  have b2:At M3 n2 (.cells true [.bool true,I at_,I less,.slice aT t.length fT 1,I e] 57):=xm
  have hgs3:Grow M M3 /\ True:=⟨xg,trivial⟩
  have h23:n2 < M3.next /\ M.next<=M3.next:=by omega
  clear htb hsl hn2 hn3 hg3
  (repeat' first|with_reducible intro _|refine sv ?_|refine sc ?_ ?_<;>(intro h;try exact sz h)|(with_reducible first|apply zk|apply zu|apply z00);exact gd;exact rfl;exact rfl;exact hown _ (xg)|refine sg ?_ ?_<;>(intro h;first|exact sz h|refine sy h ?_)|exact sq|fail)
  rename_i w M4 hq
  obtain ⟨hv,hg4⟩:=hq
  have le4:=hg4.le
  have b4:=b2.grow hg4
  have hgs4:Grow M M4 /\ True:=⟨hgs3.1.trans hg4,trivial⟩
  clear hown hg4
  rcases hv with ⟨h0,rfl⟩|⟨i,rfl,ai,hib⟩
  ·have hno:¬ CrOk s:=fun h=>by have:=hne h;rw [h0] at this;simp at this
   (repeat' first|with_reducible intro _|refine sv ?_|refine sc ?_ ?_<;>(intro h;try exact sz h)|refine sg ?_ ?_<;>(intro h;first|exact sz h|refine sy h ?_)|exact sq|fail)
   all_goals try (exfalso;omega)
   (refine kf ?_)
   exact ⟨hgs4.1,none,[],true,0,rfl,.inl rfl,by simp,fun h=>absurd h hno⟩
  ·have hix:=ai.2
   by_cases h0:0 < tf.1.length
   rotate_left
   ·(repeat' first|with_reducible intro _|refine sv ?_|refine sc ?_ ?_<;>(intro h;try exact sz h)|refine sg ?_ ?_<;>(intro h;first|exact sz h|refine sy h ?_)|exact sq|fail)
    all_goals try (exfalso;omega)
    (refine kf ?_)
    exact ⟨hgs4.1,some (i,0),tf.1,_,1,rfl,ze5 ai,by omega,fun _=>rfl⟩
   have hrb:=ze7 (x:=at_) (m:=tf.1.length) (by omega)
   have hkn:(restM at_ tf.1.length).toNat < tf.1.length:=by omega
   have hr1:=fun M'=>zga at_ tf.1.length (by omega) M'
   have hr2:=fun M'=>zga less 1000 (by omega) M'
   have hl2:=ze7 (x:=less) (m:=1000) (by omega)
   have rT:Rd1 M4 i (0+(restM at_ tf.1.length).toNat*1) (I tf.1[(restM at_ tf.1.length).toNat]):=(zo (enc:=intz) ai (fun _ _=>rfl) hkn).nth (j:=0) rfl
   have hvb:=htv _ (List.getElem_mem hkn)
   generalize tf.1[(restM at_ tf.1.length).toNat]=v at *
   generalize restM less 1000=r2 at *
   generalize restM at_ tf.1.length=r1 at *
   (have hrd0:=rT;repeat' first|with_reducible intro _|refine sv ?_|refine sc ?_ ?_<;>(intro h;try exact sz h)|(with_reducible first|apply zj|apply zi|apply zd);exact gd;exact rfl;exact rfl;(first|exact hr1 _|exact hr2 _)|refine sg ?_ ?_<;>(intro h;first|exact sz h|refine sy h ?_)|exact sq|fail)
   all_goals try (exfalso;omega)
   refine d_st (by exact gd) rfl rfl ai rfl rfl (cs':=(tf.1.set r1.toNat (iMax (-1) (v - r2))).flatMap intz) (by rw [show 0+r1.toNat*1=r1.toNat by omega];exact z27 _ _ _ hkn) ?_
   intro M5 hu5 e5 a5
   (repeat' first|with_reducible intro _|refine sv ?_|refine sc ?_ ?_<;>(intro h;try exact sz h)|refine sg ?_ ?_<;>(intro h;first|exact sz h|refine sy h ?_)|exact sq|fail)
   (refine kf ?_)
   exact ⟨Keep.to_grow' hgs4.1 ((Keep.refl (fun j=>j=i) M4).upd hu5 (.inl rfl)) (fun j hj=>by omega),some (i,0),tf.1.set r1.toNat (iMax (-1) (v - r2)),false,1,by rw [List.length_set];rfl,ze5 a5,by rw [List.length_set];omega,fun _=>rfl⟩
theorem zet {A:CrA} {s:Cr} {aT:Option (Nat × Nat)} {fT:Bool} {n q:Nat} {e:Int} {M:Mem} (hM:CrM M A s) (hno:¬ CrOk s) :
  CallOk Tryz.prog 25 [crv A s,.slice aT n fT q,I e] M (fun v M'=>Grow M M' /\ v=.tup [.bool false,I 40]):=by
 refine z6 kq25 rfl ?_
 dsimp only [xq25,qm,qf,ql,qL,qi,qb,qe,qc,qa,qn,qB,qC,qg,qS,qo,qk,qK,qq,qZ,zipE,Nat.reduceAdd]
 have hc:=fun M' (hg:Grow M M')=>z5x (hM.grow hg)
 (repeat' first|with_reducible intro _|refine sv ?_|refine sc ?_ ?_<;>(intro h;try exact sz h)|(with_reducible first|apply zk|apply zu|apply z00);exact gd;exact rfl;exact rfl;exact hc _ (xg)|refine sg ?_ ?_<;>(intro h;first|exact sz h|refine sy h ?_)|exact sq|fail)
 rename_i n3 M1 hn3 e1 e2 n4 M2 hn4 e3 e4 n5 M3 hn5 e5 e6 n6 M4 hn6 e7 e8 n7 M5 hn7 e9 e10 w M6 hq
 obtain ⟨hg6,⟨hno,pk,rfl⟩|⟨hok,pc,pm,pk,rfl,hpl,h1,h2,h3⟩⟩:=hq
 ·have hle6:=hg6.le
  (repeat' first|with_reducible intro _|refine sv ?_|refine sc ?_ ?_<;>(intro h;try exact sz h)|refine sg ?_ ?_<;>(intro h;first|exact sz h|refine sy h ?_)|exact sq|fail)
  (refine kf ?_)
  exact ⟨xg,rfl⟩
 ·exact absurd hok hno
end Go.Proofs.YtpccafeedfpbaaaGreat.C
end
section
open Go PvL Go.Proofs
set_option linter.unusedVariables false
namespace Go.Proofs.YtpccafeedfpbaaaGreat.C
abbrev clSh:Sh:=.pair .bool (.pair (.int .i64) (.pair (.int .i64) (.pair (.sl (.int .i64)) (.int .i64))))
theorem zh2 {m:Mem} {x:clSh.T} {c:List LV} (h:Enc m clSh x c):∃ a f,c=[.bool x.1,I x.2.1,I x.2.2.1,.slice a x.2.2.2.1.length f 1,I x.2.2.2.2] /\ SlA 1 intz m a x.2.2.2.1 /\ x.2.2.2.1.length<=reachBytes:=by
 obtain ⟨c1,d1,rfl,h1,c2,d2,rfl,h2,c3,d3,rfl,h3,c4,d4,rfl,h4,h5⟩:=h
 obtain ⟨a,f,e,hs,hl⟩:=z6m (enc:=intz) (fun _ _=>z21) h4
 obtain rfl:=e
 have e1:c1=[.bool x.1]:=h1
 rw [e1,z21 h2,z21 h3,z21 h5]
 exact ⟨a,f,rfl,hs,hl⟩
end Go.Proofs.YtpccafeedfpbaaaGreat.C
end
