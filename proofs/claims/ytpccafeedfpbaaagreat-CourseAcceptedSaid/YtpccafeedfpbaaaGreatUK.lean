/-
 Part of the proof of CourseAccepted: what functions of the program and of the statement come to,walked by the rules. No condition beyond those in each theorem.
-/
import Derived.Test.YtpccafeedfpbaaaGreatUJ
import Derived.Test.YtpccafeedfpbaaaGreatUE
import Derived.Test.YtpccafeedfpbaaaGreatUD
section
open Go PvL Go.Proofs
set_option linter.unusedSimpArgs false
set_option linter.unusedVariables false
namespace Go.Proofs.YtpccafeedfpbaaaGreat.C
open Classical in
noncomputable def TableF (s:Cr):List Int × Int:=if CrOk s then (tabF s,0) else ([],40)
def IntV (b:Nat) (M:Mem) (v:LV) (l:List Int):Prop:=(l=[] /\ v=.slice none 0 true 0) ∨ ∃ i,v=.slice (some (i,0)) l.length true 1 /\ At M i (.cells true (l.flatMap intz) 3) /\ b<=i
theorem zp2 {s:Cr} {x:Int × Int} (h:rightP s x):shC (shN x)=.agg [I x.1,I x.2] /\ shN x < 2*s.lines.length:=by
 unfold rightP at h
 have h1:shN x / 2=x.1.toNat:=by unfold shN;omega
 have h2:shN x % 2=x.2.toNat:=by unfold shN;omega
 constructor
 ·unfold shC
  rw [h1,h2,Int.toNat_of_nonneg (by omega),Int.toNat_of_nonneg (by omega)]
 ·unfold shN;omega
abbrev shtc (x:Int × Int):List LV:=[I x.1,I x.2]
def metN (l:List (Int × Int)):Nat:=l.foldl (fun m x=>m ||| 2 ^ x.1.toNat) 0
theorem zho:∀ (l:List (Int × Int)) (m j:Nat),(l.foldl (fun m x=>m ||| 2 ^ x.1.toNat) m).testBit j=(m.testBit j || l.any fun x=>decide (x.1.toNat=j))
 | [],m,j=>by simp
 | x :: l,m,j=>by rw [List.foldl_cons,zho l,z0t,List.any_cons,Bool.or_assoc]
theorem zld {s:Cr} (hn:s.lines.length<=5):∀ (l:List (Int × Int)) (m:Nat),m < 1024->(∀ x ∈ l,rightP s x)->l.foldl (fun m x=>m ||| 2 ^ x.1.toNat) m < 1024
 | [],m,h,_=>h
 | x :: l,m,h,hl=>by
  rw [List.foldl_cons]
  have:=hl x (List.mem_cons_self ..)
  unfold rightP at this
  exact zld hn l _ (zle h (by omega)) fun y hy=>hl y (List.mem_cons_of_mem _ hy)
theorem zkh {s:Cr} {l:List (Int × Int)} {x:Int × Int} (h:OrdOk s l):OrdOk s (l ++ [x]) ↔ rightP s x /\ (metN l).testBit x.1.toNat=false:=by
 have hb:=zho l 0 x.1.toNat
 unfold metN
 rw [hb,Nat.zero_testBit,Bool.false_or]
 unfold OrdOk at *
 constructor
 ·rintro ⟨h1,h2⟩
  refine ⟨h1 x (by simp),?_⟩
  rw [List.map_append,List.nodup_append] at h2
  rw [<-Bool.not_eq_true,List.any_eq_true]
  rintro ⟨y,hy,e⟩
  have hy1:=h.1 y hy
  have hx1:=h1 x (by simp)
  unfold rightP at hy1 hx1
  have e:=of_decide_eq_true e
  exact h2.2.2 y.1 (List.mem_map_of_mem hy) x.1 (by simp) (by omega)
 ·rintro ⟨h1,h2⟩
  refine ⟨fun y hy=>?_,?_⟩
  ·rcases List.mem_append.1 hy with hy|hy
   ·exact h.1 y hy
   ·obtain rfl:=List.mem_singleton.1 hy;exact h1
  ·rw [List.map_append,List.nodup_append]
   refine ⟨h.2,by simp,fun a ha b hb2=>?_⟩
   obtain ⟨y,hy,rfl⟩:=List.mem_map.1 ha
   simp at hb2
   subst hb2
   intro e
   rw [<-Bool.not_eq_true,List.any_eq_true] at h2
   exact h2 ⟨y,hy,decide_eq_true (by rw [e])⟩
theorem ze2 {s:Cr} {l:List (Int × Int)} (h:OrdOk s l) (k:Nat):OrdOk s (l.take k) :=
 ⟨fun x hx=>h.1 x (List.mem_of_mem_take hx),by rw [List.map_take];exact h.2.sublist (List.take_sublist ..)⟩
theorem zhz {s:Cr} (hs:CrOk s) {l:List (Int × Int)} (h:OrdOk s l):l.length<=5:=by
 have h1:((l.map (·.1)).map Int.toNat).Nodup:=by
  refine List.pairwise_map.2 (List.Pairwise.imp_of_mem (fun {a b} ha hb hab=>?_) h.2)
  obtain ⟨x,hx,rfl⟩:=List.mem_map.1 ha
  obtain ⟨y,hy,rfl⟩:=List.mem_map.1 hb
  have h2:=h.1 x hx
  have h3:=h.1 y hy
  unfold rightP at h2 h3
  omega
 have h2:=z24 5 _ h1 (fun k hk=>by
  obtain ⟨a,ha,rfl⟩:=List.mem_map.1 hk
  obtain ⟨x,hx,rfl⟩:=List.mem_map.1 ha
  have h2:=h.1 x hx
  have:=hs.n5
  unfold rightP at h2
  omega)
 rw [List.length_map,List.length_map] at h2
 exact h2
set_option maxHeartbeats 16000000 in
theorem zm2 {A:CrA} {s:Cr} {aI:Option (Nat × Nat)} {fI:Bool} {eI:Nat} {l:List (Int × Int)} {M:Mem} (hM:CrM M A s) (hl:SlA 2 shtc M aI l) (hlen:l.length<=1000000000000000):CallOk Tryz.prog 17 [crv A s,.slice aI l.length fI eI] M (fun v M'=>Grow M M' /\ ∃ sl,v=.tup [sl,I (TimesF s l).2] /\ Vec M.next 2 26 bdc M' sl (TimesF s l).1):=by
 refine z6 kq17 rfl ?_
 dsimp only [xq17,qm,qf,ql,qL,qi,qb,qe,qc,qa,qn,qB,qC,qg,qS,qo,qq,qZ,qN,zipE,Nat.reduceAdd]
 have hc:=fun M' (hg:Grow M M')=>z5x (hM.grow hg)
 unfold TimesF
 (repeat' first|with_reducible intro _|refine sv ?_|refine sc ?_ ?_<;>(intro h;try exact sz h)|(with_reducible first|apply zk|apply zu|apply z00);exact gd;exact rfl;exact rfl;exact hc _ (xg)|refine sg ?_ ?_<;>(intro h;first|exact sz h|refine sy h ?_)|exact sq|fail)
 rename_i n2 M1 hn2 e1 e2 w M3 hq
 obtain ⟨hg3,⟨hno,pk,rfl⟩|⟨hok,pc,pm,pk,rfl,hpl,h1,h2,h3⟩⟩:=hq
 ·have hle3:=hg3.le
  rw [if_neg hno]
  (repeat' first|with_reducible intro _|refine sv ?_|refine sc ?_ ?_<;>(intro h;try exact sz h)|refine sg ?_ ?_<;>(intro h;first|exact sz h|refine sy h ?_)|exact sq|fail)
  (refine kf ?_)
  exact ⟨xg,_,rfl,.nil⟩
 have hle3:=hg3.le
 rw [if_pos hok]
 have hpm:=hpl.ch.known.lt
 have hpk:=hpl.kc.lt
 have hn5:=hok.n5
 have hn1:=hok.n1
 (repeat' first|with_reducible intro _|refine sv ?_|refine sc ?_ ?_<;>(intro h;try exact sz h)|refine sg ?_ ?_<;>(intro h;first|exact sz h|refine sy h ?_)|exact sq|fail)
 rename_i n6 M4 hn6 e3 e4 M5 hu5 e5 a6
 have hg5:Grow M3 M5:=xg
 have hg05:Grow M M5:=xg
 have hpl5:=hpl.grow hg5
 have hle5:=hg5.le
 clear hg5
 refine zc (fun n E ms M'=>∃ k:Nat,n=l.length - k /\ k<=l.length /\ ms=[] /\ Has E [(1,.slice aI l.length fI eI),(6,.ptr (some (n6,0))),(8,I (metN (l.take k):Nat)),(25,.slice aI l.length fI eI),(26,I l.length),(27,I k)] /\ Grow M5 M' /\ OrdOk s (l.take k)) ?_ l.length _ _ _
  ⟨0,by omega,by omega,rfl,.cons rfl (.cons rfl (.cons rfl (.cons rfl (.cons rfl (.cons rfl .nil))))),xg,fun x hx=>(by cases hx),List.nodup_nil⟩
 rintro n E ms M6 ⟨k,rfl,hk,rfl,hE,hg6,hord⟩
 have hle6:=hg6.le
 have d6:=a6.grow hg6
 have hmet:metN (l.take k) < 1024:=zld hn5 _ 0 (by omega) hord.1
 refine zw hE ?_
 have hl6:=(hl.grow hg05).grow hg6
 by_cases hlast:k=l.length
 rotate_left
 ·have hlt:k < l.length:=by omega
  obtain ⟨iI,oI,rfl,hrI⟩:=hl6.resolve_left (fun h=>by rw [h] at hlt;simp at hlt)
  have rI:=hrI k hlt
  have hiI:=rI.2
  have htk:l.take (k+1)=l.take k ++ [l[k]]:=List.take_succ_eq_append_getElem hlt
  have hstep:=zkh (x:=l[k]) hord
  rw [<-htk] at hstep
  have hmk:metN (l.take (k+1))=metN (l.take k) ||| 2 ^ (l[k]).1.toNat:=by unfold metN;rw [htk,List.foldl_append];rfl
  have hcr:=fun M' (hg:Grow M5 M')=>zmf (x:=l[k]) (hpl5.ch.grow hg) ⟨hn1,hn5⟩
  generalize hx:l[k]=x at *
  by_cases hr:rightP s x
  ·have hr':=hr
   unfold rightP at hr'
   obtain ⟨x1,x2⟩:=x
   obtain ⟨i,rfl⟩:=Int.eq_ofNat_of_zero_le hr'.1.1
   have hi5:i < 5:=by have:=hr'.1.2;dsimp only at this;omega
   have hsb:=z08 (k:=i) (by omega)
   dsimp only at hr' hstep hmk hcr
   have rI:Rd M6 iI (oI+k*2) 2 [I (i:Int),I x2]:=rI
   rw [Int.toNat_natCast] at hstep hmk
   cases hb:(metN (l.take k)).testBit i with
   | true =>
    have hz:¬ andZ (metN (l.take k):Int) (shlZ 1 (i:Int))=0:=fun h=>by rw [z2t,hb] at h;cases h
    have hnot:¬ OrdOk s l:=fun h=>by have:=(hstep.1 (ze2 h (k+1))).2;rw [hb] at this;cases this
    rw [if_neg hnot]
    (have hrd0:=rI;repeat' first|with_reducible intro _|refine sv ?_|refine sc ?_ ?_<;>(intro h;try exact sz h)|(with_reducible first|apply za|apply z8|apply z5);exact gd;exact rfl;exact rfl;exact hcr _ (xg)|refine sg ?_ ?_<;>(intro h;first|exact sz h|refine sy h ?_)|exact sq|fail)
    all_goals try (exfalso;omega)
    all_goals ((refine kf ?_);exact ⟨xg,_,rfl,.nil⟩)
   | false =>
    have hz:andZ (metN (l.take k):Int) (shlZ 1 (i:Int))=0:=(z2t _ _).2 hb
    have hor:=zhy (metN (l.take k)) i
    rw [<-hmk] at hor
    (have hrd0:=rI;repeat' first|with_reducible intro _|refine sv ?_|refine sc ?_ ?_<;>(intro h;try exact sz h)|(with_reducible first|apply za|apply z8|apply z5);exact gd;exact rfl;exact rfl;exact hcr _ (xg)|refine sg ?_ ?_<;>(intro h;first|exact sz h|refine sy h ?_)|exact sq|fail)
    all_goals try (exfalso;omega)
    refine zg (l.length - (k+1)) (by omega) ⟨k+1,rfl,by omega,rfl,.cons rfl (.cons rfl (.cons (by rw [<-hor];rfl) (.cons rfl (.cons rfl (.cons rfl .nil))))),xg,hstep.2 ⟨hr,hb⟩⟩
  ·have hnot:¬ OrdOk s l:=fun h=>hr (hstep.1 (ze2 h (k+1))).1
   rw [if_neg hnot]
   unfold rightP at hr
   (have hrd0:=rI;repeat' first|with_reducible intro _|refine sv ?_|refine sc ?_ ?_<;>(intro h;try exact sz h)|(with_reducible first|apply za|apply z8|apply z5);exact gd;exact rfl;exact rfl;exact hcr _ (xg)|refine sg ?_ ?_<;>(intro h;first|exact sz h|refine sy h ?_)|exact sq|fail)
   all_goals try (exact absurd (by assumption) hr)
   all_goals ((refine kf ?_);exact ⟨xg,_,rfl,.nil⟩)
 subst hlast
 rw [List.take_length] at hord
 rw [if_pos hord]
 have hl5:=zhz hok hord
 have hst:=fun M' (hg:Grow M5 M')=>z92 (pk:=pk) (ChC.mk (hpl5.ch.grow hg).cr (hpl5.ch.grow hg).cells)
 (repeat' first|with_reducible intro _|refine sv ?_|refine sc ?_ ?_<;>(intro h;try exact sz h)|(with_reducible first|apply za|apply z8|apply z5);exact gd;exact rfl;exact rfl;exact hst _ (xg)|refine sg ?_ ?_<;>(intro h;first|exact sz h|refine sy h ?_)|exact sq|fail)
 rename_i M7 hg7 e7 n12 M8 hn12 e8 e9 M9 hu9 e10 a12
 have hg9:Grow M5 M9:=((hg6.trans hg7).new hn12).upd hu9 (by omega)
 have hk59:Keep (fun i=>i=pm ∨ i=pk) M5 M9:=hg9.to_keep _
 have hM5:M.next<=M5.next:=by omega
 have hpm5:pm < M5.next:=by omega
 have hpk5:pk < M5.next:=by omega
 have hn6:n6 < M5.next:=a6.2
 have hn6m:n6 ≠ pm:=by omega
 have hn6k:n6 ≠ pk:=by omega
 have hkn9:KnM M9 s pm:=hpl5.ch.known.at hg9.le (hg9.old _ hpm5)
 have hkc9:KcM M9 s pk:=hpl5.kc.at hg9.le (hg9.old _ hpk5)
 have d9:=a6.grow hg9
 have hn12b:M5.next<=n12:=by omega
 have hlM5:SlA 2 shtc M5 aI l:=hl.grow hg05
 have hiIlt:∀ i o,aI=some (i,o)->l ≠ []->i < M.next:=fun i o e hne=>by
  obtain ⟨i',o',e',hr'⟩:=hl.resolve_left hne
  rw [e'] at e;cases e
  exact (hr' 0 (by cases l with|nil=>exact absurd rfl hne|cons a l=>simp)).2
 have hb9:n12+1<=M9.next:=by have:=a12.2;omega
 refine zc (fun n E ms M'=>∃ (k:Nat) (out:List Bd) (x:Rch) (vo:LV),n=l.length - k /\ k<=l.length /\ ms=[] /\ Has E [(6,.ptr (some (n6,0))),(11,vo),(12,.ptr (some (n12,0))),(52,.slice aI l.length fI eI),(53,I l.length),(54,I k)] /\ Keep (fun i=>i=pm ∨ i=pk) M5 M' /\ KnM M' s pm /\ KcM M' s pk /\ n12+1<=M'.next /\
   At M' n6 (.cells true [.ptr (some (pc,0)),.map (some pk)] 109) /\ At M' n12 (.cells true (rchc x) 114) /\ Vec (n12+1) 2 26 bdc M' vo out /\ PoseOk x.1 /\ (0<=x.2 /\ x.2<=1048576) /\ out.length=k /\ timesG s (startR s) (l.map shN)=(timesG s x ((l.drop k).map shN)).map (fun r=>out ++ r)) ?_ l.length _ _ _
  ⟨0,[],startR s,_,by omega,by omega,rfl,.cons rfl (.cons rfl (.cons rfl (.cons rfl (.cons rfl (.cons rfl .nil))))),hk59,hkn9,hkc9,hb9,d9,a12,.nil,hok.start,⟨Int.le_refl 0,show (0:Int)<=1048576 by decide⟩,rfl,by simp⟩
 rintro n E ms M10 ⟨k,out,x,vo,rfl,hk,rfl,hE2,hk10,hkn10,hkc10,hle10,f6,f12,hvo,hxp,hxt,hol,htg⟩
 refine zw hE2 ?_
 have hleK:=hk10.le
 by_cases hlast:k=l.length
 ·subst hlast
  rw [List.drop_length] at htg
  have htg:timesG s (startR s) (l.map shN)=some out:=by rw [htg];show some (out ++ [])=_;rw [List.append_nil]
  rw [htg]
  obtain ⟨ao,fo,eo,hvs⟩:=hvo.shape
  (repeat' first|with_reducible intro _|refine sv ?_|refine sc ?_ ?_<;>(intro h;try exact sz h)|refine sg ?_ ?_<;>(intro h;first|exact sz h|refine sy h ?_)|exact sq|fail)
  (refine kf ?_)
  refine ⟨?_,_,rfl,hvo.imp id fun ⟨i,q1,q2,q3⟩=>⟨i,q1,q2,by omega⟩⟩
  exact ⟨by omega,fun i hi=>by rw [hk10.old i (by omega) (by omega)];exact hg05.old i hi⟩
 have hlt:k < l.length:=by omega
 have hpl10:=hpl5.keepm hk10 hkn10 hkc10
 obtain ⟨iI,oI,rfl,hrI⟩:=hlM5.resolve_left (fun h=>by rw [h] at hlt;simp at hlt)
 have hiI:=hiIlt iI oI rfl (by intro h;rw [h] at hlt;simp at hlt)
 have rI:=(hrI k hlt).keep hk10 (by omega)
 have hr:=hord.1 _ (List.getElem_mem hlt)
 have hdr:=List.drop_eq_getElem_cons hlt
 rw [hdr,List.map_cons] at htg
 generalize hx:l[k]=y at *
 obtain ⟨hsh,hc2⟩:=zp2 hr
 have htgs:timesG s x (shN y :: (l.drop (k+1)).map shN)=(match goF s x (shN y) with|none=>none|some b=>(timesG s (rchF s (shN y) b.2) ((l.drop (k+1)).map shN)).map (b :: ·)):=rfl
 rw [htgs] at htg
 have hgo:=fun M' (hg:Grow M10 M')=>zdb (x:=x) (c:=shN y) (hpl10.grow hg) hok hxp (by omega) hc2
 rw [hsh] at hgo
 have q6:=f6.2
 have q12:=f12.2
 (have hrd0:=rI;repeat' first|with_reducible intro _|refine sv ?_|refine sc ?_ ?_<;>(intro h;try exact sz h)|refine sg ?_ ?_<;>(intro h;first|exact sz h|refine sy h ?_)|exact sq|fail)
 rename_i n14 M11 hn14 e11 e12 M12 hu12 e13 a14
 have hg12:Grow M10 M12:=xg
 refine zk (by exact gd) rfl rfl (show AppOk Tryz.prog _ _ M12 _ from hgo M12 hg12) ?_
 rintro w M13 ⟨rfl,hk13,hkn13,hkc13⟩
 have hle13:=hk13.le
 have hg12le:=hg12.le
 have g6:=(f6.grow hg12).keep hk13 (by omega)
 have g12:=(f12.grow hg12).keep hk13 (by omega)
 have g14:=a14.keep hk13 (by omega)
 have hk513:Keep (fun i=>i=pm ∨ i=pk) M5 M13:=(hk10.grow hg12).trans hk13 (fun i hi=>.inl hi)
 have hvo13:Vec (n12+1) 2 26 bdc M13 vo out:=(hvo.grow hg12).imp id fun ⟨i,q1,q2,q3⟩=>⟨i,q1,q2.keep hk13 (by omega),q3⟩
 have hpm13:=hkn13.lt
 have hpk13:=hkc13.lt
 cases hgf:goF s x (shN y) with
 | none =>
  rw [hgf] at htg
  have htg:timesG s (startR s) (l.map shN)=none:=htg
  rw [htg]
  (repeat' first|with_reducible intro _|refine sv ?_|refine sc ?_ ?_<;>(intro h;try exact sz h)|refine sg ?_ ?_<;>(intro h;first|exact sz h|refine sy h ?_)|exact sq|fail)
  rename_i n15 M14 hn15 e14 e15 M15 hu15 e16 a15
  have hk515:Keep (fun i=>i=pm ∨ i=pk) M5 M15:=(hk513.new hn15).upd hu15 (.inr (by omega))
  (refine kf ?_)
  exact ⟨⟨by have:=hk515.le;omega,fun i hi=>by rw [hk515.old i (by omega) (by omega)];exact hg05.old i hi⟩,_,rfl,.nil⟩
 | some b =>
  rw [hgf] at htg
  have hgb:=z6v hok (z29 hc2) hgf
  (repeat' first|with_reducible intro _|refine sv ?_|refine sc ?_ ?_<;>(intro h;try exact sz h)|refine sg ?_ ?_<;>(intro h;first|exact sz h|refine sy h ?_)|exact sq|fail)
  rename_i n15 M14 hn15 e14 e15 M15 hu15 e16 a15 n69 M16 hn69 e17 e18
  have hvo16:Vec (n12+1) 2 26 bdc M16 vo out:=hvo13.imp id fun ⟨i,q1,q2,q3⟩=>⟨i,q1,At.new_old hn69 (At.upd_ne hu15 (by have:=q2.2;omega) (At.new_old hn15 q2)),q3⟩
  have hw16:firstL 2 1 (.slice (some (n69,0)) 1 true 2) M16=some ([b].flatMap bdc):=zn (enc:=bdc) (l:=[b]) (fun _ _=>rfl) (fun k hk=>zo (enc:=bdc) (l:=[b]) (At.new_same hn69) (fun _ _=>rfl) hk)
  refine z0q (by exact gd) (l':=[b]) hvo16 rfl rfl rfl (by simp) (by rw [List.length_singleton];omega) rfl hw16 (fun _=>rfl) (fun _=>rfl) (by omega) ?_
  intro vo17 M17 hvo17 e19 hk17
  have hle17:=hk17.le
  have hvb:∀ i o n f e,vo=.slice (some (i,o)) n f e->i < M10.next:=fun i o n f e h=>by
   rcases hvo with ⟨_,q1⟩|⟨q,q1,q2,_⟩
   ·rw [q1] at h;cases h
   ·rw [q1] at h;cases h;exact q2.2
  have hF:∀ i,(i<=n12 ∨ M10.next<=i)->¬ (n12+1<=i /\ ∃ o n f e,vo=.slice (some (i,o)) n f e):=fun i hi h=>by
   obtain ⟨h1,o,n,f,e,h2⟩:=h
   have:=hvb _ _ _ _ _ h2
   omega
  have hk517:Keep (fun i=>i=pm ∨ i=pk) M5 M17:=(((hk513.new hn15).upd hu15 (.inr (by omega))).new hn69).trans hk17 (fun i hi=>.inr (by have:=hi.1;omega))
  have haf:=fun M' (hg:Grow M17 M')=>z8y (pk:=pk) (c:=shN y) (t:=b.2) ((hpl5.chc hk517).grow hg) hok hc2
  rw [hsh] at haf
  have g6':At M17 n6 (.cells true [.ptr (some (pc,0)),.map (some pk)] 109):=At.keep hk17 (hF _ (.inl (by omega))) (xm)
  have g12':At M17 n12 (.cells true (rchc x) 114):=At.keep hk17 (hF _ (.inl (by omega))) (xm)
  have g14':At M17 n14 (.cells true [I y.1,I y.2] 50):=At.keep hk17 (hF _ (.inr (by omega))) (xm)
  have g15':At M17 n15 (.cells true [I b.1,I b.2] 26):=At.keep hk17 (hF _ (.inr (by omega))) (xm)
  have hgm:∀ i,i < M13.next->M16.get i=M13.get i:=fun i hi=>by rw [hn69.grow.old i (by omega),zl hu15 (by omega),hn15.grow.old i hi]
  have hkn17:KnM M17 s pm:=(hkn13.at (by omega) (hgm _ hpm13)).at hk17.le (hk17.old _ (by omega) (hF _ (.inl (by omega))))
  have hkc17:KcM M17 s pk:=(hkc13.at (by omega) (hgm _ hpk13)).at hk17.le (hk17.old _ (by omega) (hF _ (.inl (by omega))))
  (repeat' first|with_reducible intro _|refine sv ?_|refine sc ?_ ?_<;>(intro h;try exact sz h)|(with_reducible first|apply za|apply z8|apply z5);exact gd;exact rfl;exact rfl;exact haf _ (xg)|refine sg ?_ ?_<;>(intro h;first|exact sz h|refine sy h ?_)|exact sq|fail)
  rename_i M18 hg18 e20 M19 hu19 e21 a19
  have hk519:Keep (fun i=>i=pm ∨ i=pk) M5 M19:=(hk517.grow hg18).upd hu19 (.inr hn12b)
  have hpm17:=hkn17.lt
  have hpk17:=hkc17.lt
  have hpmn:pm ≠ n12:=by omega
  have hpkn:pk ≠ n12:=by omega
  have hn6n:n6 ≠ n12:=by omega
  refine zg (l.length - (k+1)) (by omega) ⟨k+1,out ++ [b],rchF s (shN y) b.2,vo17,rfl,by omega,rfl,.cons rfl (.cons rfl (.cons rfl (.cons rfl (.cons rfl (.cons rfl .nil))))),hk519,hkn17.at (by omega) (by rw [zl hu19 hpmn,hg18.old _ hpm17]),hkc17.at (by omega) (by rw [zl hu19 hpkn,hg18.old _ hpk17]),by omega,(g6'.grow hg18).upd_ne hu19 hn6n,a19,?_,z9a hok (z29 hc2),⟨by show 0<=b.2;omega,by show b.2<=1048576;omega⟩,by rw [List.length_append];simp;omega,?_⟩
  ·exact (hvo17.grow hg18).imp id fun ⟨i,q1,q2,q3⟩=>⟨i,q1,q2.upd_ne hu19 (by omega),q3⟩
  ·rw [htg]
   dsimp only
   cases timesG s (rchF s (shN y) b.2) ((l.drop (k+1)).map shN) with
   | none=>rfl
   | some r=>show some (out ++ b :: r)=some (out ++ [b] ++ r);rw [List.append_assoc];rfl
def swF (q:Pt × Pt) (w:Int):Pt × Pt:=if w=1 then (q.2,q.1) else q
theorem zbp {s:Cr}:∀ (l:List Nat) (x:Rch) (r:List Bd),timesG s x l=some r->r.length=l.length
 | [],x,r,h=>by cases h;rfl
 | c :: l,x,r,h=>by
  unfold timesG at h
  cases hg:goF s x c with
  | none=>rw [hg] at h;cases h
  | some b =>
   rw [hg] at h
   obtain ⟨r',h1,rfl⟩:=Option.map_eq_some_iff.1 h
   rw [List.length_cons,List.length_cons,zbp l _ _ h1]
end Go.Proofs.YtpccafeedfpbaaaGreat.C
end
