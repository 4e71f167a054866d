/-
 Part of the proof of CourseAccepted: what functions of the program and of the statement come to,walked by the rules. No condition beyond those in each theorem.
-/
import Derived.Test.YtpccafeedfpbaaaGreatUO
import Derived.Test.YtpccafeedfpbaaaGreatUN
import Derived.Test.YtpccafeedfpbaaaGreatUM
section
open Go PvL Go.Proofs
set_option linter.unusedSimpArgs false
set_option linter.unusedVariables false
namespace Go.Proofs.YtpccafeedfpbaaaGreat.C
theorem zlh {s:Cr} {t:List Int} {e:Int} (hl:t.length=2*s.lines.length*2 ^ s.lines.length) (h:pvV s t e=true) {set c:Nat} (hset:set < 2 ^ s.lines.length) (hc:c < 2*s.lines.length):okc s t e set c:=by
 intro hb
 unfold pvV at h
 rw [Bool.and_eq_true,Bool.not_eq_true',Bool.not_eq_true'] at h
 obtain ⟨h1,h2⟩:=h
 constructor
 ·cases hx:badS s t set c with
  | false=>rfl
  | true =>
   have:badA s t=true:=List.any_eq_true.2 ⟨set,List.mem_range.2 hset,List.any_eq_true.2 ⟨c,zr.2 ⟨hc,hb⟩,hx⟩⟩
   rw [this] at h1;cases h1
 ·rintro rfl hv
  rw [(zh1 hl).2 ⟨c,hc,hv⟩] at h2;cases h2
theorem ze4 {s:Cr} (hs:CrOk s) {t:List Int} (ht:TblOk s t) {e:Int} (hpv:pvV s t e=true):∀ (n:Nat) (l:List Nat) (set c:Nat) (y:Rch),l.length=n->set < 2 ^ s.lines.length->Cov s set (l ++ [c])->runE s (startR s) (l ++ [c])=some y->y=rchF s c y.2 /\ t.getD (plN s set c) 0 ≠ -1 /\ t.getD (plN s set c) 0<=y.2
 | n,l,set,c,y,hl,hset,hcov,hrun=>by
  have hn5:=hs.n5
  have hp2:2 ^ s.lines.length<=32:=Nat.pow_le_pow_right (n:=2) (by omega) hn5
  obtain ⟨h1,h2,h3⟩:=(z99 hn5 l set c (by omega)).1 hcov
  rw [z9s] at hrun
  have hrl:=z4y h2
  cases hr:runE s (startR s) l with
  | none=>rw [hr] at hrun;cases hrun
  | some z =>
   rw [hr] at hrun
   obtain ⟨b,hb,rfl⟩:=Option.map_eq_some_iff.1 hrun
   have key:∃ e ∈ earL s t set c,e<=b.2:=by
    rcases z51 l with rfl|⟨l',d,rfl⟩
    ·have hz:z=startR s:=by cases hr;rfl
     subst hz
     exact ⟨b.2,zcq.2 ⟨_,b,zcp.2 (.inl ⟨h3,rfl⟩),hb,rfl⟩,Int.le_refl _⟩
    ·obtain ⟨g1,g2,g3⟩:=ze4 hs ht hpv (n - 1) l' (restN set (c / 2)) d z (by rw [List.length_append,List.length_singleton] at hl;omega) (by omega) h3 hr
     have hd:=((z99 hn5 l' _ d (by omega)).1 h3)
     have hr0:restN set (c / 2) ≠ 0:=fun h=>by rw [h,Nat.zero_testBit] at hd;exact absurd hd.2.1 (by decide)
     rw [g1] at hb
     obtain ⟨b',k1,k2⟩:=zk0 hs (p:=endC s d) (c:=c) (by omega) g3 hb
     exact ⟨b'.2,zcq.2 ⟨_,b',zcp.2 (.inr ⟨hr0,d,hd.1,g2,rfl⟩),k1,rfl⟩,k2⟩
   obtain ⟨x,hx,hle⟩:=key
   have hnb:=(zlh ht.1 hpv hset h1 h2).1
   have hno:¬ (t.getD (plN s set c) 0=-1 ∨ x < t.getD (plN s set c) 0):=fun h=>by rw [zlw.2 ⟨x,hx,h⟩] at hnb;cases hnb
   refine ⟨rfl,fun h=>hno (.inl h),?_⟩
   show _<=b.2
   omega
termination_by n=>n
decreasing_by rw [List.length_append,List.length_singleton] at hl;omega
theorem zlg {s:Cr} (hs:CrOk s) {t:List Int} (ht:TblOk s t) {e:Int} (hpv:pvV s t e=true) {l:List Nat} {y:Rch} (h0:l ≠ []) (h1:Cov s (allN s) l) (h2:runE s (startR s) l=some y):e<=y.2:=by
 rcases z51 l with rfl|⟨l',c,rfl⟩
 ·exact absurd rfl h0
 ·obtain ⟨_,h3,h4⟩:=ze4 hs ht hpv _ l' (allN s) c y rfl (zd4 s) h1 h2
  have hc:=zc5 _ _ h1 c (by simp)
  have h5:=(zlh ht.1 hpv (zd4 s) hc (zbv (by omega))).2 rfl
  omega
theorem zj4 {s:Cr} {t:List Int} {e:Int} (h:(ProvesF s t e).1=true):CrOk s /\ (0<=endB s->e<=endB s):=by
 unfold ProvesF at h
 split at h
 ·rename_i hs
  split at h
  ·rename_i ht
   refine ⟨hs,fun hE=>?_⟩
   obtain ⟨r,y,_,h2,h3,h4⟩:=zeo hs hE
   have:=zlg hs ht (e:=e) h (l:=r) (fun h0=>by
    rw [h0] at h2
    have:allN s=0:=h2
    unfold allN at this
    have h1:=hs.n1
    have:2 ^ 1<=2 ^ s.lines.length:=Nat.pow_le_pow_right (by omega) h1
    omega) h2 h3
   omega
  ·cases h
 ·cases h
theorem zfx {s:Cr} {t:List Int} {e:Int} (h:(ProvesF s t e).1=true) {l:List (Int × Int)} (ht0:(TimesF s l).2=0) (hn:l.length=s.lines.length):∀ (hi:s.lines.length - 1 < (TimesF s l).1.length),e<=((TimesF s l).1[s.lines.length - 1]).2:=by
 unfold ProvesF at h
 split at h
 ·rename_i hs
  split at h
  ·rename_i ht
   obtain ⟨_,ho,bs,htm,he⟩:=zku ht0
   have hc:=zmm hs ho hn
   obtain ⟨hlen,y,hr,hy⟩:=(zbj s _ _).2 bs htm
   have hn1:=hs.n1
   rw [List.length_map] at hlen
   have hb:=zlg hs ht (e:=e) h (l:=l.map shN) (fun e=>by rw [List.map_eq_nil_iff] at e;rw [e] at hn;simp at hn;omega) hc hr
   rw [zk5 (show bs.length=s.lines.length by omega) (by omega)] at hy
   intro hi
   simp only [he]
   omega
  ·cases h
 ·cases h
set_option maxHeartbeats 32000000 in
theorem z5u {A:CrA} {s:Cr} {own:Bool} {at_ less e:Int} {aT:Option (Nat × Nat)} {fT:Bool} {t:List Int} {aI:Option (Nat × Nat)} {fI:Bool} {eI:Nat} {l:List (Int × Int)} {M:Mem} (hM:CrM M A s) (ht:SlA 1 intz M aT t) (htl:t.length<=1000000000000000) (hl:SlA 2 shtc M aI l) (hlen:l.length<=1000000000000000) :
  CallOk Tryz.prog 10 [crv A s,clv own at_ less aT t.length fT e,.slice aI l.length fI eI] M (fun v M'=>v=.bool true):=by
 have hct:=fun M' (hg:Grow M M')=>zjd (own:=own) (at_:=at_) (less:=less) (e:=e) (fT:=fT) (hM.grow hg) (ht.grow hg) htl
 refine z6 kq10 rfl ?_
 dsimp only [xq10,qm,qf,ql,qL,qb,qe,qc,qa,qn,qB,qC,qg,qo,qk,qK,qq,qZ,zipE,Nat.reduceAdd]
 (repeat' first|with_reducible intro _|refine sv ?_|refine sc ?_ ?_<;>(intro h;try exact sz h)|(with_reducible first|apply zk|apply zu|apply z00);exact gd;exact rfl;exact rfl;exact hct _ (xg)|refine sg ?_ ?_<;>(intro h;first|exact sz h|refine sy h ?_)|exact sq|fail)
 rename_i n3 M1 hn3 e1 e2 n4 M2 hn4 e3 e4 w M3 hq
 obtain ⟨hg3,a,tl,f,q,rfl,hA,hll,hq1⟩:=hq
 have le3:=hg3.le
 have b3:At M2 n3 (.cells true (crc A s) 35):=xm
 have b4:At M2 n4 (.cells true [.bool own,I at_,I less,.slice aT t.length fT 1,I e] 57):=xm
 have c3:=b3.grow hg3
 have c4:=b4.grow hg3
 have hp1:∀ M',Grow M M'->Grow M3 M'->CallOk Tryz.prog 25 [crv A s,.slice a tl.length f q,I e] M' (fun v M''=>v=.tup [.bool (ProvesF s tl e).1,I (ProvesF s tl e).2] /\ Grow M' M''):=fun M' hg hg3=>by
  by_cases hok:CrOk s
  ·obtain rfl:=hq1 hok
   exact (zja (hM.grow hg) (hA.grow hg3) hll).mono fun v M4 ⟨h1,h2⟩=>⟨h2,h1⟩
  ·have e0:ProvesF s tl e=(false,40):=if_neg hok
   rw [e0]
   exact (zet (hM.grow hg) hok).mono fun v M4 ⟨h1,h2⟩=>⟨h2,h1⟩
 have hz:(ProvesF s tl e).1=true->(ProvesF s tl e).2=0:=by
  unfold ProvesF
  split
  ·split
   ·exact fun _=>rfl
   ·exact fun h=>by cases h
  ·exact fun h=>by cases h
 have hab:=zj4 (s:=s) (t:=tl) (e:=e)
 have hat:=fun h=>zfx (s:=s) (t:=tl) (e:=e) h (l:=l)
 have hgs3:Grow M M3:=xg
 have hgn:∀ M',Grow M3 M'->Grow M M':=fun M' h=>hgs3.trans h
 have hbs:=fun M' (hg:Grow M3 M')=>znw (hM.grow (hgn _ hg))
 have htm:=fun M' (hg:Grow M3 M')=>zm2 (fI:=fI) (eI:=eI) (hM.grow (hgn _ hg)) (hl.grow (hgn _ hg)) hlen
 generalize ProvesF s tl e=pf at *
 obtain ⟨pb,pe⟩:=pf
 clear hct hn3 hn4 hg3 hgs3
 cases pb with
 | false =>
  (repeat' first|with_reducible intro _|refine sv ?_|refine sc ?_ ?_<;>(intro h;try exact sz h)|(with_reducible first|apply zj|apply zi|apply zd);exact gd;exact rfl;exact rfl;exact zc3 _|(with_reducible first|apply za|apply z8|apply z5);exact gd;exact rfl;exact rfl;exact hp1 _ (hgn _ (xg)) (xg)|refine sg ?_ ?_<;>(intro h;first|exact sz h|refine sy h ?_)|exact sq|fail)
  all_goals first
   |(exfalso;omega)
   |((refine kf ?_);rfl)
 | true =>
  have hz:pe=0:=hz rfl
  subst hz
  obtain ⟨hok,hbe⟩:=hab rfl
  have hat:=hat rfl
  have hn1:=hok.n1
  have hn5:=hok.n5
  (repeat' first|with_reducible intro _|refine sv ?_|refine sc ?_ ?_<;>(intro h;try exact sz h)|(with_reducible first|apply za|apply z8|apply z5);exact gd;exact rfl;exact rfl;exact hp1 _ (hgn _ (xg)) (xg)|(with_reducible first|apply zk|apply zu|apply z00);exact gd;exact rfl;exact rfl;exact hbs _ (xg)|refine sg ?_ ?_<;>(intro h;first|exact sz h|refine sy h ?_)|exact sq|fail)
  all_goals try (exfalso;omega)
  rename_i M4 hg4 e5 w M5 hq
  obtain ⟨hg5,hcase⟩:=hq
  have le5:=hg5.le
  have hgs5:Grow M3 M5:=hg4.trans hg5
  have d3:=c3.grow hgs5
  have d4:=c4.grow hgs5
  have hw:∃ (u:LV) (eb:Int) (ee:Int),w=.tup [u,I eb,I ee] /\ (ee=0->e<=eb):=by
   rcases hcase with ⟨hno,_⟩|⟨_,hE,rfl⟩|⟨_,hE,u,rfl,_⟩
   ·exact absurd hok hno
   ·exact ⟨_,_,_,rfl,fun h=>by cases h⟩
   ·exact ⟨_,_,_,rfl,fun _=>hbe hE⟩
  obtain ⟨u,eb,ee,rfl,hee⟩:=hw
  clear hcase hbs hp1 hg4 hg5
  (repeat' first|with_reducible intro _|refine sv ?_|refine sc ?_ ?_<;>(intro h;try exact sz h)|(with_reducible first|apply zk|apply zu|apply z00);exact gd;exact rfl;exact rfl;exact htm _ hgs5|refine sg ?_ ?_<;>(intro h;first|exact sz h|refine sy h ?_)|exact sq|fail)
  all_goals try (exfalso;omega)
  all_goals
   rename_i w M6 hq
   obtain ⟨hg6,sl,rfl,hsl⟩:=hq
   have le6:=hg6.le
   have f3:=d3.grow hg6
   have f4:=d4.grow hg6
   obtain ⟨ax,fx,ex,rfl,hB⟩:=zp8 hsl
   have hll:=zfr (s:=s) (l:=l)
   generalize TimesF s l=tf at *
   by_cases hfull:tf.2=0 /\ l.length=s.lines.length /\ tf.1.length=l.length
   ·obtain ⟨g1,g2,g3⟩:=hfull
    have hi:s.lines.length - 1 < tf.1.length:=by omega
    have hge:=hat g1 g2 hi
    obtain ⟨i,o,rfl,hr⟩:=hB.resolve_left (fun h=>by rw [h] at hi;simp at hi)
    have rI:Rd1 M6 i (o+((tf.1.length:Int) - 1).toNat*2+1) (I (tf.1[s.lines.length - 1]).2):=by
     have:=(hr _ hi).nth (j:=1) (v:=I (tf.1[s.lines.length - 1]).2) rfl
     rw [show ((tf.1.length:Int) - 1).toNat=s.lines.length - 1 by omega]
     exact this
    have li:=(hr _ hi).2
    generalize tf.1[s.lines.length - 1]=bl at *
    (have hrd0:=rI;repeat' first|with_reducible intro _|refine sv ?_|refine sc ?_ ?_<;>(intro h;try exact sz h)|(with_reducible first|apply zj|apply zi|apply zd);exact gd;exact rfl;exact rfl;exact zc3 _|refine sg ?_ ?_<;>(intro h;first|exact sz h|refine sy h ?_)|exact sq|fail)
    all_goals first
     |(exfalso;omega)
     |((refine kf ?_);rfl)
   ·(repeat' first|with_reducible intro _|refine sv ?_|refine sc ?_ ?_<;>(intro h;try exact sz h)|(with_reducible first|apply zj|apply zi|apply zd);exact gd;exact rfl;exact rfl;exact zc3 _|refine sg ?_ ?_<;>(intro h;first|exact sz h|refine sy h ?_)|exact sq|fail)
    all_goals first
     |(exfalso;omega)
     |((refine kf ?_);rfl)
end Go.Proofs.YtpccafeedfpbaaaGreat.C
end
