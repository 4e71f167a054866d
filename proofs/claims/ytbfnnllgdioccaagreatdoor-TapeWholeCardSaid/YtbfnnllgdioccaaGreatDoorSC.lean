/-
 Part of the proof of TapeWhole. No condition beyond those in each theorem.
-/
import Derived.Test.YtbfnnllgdioccaaGreatDoorSB
section
open Go PvL
set_option linter.unusedSimpArgs false
set_option linter.unusedVariables false
namespace Go.Proofs.YtbfnnllgdioccaaGreatDoor.C
def par(c:Nat):Nat:=(c - 1) / 2
def Heap(f lo hi:Nat)(G:Nat->Ky):Prop:=∀ c,0 < c->c < hi->lo<=par c->¬ klt (G (f+par c)) (G (f+c))
def Sift(f lo hi r:Nat)(G:Nat->Ky):Prop :=
 (∀ c,0 < c->c < hi->lo<=par c->par c ≠ r->¬ klt (G (f+par c)) (G (f+c))) /\ (∀ c,0 < c->c < hi->par c=r->r ≠ lo->lo<=par r->¬ klt (G (f+par r)) (G (f+c)))
theorem Sift.start{f lo hi:Nat}{G:Nat->Ky}(h:Heap f (lo+1) hi G):Sift f lo hi lo G :=
 ⟨fun c h1 h2 h3 h4=>h c h1 h2 (by omega),fun c _ _ _ h=>absurd rfl h⟩
theorem Sift.leaf{f lo hi r:Nat}{G:Nat->Ky}(h:Sift f lo hi r G)(hr:hi<=2*r+1):Heap f lo hi G:=fun c h1 h2 h3=>h.1 c h1 h2 h3 (by unfold par at *;omega)
theorem Sift.stop{f lo hi r x:Nat}{G:Nat->Ky}(h:Sift f lo hi r G)(hmax:∀ c,c < hi->(c=2*r+1 ∨ c=2*r+2)->¬ klt (G (f+x)) (G (f+c)))(hx:¬ klt (G (f+r)) (G (f+x))):Heap f lo hi G:=fun c h1 h2 h3=>by
 by_cases hc:par c=r
 ·rw[hc]
  have:=hmax c h2 (by unfold par at hc;omega)
  exact z80 this hx
 ·exact h.1 c h1 h2 h3 hc
theorem Sift.step{f lo hi r x:Nat}{G:Nat->Ky}(h:Sift f lo hi r G)(hlo:lo<=r)(hxc:x=2*r+1 ∨ x=2*r+2)(hxh:x < hi)(hmax:∀ c,c < hi->(c=2*r+1 ∨ c=2*r+2)->¬ klt (G (f+x)) (G (f+c)))(hx:klt (G (f+r)) (G (f+x))) :
  Sift f lo hi x (sw G (f+r) (f+x)):=by
 have hxr:x ≠ r:=by omega
 have hr':sw G (f+r) (f+x) (f+r)=G (f+x):=sw_i _ _ _
 have hx':sw G (f+r) (f+x) (f+x)=G (f+r):=sw_j _ _ _
 have hne:∀ t,t ≠ r->t ≠ x->sw G (f+r) (f+x) (f+t)=G (f+t):=fun t h1 h2=>z4i (by omega) (by omega)
 have hpx:par x=r:=by unfold par;omega
 constructor
 ·intro c h1 h2 h3 h4
  by_cases hcr:par c=r
  ·rw[hcr,hr']
   by_cases hcx:c=x
   ·subst hcx;rw[hx'];exact z81 hx
   ·rw[hne c (by unfold par at hcr;omega) hcx]
    exact hmax c h2 (by unfold par at hcr;omega)
  ·rw[hne (par c) hcr h4]
   by_cases hc:c=r
   ·subst hc
    rw[hr']
    exact h.2 x (by omega) hxh hpx (by rintro rfl;unfold par at h3;omega) h3
   ·rw[hne c hc (by rintro rfl;exact hcr hpx)]
    exact h.1 c h1 h2 h3 hcr
 ·intro c h1 h2 h3 h4 h5
  rw[hpx,hr',hne c (by rintro rfl;unfold par at h3;omega) (by rintro rfl;unfold par at h3;omega)]
  have:=h.1 c h1 h2 (by omega) (by omega)
  rw[h3] at this;exact this
theorem Heap.max{f m:Nat}{G:Nat->Ky}(h:Heap f 0 m G):∀ c,c < m->¬ klt (G (f+0)) (G (f+c)):=by
 intro c
 induction c using Nat.strongRecOn with
 | _ c ih =>
  intro hc
  rcases Nat.eq_zero_or_pos c with h0|h0
  ·subst h0;exact z1i _
  ·exact z80 (h c h0 hc (Nat.zero_le _)) (ih (par c) (by unfold par;omega) (by unfold par;omega))
theorem Heap.none{f lo hi:Nat}{G:Nat->Ky}(h:hi<=2*lo+1):Heap f lo hi G:=fun c h1 h2 h3=>by unfold par at h3;omega
def Tail(f i hi:Nat)(G:Nat->Ky):Prop:=∀ q,i<=q->q < hi->∀ p,p < q->¬ klt (G (f+q)) (G (f+p))
theorem Tail.step{f i hi:Nat}{G G':Nat->Ky}(ht:Tail f (i+1) hi G)(hi':i < hi)(hh:Heap f 0 (i+1) G)(hw:Sw (f+0) (f+i) (sw G (f+0) (f+i)) G'):Tail f i hi G':=by
 have hm:=hh.max
 have key:∀ t,t < i+1->¬ klt (G (f+0)) (sw G (f+0) (f+i) (f+t)):=fun t h=>by
  unfold sw
  split
  ·exact z1i _
  ·split
   ·exact hm i (by omega)
   ·exact hm t h
 intro q h1 h2 p hp
 have hq:G' (f+q)=sw G (f+0) (f+i) (f+q):=hw.out (by omega)
 rw[hq]
 by_cases hqi:q=i
 ·subst hqi
  rw[sw_j]
  refine hw.all (p:=fun x=>¬ klt (G (f+0)) x) (fun t h3 h4=>?_) (f+p) (by omega) (by omega)
  have:=key (t - f) (by omega)
  rwa [show f+(t - f)=t by omega] at this
 ·rw[z4i (by omega) (by omega)]
  have hall:∀ t,t < q->¬ klt (G (f+q)) (G (f+t)):=fun t h=>ht q (by omega) h2 t h
  by_cases hpi:p < i
  ·refine hw.all (p:=fun x=>¬ klt (G (f+q)) x) (fun t h3 h4=>?_) (f+p) (by omega) (by omega)
   unfold sw
   split
   ·exact hall 0 (by omega)
   ·split
    ·exact hall i (by omega)
    ·have:=hall (t - f) (by omega)
     rwa [show f+(t - f)=t by omega] at this
  ·rw[hw.out (by omega)]
   unfold sw
   split
   ·exact hall 0 (by omega)
   ·split
    ·exact hall i (by omega)
    ·exact hall p hp
theorem Heap.swapped{f i:Nat}{G:Nat->Ky}(hh:Heap f 0 (i+1) G):Heap f 1 i (sw G (f+0) (f+i)):=fun c h1 h2 h3=>by
 rw[z4i (by omega) (by unfold par;omega),z4i (by omega) (by omega)]
 exact hh c h1 (by omega) (Nat.zero_le _)
theorem Tail.srt{a b:Nat}{G:Nat->Ky}(hab:a<=b)(h:Tail a 0 (b - a) G):Srt a b G:=fun i j h1 h2 h3=>by
 have:=h (j - a) (Nat.zero_le _) (by omega) (i - a) (by omega)
 rwa [show a+(j - a)=j by omega,show a+(i - a)=i by omega] at this
end Go.Proofs.YtbfnnllgdioccaaGreatDoor.C
end
section
open Go PvL Go.Proofs
set_option linter.unusedSimpArgs false
set_option linter.unusedVariables false
namespace Go.Proofs.YtbfnnllgdioccaaGreatDoor.C
set_option maxHeartbeats 4000000 in
theorem zlj{M:Mem}{p n lo hi fs:Nat}{f:Bool}{e:Nat}{ty:TypeId}{G:Nat->Ky}(hA:KT M p n ty G)(hb:fs+hi<=n)(hn:n<=1000)(hlo:lo<=1000)(hH:Heap fs (lo+1) hi G) :
  za Tryz.prog 204 [.slice (some (p,0)) n f e,I lo,I hi,I fs,cf] M (fun w M'=>∃ G',Sw (fs+lo) (fs+hi) G G' /\ Heap fs lo hi G' /\ KT M' p n ty G' /\ Keep (fun i=>i=p) M M'):=by
 refine zd k204 rfl ?_
 dsimp only[x204,zM,zO,zI,zF,zS,zB,zL,zE,zN,zW,zC,zipE,Nat.reduceAdd]
 repeat' first|with_reducible intro _|refine sv ?_|refine sc ?_ ?_<;>(intro h;try exact sz h)|refine sg ?_ ?_<;>(intro h;first|exact sz h|refine sy h ?_)|exact sq|fail
 refine z9 (fun z E ms M'=>∃(r:Nat) (G':Nat->Ky),z=hi+2000 - r /\ lo<=r /\ (r=lo ∨ r < hi) /\ ms=[] /\ Has E [(0,.slice (some (p,0)) n f e),(2,I hi),(3,I fs),(4,cf),(10,I r)] /\ Sw (fs+lo) (fs+hi) G G' /\ Sift fs lo hi r G' /\ KT M' p n ty G' /\ Keep (fun i=>i=p) M M')
  ?_ (hi+2000 - lo) _ _ _ ⟨lo,G,rfl,Nat.le_refl _,.inl rfl,rfl,.cons rfl (.cons rfl (.cons rfl (.cons rfl (.cons rfl .nil)))),.refl,Sift.start hH,hA,Keep.refl _ _⟩
 rintro z E ms M1 ⟨r,G1,rfl,hr,hrh,rfl,hE,hw1,hs1,hA1,hk1⟩
 refine z0d hE ?_
 by_cases hleaf:hi<=2*r+1
 ·repeat' first|with_reducible intro _|refine sv ?_|refine sc ?_ ?_<;>(intro h;try exact sz h)|refine sg ?_ ?_<;>(intro h;first|exact sz h|refine sy h ?_)|exact sq|fail
  all_goals try(exfalso;omega)
  refine kf ?_
  exact⟨G1,hw1,hs1.leaf hleaf,hA1,hk1⟩
 have hrl:r < hi:=by omega
 have hR:=z0n hA1 (show fs+r < n by omega)
 have hC:=z0n hA1 (show fs+(2*r+1) < n by omega)
 have f1:((fs:Int)+(2*(r:Int)+1)).toNat=fs+(2*r+1):=by omega
 have f2:((fs:Int)+(r:Int)).toNat=fs+r:=by omega
 have f3:((fs:Int)+(2*(r:Int)+1)+1).toNat=fs+(2*r+2):=by omega
 have f4:((fs:Int)+(2*(r:Int)+1+1)).toNat=fs+(2*r+2):=by omega
 have h1:Rd M1 p (0+((fs:Int)+(2*(r:Int)+1)).toNat*2) 2 [I (G1 (fs+(2*r+1))).1,I (G1 (fs+(2*r+1))).2]:=by rw[f1];exact hC
 have h2:Rd M1 p (0+((fs:Int)+(r:Int)).toNat*2) 2 [I (G1 (fs+r)).1,I (G1 (fs+r)).2]:=by rw[f2];exact hR
 by_cases htwo:2*r+2 < hi
 ·have hD:=z0n hA1 (show fs+(2*r+2) < n by omega)
  have h3:Rd M1 p (0+((fs:Int)+(2*(r:Int)+1)+1).toNat*2) 2 [I (G1 (fs+(2*r+2))).1,I (G1 (fs+(2*r+2))).2]:=by rw[f3];exact hD
  have h4:Rd M1 p (0+((fs:Int)+(2*(r:Int)+1+1)).toNat*2) 2 [I (G1 (fs+(2*r+2))).1,I (G1 (fs+(2*r+2))).2]:=by rw[f4];exact hD
  have co:=fun M'=>z1o (G1 (fs+(2*r+1))).1 (G1 (fs+(2*r+1))).2 (G1 (fs+(2*r+2))).1 (G1 (fs+(2*r+2))).2 M'
  have co1:=fun M'=>z1o (G1 (fs+r)).1 (G1 (fs+r)).2 (G1 (fs+(2*r+1))).1 (G1 (fs+(2*r+1))).2 M'
  have co2:=fun M'=>z1o (G1 (fs+r)).1 (G1 (fs+r)).2 (G1 (fs+(2*r+2))).1 (G1 (fs+(2*r+2))).2 M'
  (have hrd0:=h1;have hrd1:=h2;have hrd2:=h3;have hrd3:=h4;repeat' (first|(with_reducible intro _)|refine sv ?_|(refine sc ?_ ?_<;>(intro h;try exact sz h))|((with_reducible first|apply z1m|apply z1p|apply d_pure0);exact gd;exact rfl;exact rfl;(first|exact co _|exact co1 _|exact co2 _))|refine sg ?_ ?_<;>(intro h;first|exact sz h|refine sy h ?_)|exact sq|fail))
  all_goals try(exfalso;omega)
  ·rename_i k1 k2 M5 g5 q5 hc1 M6 g6 q6
   have hK:KT M6 p n ty G1:=hA1.grow (g5.trans g6)
   refine kf ?_
   exact⟨G1,hw1,hs1.stop (x:=2*r+2) (fun c hc h9=>by rcases h9 with rfl|rfl;exact z81 ((z0i _ _).1 hc1);exact z1i _) (fun hh=>absurd ((z0i _ _).2 hh) (Int.not_lt.2 h)),hK,xk⟩
  ·rename_i k1 k2 M5 g5 q5 hc1 M6 g6 q6
   have hK:KT M6 p n ty G1:=hA1.grow (g5.trans g6)
   have hlt:=(z0i (G1 (fs+r)) (G1 (fs+(2*r+2)))).1 h
   refine d_st (by exact gd) rfl rfl hK rfl rfl (z0f (by omega) (G1 (fs+(2*r+2)))) ?_
   intro M7 hU7 e7 hA7
   repeat' first|with_reducible intro _|refine sv ?_|refine sc ?_ ?_<;>(intro h;try exact sz h)|refine sg ?_ ?_<;>(intro h;first|exact sz h|refine sy h ?_)|exact sq|fail
   refine d_st (by exact gd) rfl rfl hA7 rfl rfl (by rw[f4];exact z0f (by omega) (G1 (fs+r))) ?_
   intro M8 hU8 e8 hA8
   have hk8:Keep (fun i=>i=p) M M8:=xk
   repeat' first|with_reducible intro _|refine sv ?_|refine sc ?_ ?_<;>(intro h;try exact sz h)|refine sg ?_ ?_<;>(intro h;first|exact sz h|refine sy h ?_)|exact sq|fail
   refine zj (hi+2000 - (2*r+2)) (by omega) ⟨2*r+2,sw G1 (fs+r) (fs+(2*r+2)),rfl,by omega,.inr (by omega),rfl,.cons rfl (.cons rfl (.cons rfl (.cons rfl (.cons ?_ .nil)))),.step hw1 (by omega) (by omega) (by omega) (by omega),hs1.step hr (.inr rfl) (by omega) (fun c hc h9=>by rcases h9 with rfl|rfl;exact z81 ((z0i _ _).1 hc1);exact z1i _) hlt,hA8,hk8⟩
   show some (I _)=some (I _)
   rw[show((2*r+2:Nat):Int)=2*(r:Int)+1+1 by omega]
  ·rename_i k1 k2 M5 g5 q5 hc1 M6 g6 q6
   have hK:KT M6 p n ty G1:=hA1.grow (g5.trans g6)
   refine kf ?_
   exact⟨G1,hw1,hs1.stop (x:=2*r+1) (fun c hc h9=>by rcases h9 with rfl|rfl;exact z1i _;exact fun hh=>absurd ((z0i _ _).2 hh) (Int.not_lt.2 hc1)) (fun hh=>absurd ((z0i _ _).2 hh) (Int.not_lt.2 h)),hK,xk⟩
  ·rename_i k1 k2 M5 g5 q5 hc1 M6 g6 q6
   have hK:KT M6 p n ty G1:=hA1.grow (g5.trans g6)
   have hlt:=(z0i (G1 (fs+r)) (G1 (fs+(2*r+1)))).1 h
   refine d_st (by exact gd) rfl rfl hK rfl rfl (z0f (by omega) (G1 (fs+(2*r+1)))) ?_
   intro M7 hU7 e7 hA7
   repeat' first|with_reducible intro _|refine sv ?_|refine sc ?_ ?_<;>(intro h;try exact sz h)|refine sg ?_ ?_<;>(intro h;first|exact sz h|refine sy h ?_)|exact sq|fail
   refine d_st (by exact gd) rfl rfl hA7 rfl rfl (by rw[f1];exact z0f (by omega) (G1 (fs+r))) ?_
   intro M8 hU8 e8 hA8
   have hk8:Keep (fun i=>i=p) M M8:=xk
   repeat' first|with_reducible intro _|refine sv ?_|refine sc ?_ ?_<;>(intro h;try exact sz h)|refine sg ?_ ?_<;>(intro h;first|exact sz h|refine sy h ?_)|exact sq|fail
   refine zj (hi+2000 - (2*r+1)) (by omega) ⟨2*r+1,sw G1 (fs+r) (fs+(2*r+1)),rfl,by omega,.inr (by omega),rfl,.cons rfl (.cons rfl (.cons rfl (.cons rfl (.cons ?_ .nil)))),.step hw1 (by omega) (by omega) (by omega) (by omega),hs1.step hr (.inl rfl) (by omega) (fun c hc h9=>by rcases h9 with rfl|rfl;exact z1i _;exact fun hh=>absurd ((z0i _ _).2 hh) (Int.not_lt.2 hc1)) hlt,hA8,hk8⟩
   show some (I _)=some (I _)
   rw[show((2*r+1:Nat):Int)=2*(r:Int)+1 by omega]
 ·have co1:=fun M'=>z1o (G1 (fs+r)).1 (G1 (fs+r)).2 (G1 (fs+(2*r+1))).1 (G1 (fs+(2*r+1))).2 M'
  (have hrd0:=h1;have hrd1:=h2;repeat' (first|(with_reducible intro _)|refine sv ?_|(refine sc ?_ ?_<;>(intro h;try exact sz h))|((with_reducible first|apply z1m|apply z1p|apply d_pure0);exact gd;exact rfl;exact rfl;(first|exact co1 _))|refine sg ?_ ?_<;>(intro h;first|exact sz h|refine sy h ?_)|exact sq|fail))
  all_goals try(exfalso;omega)
  ·rename_i k1 k2 M5 g5 q5
   have hK:KT M5 p n ty G1:=hA1.grow g5
   refine kf ?_
   exact⟨G1,hw1,hs1.stop (x:=2*r+1) (fun c hc h9=>by rcases h9 with rfl|rfl;exact z1i _;omega) (fun hh=>absurd ((z0i _ _).2 hh) (Int.not_lt.2 h)),hK,xk⟩
  ·rename_i k1 k2 M5 g5 q5
   have hK:KT M5 p n ty G1:=hA1.grow g5
   have hlt:=(z0i (G1 (fs+r)) (G1 (fs+(2*r+1)))).1 h
   refine d_st (by exact gd) rfl rfl hK rfl rfl (z0f (by omega) (G1 (fs+(2*r+1)))) ?_
   intro M7 hU7 e7 hA7
   repeat' first|with_reducible intro _|refine sv ?_|refine sc ?_ ?_<;>(intro h;try exact sz h)|refine sg ?_ ?_<;>(intro h;first|exact sz h|refine sy h ?_)|exact sq|fail
   refine d_st (by exact gd) rfl rfl hA7 rfl rfl (by rw[f1];exact z0f (by omega) (G1 (fs+r))) ?_
   intro M8 hU8 e8 hA8
   have hk8:Keep (fun i=>i=p) M M8:=xk
   repeat' first|with_reducible intro _|refine sv ?_|refine sc ?_ ?_<;>(intro h;try exact sz h)|refine sg ?_ ?_<;>(intro h;first|exact sz h|refine sy h ?_)|exact sq|fail
   refine zj (hi+2000 - (2*r+1)) (by omega) ⟨2*r+1,sw G1 (fs+r) (fs+(2*r+1)),rfl,by omega,.inr (by omega),rfl,.cons rfl (.cons rfl (.cons rfl (.cons rfl (.cons ?_ .nil)))),.step hw1 (by omega) (by omega) (by omega) (by omega),hs1.step hr (.inl rfl) (by omega) (fun c hc h9=>by rcases h9 with rfl|rfl;exact z1i _;omega) hlt,hA8,hk8⟩
   show some (I _)=some (I _)
   rw[show((2*r+1:Nat):Int)=2*(r:Int)+1 by omega]
set_option maxHeartbeats 4000000 in
theorem zos{M:Mem}{p n a b:Nat}{f:Bool}{e:Nat}{ty:TypeId}{G:Nat->Ky}(hA:KT M p n ty G)(hb:b<=n)(hab:a < b)(hn:n<=1000) :
  za Tryz.prog 187 [.slice (some (p,0)) n f e,I a,I b,cf] M (fun w M'=>∃ G',Sw a b G G' /\ Srt a b G' /\ KT M' p n ty G' /\ Keep (fun i=>i=p) M M'):=by
 refine zd k187 rfl ?_
 dsimp only[x187,zM,zO,zI,zF,zS,zB,zL,zE,zN,zW,zC,zipE,Nat.reduceAdd]
 obtain⟨hi,rfl⟩:∃ hi,b=a+hi:=⟨b - a,by omega⟩
 repeat' first|with_reducible intro _|refine sv ?_|refine sc ?_ ?_<;>(intro h;try exact sz h)|refine sg ?_ ?_<;>(intro h;first|exact sz h|refine sy h ?_)|exact sq|fail
 have v0:(((a+hi:Nat):Int) - (a:Int))=hi:=by omega
 have v1:((((a+hi:Nat):Int) - (a:Int) - 1) / 2)=(((hi - 1) / 2+1:Nat):Int) - 1:=by omega
 refine z9 (fun z E ms M'=>∃(G':Nat->Ky),z<=(hi - 1) / 2+1 /\ ms=[] /\ Has E [(0,.slice (some (p,0)) n f e),(3,cf),(8,I a),(9,I 0),(10,I hi),(11,I ((z:Int) - 1))] /\ Sw a (a+hi) G G' /\ Heap a z hi G' /\ KT M' p n ty G' /\ Keep (fun i=>i=p) M M')
  ?_ ((hi - 1) / 2+1) _ _ _ ⟨G,Nat.le_refl _,rfl,.cons rfl (.cons rfl (.cons rfl (.cons rfl (.cons (by show some (I _)=some (I _);rw[v0]) (.cons (by show some (I _)=some (I _);rw[v1]) .nil))))),.refl,Heap.none (by omega),hA,Keep.refl _ _⟩
 rintro z E ms M1 ⟨G1,hz,rfl,hE,hw1,hh1,hA1,hk1⟩
 refine z0d hE ?_
 rcases z with _|i
 case succ =>
  rw[show(((i+1:Nat):Int) - 1)=(i:Int) by omega]
  have cs:=fun M' (hh:KT M' p n ty G1)=>zlj (f:=f) (e:=e) (lo:=i) (hi:=hi) (fs:=a) hh hb hn (by omega) hh1
  repeat' first|with_reducible intro _|refine sv ?_|refine sc ?_ ?_<;>(intro h;try exact sz h)|((with_reducible first|apply zq|apply z0b|apply x_call0);exact gd;exact rfl;exact rfl;(first|exact cs _ (xm)))|refine sg ?_ ?_<;>(intro h;first|exact sz h|refine sy h ?_)|exact sq|fail
  all_goals try(exfalso;omega)
  rename_i w2 M2 hq
  obtain⟨G2,hw2,hh2,hA2,hk2⟩:=hq
  repeat' first|with_reducible intro _|refine sv ?_|refine sc ?_ ?_<;>(intro h;try exact sz h)|refine sg ?_ ?_<;>(intro h;first|exact sz h|refine sy h ?_)|exact sq|fail
  exact zj i (by omega) ⟨G2,by omega,rfl,.cons rfl (.cons rfl (.cons rfl (.cons rfl (.cons rfl (.cons rfl .nil))))),hw1.trans (hw2.wider (by omega) (Nat.le_refl _)),hh2,hA2,hk1.trans hk2 (fun i hi=>.inl hi)⟩
 case zero =>
 repeat' first|with_reducible intro _|refine sv ?_|refine sc ?_ ?_<;>(intro h;try exact sz h)|refine sg ?_ ?_<;>(intro h;first|exact sz h|refine sy h ?_)|exact sq|fail
 all_goals try(exfalso;omega)
 refine z9 (fun z E ms M'=>∃(G':Nat->Ky),z<=hi /\ ms=[] /\ Has E [(0,.slice (some (p,0)) n f e),(3,cf),(8,I a),(9,I 0),(12,I ((z:Int) - 1))] /\ Sw a (a+hi) G G' /\ Heap a 0 z G' /\ Tail a z hi G' /\ KT M' p n ty G' /\ Keep (fun i=>i=p) M M')
  ?_ hi _ _ _ ⟨G1,Nat.le_refl _,rfl,.cons rfl (.cons rfl (.cons rfl (.cons rfl (.cons rfl .nil)))),hw1,hh1,fun q h1 h2=>by omega,hA1,hk1⟩
 rintro z E ms M3 ⟨G3,hz3,rfl,hE,hw3,hh3,ht3,hA3,hk3⟩
 refine z0d hE ?_
 rcases z with _|i
 case zero =>
  repeat' first|with_reducible intro _|refine sv ?_|refine sc ?_ ?_<;>(intro h;try exact sz h)|refine sg ?_ ?_<;>(intro h;first|exact sz h|refine sy h ?_)|exact sq|fail
  all_goals try(exfalso;omega)
  refine kf ?_
  refine⟨G3,hw3,Tail.srt (by omega) ?_,hA3,hk3⟩
  rwa [show a+hi - a=hi by omega]
 case succ =>
  rw[show(((i+1:Nat):Int) - 1)=(i:Int) by omega]
  have hr1:=z0n hA3 (show a+i < n by omega)
  have hr2:=z0n hA3 (show a < n by omega)
  (have hrd0:=hr1;have hrd1:=hr2;repeat' (first|(with_reducible intro _)|refine sv ?_|(refine sc ?_ ?_<;>(intro h;try exact sz h))|refine sg ?_ ?_<;>(intro h;first|exact sz h|refine sy h ?_)|exact sq|fail))
  all_goals try(exfalso;omega)
  have hK:=hA3
  refine d_st (by exact gd) rfl rfl hK rfl rfl (z0f (by omega) (G3 (a+i))) ?_
  intro M7 hU7 e7 hA7
  repeat' first|with_reducible intro _|refine sv ?_|refine sc ?_ ?_<;>(intro h;try exact sz h)|refine sg ?_ ?_<;>(intro h;first|exact sz h|refine sy h ?_)|exact sq|fail
  refine d_st (by exact gd) rfl rfl hA7 rfl rfl (z0f (by omega) (G3 a)) ?_
  intro M8 hU8 e8 hA8
  have hk8:Keep (fun i=>i=p) M M8:=xk
  have hA8:KT M8 p n ty (sw G3 (a+0) (a+i)):=hA8
  have hsw:=hh3.swapped
  have cs:=fun M' (hh:KT M' p n ty (sw G3 (a+0) (a+i)))=>zlj (f:=f) (e:=e) (lo:=0) (hi:=i) (fs:=a) hh (by omega) hn (by omega) hsw
  repeat' first|with_reducible intro _|refine sv ?_|refine sc ?_ ?_<;>(intro h;try exact sz h)|((with_reducible first|apply zq|apply z0b|apply x_call0);exact gd;exact rfl;exact rfl;(first|exact cs _ (by exact hA8)))|refine sg ?_ ?_<;>(intro h;first|exact sz h|refine sy h ?_)|exact sq|fail
  rename_i w2 M9 hq
  obtain⟨G9,hw9,hh9,hA9,hk9⟩:=hq
  repeat' first|with_reducible intro _|refine sv ?_|refine sc ?_ ?_<;>(intro h;try exact sz h)|refine sg ?_ ?_<;>(intro h;first|exact sz h|refine sy h ?_)|exact sq|fail
  exact zj i (by omega) ⟨G9,by omega,rfl,.cons rfl (.cons rfl (.cons rfl (.cons rfl (.cons rfl .nil)))),(Sw.step hw3 (i:=a+0) (j:=a+i) (by omega) (by omega) (by omega) (by omega)).trans (hw9.wider (by omega) (by omega)),hh9,Tail.step ht3 (by omega) hh3 hw9,hA9,hk8.trans hk9 (fun i hi=>.inl hi)⟩
theorem zl8{E:Env}{M:Mem}{x y:XO}{s:ByteArray}{k:Nat}{q:IntKind}(hx:xval E x=some (.str s))(hy:xval E y=some (.int q (k:Int)))(h:k < s.size):ze Tryz.prog (.idxS x y) E M=some (.val (.int .u8 (byteAt s k:Int)) M):=by
 have h1:=ziz (P:=Tryz.prog) (E:=[(0,.str s),(1,I k)]) (M:=M) (x:=.t 0) (y:=.t 1) rfl rfl h
 have h2:ze Tryz.prog (.idxS (.t 0) (.t 1)) [(0,.str s),(1,I k)] M=ze Tryz.prog (.idxS (.t 0) (.t 1)) [(0,.str s),(1,.int q (k:Int))] M:=rfl
 rw[h2] at h1
 show ob (xval E x) _=_
 rw[hx,z0,hy]
 exact h1
set_option maxRecDepth 100000 in
def len8:ByteArray:=⟨#[0,1,2,2,3,3,3,3,4,4,4,4,4,4,4,4,5,5,5,5,5,5,5,5,5,5,5,5,5,5,5,5,6,6,6,6,6,6,6,6,6,6,6,6,6,6,6,6,6,6,6,6,6,6,6,6,6,6,6,6,6,6,6,6,7,7,7,7,7,7,7,7,7,7,7,7,7,7,7,7,7,7,7,7,7,7,7,7,7,7,7,7,7,7,7,7,7,7,7,7,7,7,7,7,7,7,7,7,7,7,7,7,7,7,7,7,7,7,7,7,7,7,7,7,7,7,7,7,8,8,8,8,8,8,8,8,8,8,8,8,8,8,8,8,8,8,8,8,8,8,8,8,8,8,8,8,8,8,8,8,8,8,8,8,8,8,8,8,8,8,8,8,8,8,8,8,8,8,8,8,8,8,8,8,8,8,8,8,8,8,8,8,8,8,8,8,8,8,8,8,8,8,8,8,8,8,8,8,8,8,8,8,8,8,8,8,8,8,8,8,8,8,8,8,8,8,8,8,8,8,8,8,8,8,8,8,8,8,8,8,8,8,8,8,8,8,8,8,8,8,8,8,8,8,8,8]⟩
set_option maxRecDepth 100000 in
theorem zn4:(List.range 256).all (fun n=>Nat.ble (byteAt len8 n) 8 && (Nat.ble n 0 ||(Nat.ble (n+1) (2 ^ byteAt len8 n) && Nat.ble (2 ^ byteAt len8 n) (2*n))))=true:=by decide +kernel
set_option maxRecDepth 100000 in
set_option maxHeartbeats 4000000 in
theorem zml{M:Mem}{n:Nat}(hn:n < 256):za Tryz.prog 195 [.int .u64 (n:Int)] M (fun w M'=>∃ k:Nat,w=I k /\ k<=8 /\ (1<=n->n < 2 ^ k /\ 2 ^ k<=2*n) /\ M'=M):=by
 refine zd k195 rfl ?_
 dsimp only[x195,zM,zO,zI,zF,zS,zB,zL,zE,zN,zW,zC,zipE,Nat.reduceAdd]
 repeat' first|with_reducible intro _|refine sv ?_|refine sc ?_ ?_<;>(intro h;try exact sz h)|refine sg ?_ ?_<;>(intro h;first|exact sz h|refine sy h ?_)|exact sq|fail
 all_goals try(exfalso;omega)
 have h8:=List.all_eq_true.1 zn4 n (List.mem_range.2 hn)
 simp only[Bool.and_eq_true,Bool.or_eq_true,Nat.ble_eq] at h8
 refine z3m (by exact gd) (zl8 (s:=len8) (k:=n) rfl rfl (show n < 256 from hn)) ?_
 generalize hb:byteAt len8 n=k at *
 repeat' first|with_reducible intro _|refine sv ?_|refine sc ?_ ?_<;>(intro h;try exact sz h)|refine sg ?_ ?_<;>(intro h;first|exact sz h|refine sy h ?_)|exact sq|fail
 refine kf ?_
 exact⟨k,by show I (0+(k:Int))=_;rw[Int.zero_add],h8.1,fun h1=>by rcases h8.2 with h2|h2;omega;exact⟨h2.1,h2.2⟩,rfl⟩
theorem wrap64(z:Int):0<=IntKind.wrap .u64 z /\ IntKind.wrap .u64 z < 18446744073709551616:=by
 unfold IntKind.wrap
 simp only[IntKind.signed,IntKind.bits,Bool.false_and,Bool.false_eq_true,if_false]
 omega
theorem z38{z:Int}(h:0<=z /\ z < 18446744073709551616):IntKind.wrap .u64 z=z:=by
 unfold IntKind.wrap
 simp only[IntKind.signed,IntKind.bits,Bool.false_and,Bool.false_eq_true,if_false]
 omega
section
variable {E:Env} {M:Mem} {x y:XO} {a b:Int}
theorem zf0(hx:xval E x=some (.int .u64 a))(hy:xval E y=some (.int .u64 b))(hb:0<=b):∃ r,ze Tryz.prog (.bin .shl x y) E M=some (.val (.int .u64 r) M) /\ 0<=r /\ r < 18446744073709551616:=by
 obtain⟨n,rfl⟩:=Int.eq_ofNat_of_zero_le hb
 refine⟨IntKind.wrap .u64 (a*((2 ^ (Nat.min n 64):Nat):Int)),?_,wrap64 _⟩
 show ob (xval E x) _=_
 rw[hx,z0,hy,z0]
 show ob (fI (IntKind.wrap .u64 (a*((2 ^ (Nat.min n 64):Nat):Int))) fun z=>some (LV.int .u64 z)) _=_
 rw[zda];rfl
theorem zlc(hx:xval E x=some (.int .u64 a))(hy:xval E y=some (.int .u64 b))(hb:0<=b)(ha:0<=a /\ a < 18446744073709551616):∃ r,ze Tryz.prog (.bin .shr x y) E M=some (.val (.int .u64 r) M) /\ 0<=r /\ r < 18446744073709551616:=by
 obtain⟨n,rfl⟩:=Int.eq_ofNat_of_zero_le hb
 have hp:(0:Int) <((2 ^ (Nat.min n 64):Nat):Int):=by
  have:=Nat.two_pow_pos (Nat.min n 64)
  omega
 refine⟨a.fdiv ((2 ^ (Nat.min n 64):Nat):Int),?_,Int.fdiv_nonneg ha.1 (Int.le_of_lt hp),?_⟩
 ·show ob (xval E x) _=_
  rw[hx,z0,hy,z0]
  show ob (fI (a.fdiv ((2 ^ (Nat.min n 64):Nat):Int)) fun z=>some (LV.int .u64 z)) _=_
  rw[zda];rfl
 ·rw[Int.fdiv_eq_ediv_of_nonneg _ (Int.le_of_lt hp)]
  exact Int.lt_of_le_of_lt (Int.ediv_le_self _ ha.1) ha.2
theorem zb6(hx:xval E x=some (.int .u64 a))(hy:xval E y=some (.int .u64 b)):∃ r,ze Tryz.prog (.bin .xor x y) E M=some (.val (.int .u64 r) M) /\ 0<=r /\ r < 18446744073709551616:=by
 refine⟨IntKind.wrap .u64 ((BitVec.ofInt 64 a ^^^ BitVec.ofInt 64 b).toNat),?_,wrap64 _⟩
 show ob (xval E x) _=_
 rw[hx,z0,hy,z0]
 show ob (fI (IntKind.wrap .u64 ((BitVec.ofInt 64 a ^^^ BitVec.ofInt 64 b).toNat)) fun z=>some (LV.int .u64 z)) _=_
 rw[zda];rfl
theorem zl4(hx:xval E x=some (.int .u64 a))(hy:xval E y=some (.int .u64 b))(hb:0<=b /\ b < 18446744073709551616):∃ r:Nat,ze Tryz.prog (.bin .and x y) E M=some (.val (.int .u64 (r:Int)) M) /\ (r:Int)<=b:=by
 obtain⟨n,rfl⟩:=Int.eq_ofNat_of_zero_le hb.1
 have hn:n < 2 ^ 64:=by have:=hb.2;omega
 have h1:(BitVec.ofInt 64 a &&& BitVec.ofInt 64 (n:Int)).toNat<=n:=by
  rw[BitVec.toNat_and]
  refine Nat.le_trans Nat.and_le_right ?_
  rw[BitVec.toNat_ofInt]
  omega
 refine⟨(BitVec.ofInt 64 a &&& BitVec.ofInt 64 (n:Int)).toNat,?_,by omega⟩
 show ob (xval E x) _=_
 rw[hx,z0,hy,z0]
 show ob (fI (IntKind.wrap .u64 ((BitVec.ofInt 64 a &&& BitVec.ofInt 64 (n:Int)).toNat)) fun z=>some (LV.int .u64 z)) _=_
 rw[zda,z38 (by omega)];rfl
theorem zlb{k:Nat}(hx:xval E x=some (.int .u64 1))(hy:xval E y=some (I (k:Int)))(hk:k<=8):ze Tryz.prog (.bin .shl x y) E M=some (.val (.int .u64 ((2 ^ k:Nat):Int)) M):=by
 show ob (xval E x) _=_
 rw[hx,z0,hy,z0]
 show ob (fI (IntKind.wrap .u64 (1*((2 ^ (Nat.min k 64):Nat):Int))) fun z=>some (LV.int .u64 z)) _=_
 have hm:Nat.min k 64=k:=Nat.min_eq_left (by omega)
 have h2:2 ^ k<=256:=Nat.pow_le_pow_right (n:=2) (by decide) hk
 rw[hm,Int.one_mul]
 generalize 2 ^ k=m at *
 rw[z38 (by omega),zda];rfl
end
theorem zom{M:Mem}{n:Nat}(hn:n < 256):za Tryz.prog 169 [.int .u64 (n:Int)] M (fun w M'=>∃ k:Nat,w=I k /\ k<=8 /\ (1<=n->n < 2 ^ k /\ 2 ^ k<=2*n) /\ M'=M):=by
 refine zd k169 rfl ?_
 dsimp only[x169,zM,zO,zI,zF,zS,zB,zL,zE,zN,zW,zC,zipE,Nat.reduceAdd]
 repeat' first|with_reducible intro _|refine sv ?_|refine sc ?_ ?_<;>(intro h;try exact sz h)|((with_reducible first|apply zq|apply z0b|apply x_call0);exact gd;exact rfl;exact rfl;(first|exact zml hn))|refine sg ?_ ?_<;>(intro h;first|exact sz h|refine sy h ?_)|exact sq|fail
 rename_i hh
 obtain⟨k,rfl,hk,h1,rfl⟩:=hh
 repeat' first|with_reducible intro _|refine sv ?_|refine sc ?_ ?_<;>(intro h;try exact sz h)|refine sg ?_ ?_<;>(intro h;first|exact sz h|refine sy h ?_)|exact sq|fail
 refine kf ?_
 exact⟨k,rfl,hk,h1,rfl⟩
theorem zgp{M:Mem}{n:Nat}(hn:n < 256)(h1:1<=n):za Tryz.prog 205 [I n] M (fun w M'=>∃ m:Nat,w=.int .u64 (m:Int) /\ 1<=m /\ m<=2*n /\ M'=M):=by
 refine zd k205 rfl ?_
 dsimp only[x205,zM,zO,zI,zF,zS,zB,zL,zE,zN,zC,zipE,Nat.reduceAdd]
 have cl:=zom (M:=M) hn
 repeat' first|with_reducible intro _|refine sv ?_|refine sc ?_ ?_<;>(intro h;try exact sz h)|refine sg ?_ ?_<;>(intro h;first|exact sz h|refine sy h ?_)|exact sq|fail
 rw[z38 (by omega)]
 repeat' first|with_reducible intro _|refine sv ?_|refine sc ?_ ?_<;>(intro h;try exact sz h)|((with_reducible first|apply zq|apply z0b|apply x_call0);exact gd;exact rfl;exact rfl;(first|exact cl))|refine sg ?_ ?_<;>(intro h;first|exact sz h|refine sy h ?_)|exact sq|fail
 rename_i hh
 obtain⟨k,rfl,hk,h2,rfl⟩:=hh
 refine z3m (by exact gd) (zlb rfl rfl hk) ?_
 have h3:=(h2 h1).2
 have h4:1<=2 ^ k:=Nat.one_le_two_pow
 repeat' first|with_reducible intro _|refine sv ?_|refine sc ?_ ?_<;>(intro h;try exact sz h)|refine sg ?_ ?_<;>(intro h;first|exact sz h|refine sy h ?_)|exact sq|fail
 refine kf ?_
 exact⟨2 ^ k,rfl,h4,h3,rfl⟩
theorem zon{M:Mem}{q:Nat}{ty:TypeId}{c:Int}(hq:At M q (.cells true [.int .u64 c] ty))(hc:0<=c /\ c < 18446744073709551616):za Tryz.prog 206 [.ptr (some (q,0))] M (fun w M'=>∃ c',w=.int .u64 c' /\ 0<=c' /\ c' < 18446744073709551616 /\ At M' q (.cells true [.int .u64 c'] ty) /\ Keep (fun i=>i=q) M M'):=by
 refine zd k206 rfl ?_
 dsimp only[x206,zM,zO,zI,zF,zS,zB,zL,zE,zN,zC,zipE,Nat.reduceAdd]
 repeat' first|with_reducible intro _|refine sv ?_|refine sc ?_ ?_<;>(intro h;try exact sz h)|refine sg ?_ ?_<;>(intro h;first|exact sz h|refine sy h ?_)|exact sq|fail
 obtain⟨r1,sr1,br1⟩:=zf0 (E:=[(8,.int .u64 c),(1000,.int .u64 13)]) (M:=M) (x:=.t 8) (y:=.t 1000) (a:=c) (b:=13) rfl rfl (by omega)
 refine zbq (by exact gd) (v:=.int .u64 r1) (by exact sr1) ?_
 obtain⟨r2,sr2,br2⟩:=zb6 (E:=[(5,.int .u64 c),(9,.int .u64 r1)]) (M:=M) (x:=.t 5) (y:=.t 9) (a:=c) (b:=r1) rfl rfl
 refine zbq (by exact gd) (v:=.int .u64 r2) (by exact sr2) ?_
 repeat' first|with_reducible intro _|refine sv ?_|refine sc ?_ ?_<;>(intro h;try exact sz h)|refine sg ?_ ?_<;>(intro h;first|exact sz h|refine sy h ?_)|exact sq|fail
 rename_i M1 hU1 e1 hA1
 obtain⟨r3,sr3,br3⟩:=zlc (E:=[(17,.int .u64 r2),(1000,.int .u64 7)]) (M:=M1) (x:=.t 17) (y:=.t 1000) (a:=r2) (b:=7) rfl rfl (by omega) (by omega)
 refine zbq (by exact gd) (v:=.int .u64 r3) (by exact sr3) ?_
 obtain⟨r4,sr4,br4⟩:=zb6 (E:=[(14,.int .u64 r2),(18,.int .u64 r3)]) (M:=M1) (x:=.t 14) (y:=.t 18) (a:=r2) (b:=r3) rfl rfl
 refine zbq (by exact gd) (v:=.int .u64 r4) (by exact sr4) ?_
 repeat' first|with_reducible intro _|refine sv ?_|refine sc ?_ ?_<;>(intro h;try exact sz h)|refine sg ?_ ?_<;>(intro h;first|exact sz h|refine sy h ?_)|exact sq|fail
 rename_i M2 hU2 e2 hA2
 obtain⟨r5,sr5,br5⟩:=zf0 (E:=[(26,.int .u64 r4),(1000,.int .u64 17)]) (M:=M2) (x:=.t 26) (y:=.t 1000) (a:=r4) (b:=17) rfl rfl (by omega)
 refine zbq (by exact gd) (v:=.int .u64 r5) (by exact sr5) ?_
 obtain⟨r6,sr6,br6⟩:=zb6 (E:=[(23,.int .u64 r4),(27,.int .u64 r5)]) (M:=M2) (x:=.t 23) (y:=.t 27) (a:=r4) (b:=r5) rfl rfl
 refine zbq (by exact gd) (v:=.int .u64 r6) (by exact sr6) ?_
 repeat' first|with_reducible intro _|refine sv ?_|refine sc ?_ ?_<;>(intro h;try exact sz h)|refine sg ?_ ?_<;>(intro h;first|exact sz h|refine sy h ?_)|exact sq|fail
 rename_i M3 hU3 e3 hA3
 have hk3:Keep (fun i=>i=q) M M3:=xk
 refine kf ?_
 exact⟨r6,rfl,br6.1,br6.2,hA3,hk3⟩
set_option maxHeartbeats 4000000 in
theorem zgr{M:Mem}{p n a b:Nat}{f:Bool}{e:Nat}{ty:TypeId}{G:Nat->Ky}(hA:KT M p n ty G)(hb:b<=n)(hab:a < b)(hn:n<=1000) :
  za Tryz.prog 190 [.slice (some (p,0)) n f e,I a,I b,cf] M (fun w M'=>∃ G',Sw a b G G' /\ KT M' p n ty G' /\ Keep (fun i=>i=p) M M'):=by
 refine zd k190 rfl ?_
 dsimp only[x190,zM,zO,zI,zF,zS,zB,zL,zE,zN,zW,zC,zipE,Nat.reduceAdd]
 repeat' first|with_reducible intro _|refine sv ?_|refine sc ?_ ?_<;>(intro h;try exact sz h)|refine sg ?_ ?_<;>(intro h;first|exact sz h|refine sy h ?_)|exact sq|fail
 refine z9 (fun z E ms M'=>∃(i j:Nat) (G':Nat->Ky),z=b - i /\ a<=i /\ i<=b /\ j < b /\ a<=j+1 /\ ms=[] /\ Has E [(0,.slice (some (p,0)) n f e),(8,I i),(9,I j)] /\ Sw a b G G' /\ KT M' p n ty G' /\ Keep (fun i=>i=p) M M')
  ?_ (b - a) _ _ _ ⟨a,b - 1,G,rfl,by omega,by omega,by omega,by omega,rfl,.cons rfl (.cons rfl (.cons (by show some (I _)=some (I _);rw[show(b:Int) - 1=((b - 1:Nat):Int) by omega]) .nil)),.refl,hA,Keep.refl _ _⟩
 rintro z E ms M1 ⟨i,j,G1,rfl,hi1,hi2,hj1,hj2,rfl,hE,hw1,hA1,hk1⟩
 refine z0d hE ?_
 by_cases hlt:i < j
 case neg =>
  repeat' first|with_reducible intro _|refine sv ?_|refine sc ?_ ?_<;>(intro h;try exact sz h)|refine sg ?_ ?_<;>(intro h;first|exact sz h|refine sy h ?_)|exact sq|fail
  all_goals try(exfalso;omega)
  refine kf ?_
  exact⟨G1,hw1,hA1,hk1⟩
 have hr1:=z0n hA1 (show i < n by omega)
 have hr2:=z0n hA1 (show j < n by omega)
 (have hrd0:=hr1;have hrd1:=hr2;repeat' (first|(with_reducible intro _)|refine sv ?_|(refine sc ?_ ?_<;>(intro h;try exact sz h))|refine sg ?_ ?_<;>(intro h;first|exact sz h|refine sy h ?_)|exact sq|fail))
 all_goals try(exfalso;omega)
 have hK:=hA1
 refine d_st (by exact gd) rfl rfl hK rfl rfl (z0f (by omega) (G1 j)) ?_
 intro M7 hU7 e7 hA7
 repeat' first|with_reducible intro _|refine sv ?_|refine sc ?_ ?_<;>(intro h;try exact sz h)|refine sg ?_ ?_<;>(intro h;first|exact sz h|refine sy h ?_)|exact sq|fail
 refine d_st (by exact gd) rfl rfl hA7 rfl rfl (z0f (by omega) (G1 i)) ?_
 intro M8 hU8 e8 hA8
 have hk8:Keep (fun i=>i=p) M M8:=xk
 repeat' first|with_reducible intro _|refine sv ?_|refine sc ?_ ?_<;>(intro h;try exact sz h)|refine sg ?_ ?_<;>(intro h;first|exact sz h|refine sy h ?_)|exact sq|fail
 refine zj (b - (i+1)) (by omega) ⟨i+1,j - 1,sw G1 i j,rfl,by omega,by omega,by omega,by omega,rfl,.cons rfl (.cons rfl (.cons ?_ .nil)),.step hw1 (by omega) (by omega) (by omega) (by omega),hA8,hk8⟩
 show some (I _)=some (I _)
 rw[show((j - 1:Nat):Int)=(j:Int) - 1 by omega]
set_option maxHeartbeats 8000000 in
theorem zmm{M:Mem}{p n a b:Nat}{f:Bool}{e:Nat}{ty:TypeId}{G:Nat->Ky}(hA:KT M p n ty G)(hb:b<=n)(hab:a+8<=b)(hn:n < 250) :
  za Tryz.prog 188 [.slice (some (p,0)) n f e,I a,I b,cf] M (fun w M'=>∃ G',Sw a b G G' /\ KT M' p n ty G' /\ Keep (fun i=>i=p) M M'):=by
 refine zd k188 rfl ?_
 dsimp only[x188,zM,zO,zI,zF,zS,zB,zL,zE,zN,zW,zC,zipE,Nat.reduceAdd]
 obtain⟨l,rfl⟩:∃ l,b=a+l:=⟨b - a,by omega⟩
 have v0:((a+l:Nat):Int) - (a:Int)=l:=by omega
 repeat' first|with_reducible intro _|refine sv ?_|refine sc ?_ ?_<;>(intro h;try exact sz h)|refine sg ?_ ?_<;>(intro h;first|exact sz h|refine sy h ?_)|exact sq|fail
 all_goals try(exfalso;omega)
 rename_i q M1 hN1 e1 e2 M2 hU2 e3 hA2
 rw[v0] at *
 have hq2:At M2 q (.cells true [.int .u64 (l:Int)] 263):=by rw[z38 (by omega)] at hA2;exact hA2
 have hqn:M.next<=q:=by omega
 have hK2:KT M2 p n ty G:=At.upd_ne hU2 (by have:=hA.2;omega) (At.grow hN1.grow hA)
 have hk2:Keep (fun i=>i=p) M M2:=xk
 have hle2:M.next<=M2.next:=by omega
 clear hN1 hU2 hA2 e1 e2 e3
 repeat' first|with_reducible intro _|refine sv ?_|refine sc ?_ ?_<;>(intro h;try exact sz h)|((with_reducible first|apply zq|apply z0b|apply x_call0);exact gd;exact rfl;exact rfl;(first|exact zgp (n:=l) (by omega) (by omega)))|refine sg ?_ ?_<;>(intro h;first|exact sz h|refine sy h ?_)|exact sq|fail
 rename_i hh
 obtain⟨m,rfl,hm1,hm2,rfl⟩:=hh
 repeat' first|with_reducible intro _|refine sv ?_|refine sc ?_ ?_<;>(intro h;try exact sz h)|refine sg ?_ ?_<;>(intro h;first|exact sz h|refine sy h ?_)|exact sq|fail
 refine z9 (fun z E ms M'=>∃(i:Nat) (G':Nat->Ky) (c:Int),z=a+l / 4*2+2 - i /\ a+l / 4*2<=i+1 /\ i<=a+l / 4*2+2 /\ ms=[] /\ Has E [(0,.slice (some (p,0)) n f e),(1,I a),(8,I l),(9,.ptr (some (q,0))),(10,.int .u64 (m:Int)),(11,I i)] /\ Sw a (a+l) G G' /\ KT M' p n ty G' /\ At M' q (.cells true [.int .u64 c] 263) /\ 0<=c /\ c < 18446744073709551616 /\ Keep (fun i=>i=p) M M')
  ?_ 3 _ _ _ ⟨a+l / 4*2 - 1,G,l,by omega,by omega,by omega,rfl,.cons rfl (.cons rfl (.cons rfl (.cons rfl (.cons rfl (.cons (by show some (I _)=some (I _);rw[show(a:Int)+(l:Int) / 4*2 - 1=((a+l / 4*2 - 1:Nat):Int) by omega]) .nil))))),.refl,hK2,hq2,by omega,by omega,hk2⟩
 rintro z E ms M3 ⟨i,G3,c3,rfl,hi1,hi2,rfl,hE,hw3,hK3,hq3,hc3,hc3',hk3⟩
 refine z0d hE ?_
 by_cases hlast:i=a+l / 4*2+2
 ·subst hlast
  repeat' first|with_reducible intro _|refine sv ?_|refine sc ?_ ?_<;>(intro h;try exact sz h)|refine sg ?_ ?_<;>(intro h;first|exact sz h|refine sy h ?_)|exact sq|fail
  all_goals try(exfalso;omega)
  refine kf ?_
  exact⟨G3,hw3,hK3,hk3⟩
 repeat' first|with_reducible intro _|refine sv ?_|refine sc ?_ ?_<;>(intro h;try exact sz h)|((with_reducible first|apply zq|apply z0b|apply x_call0);exact gd;exact rfl;exact rfl;(first|exact zon hq3 ⟨hc3,hc3'⟩))|refine sg ?_ ?_<;>(intro h;first|exact sz h|refine sy h ?_)|exact sq|fail
 all_goals try(exfalso;omega)
 rename_i w4 M4 hh
 obtain⟨c4,rfl,hc4,hc4',hq4,hk4⟩:=hh
 have hpq:p ≠ q:=by have:=hA.2;omega
 have hK4:KT M4 p n ty G3:=hK3.keep hk4 hpq
 have hkk4:Keep (fun i=>i=p) M M4:=hk3.trans hk4 (fun i hi=>.inr (by omega))
 clear hk4
 repeat' first|with_reducible intro _|refine sv ?_|refine sc ?_ ?_<;>(intro h;try exact sz h)|refine sg ?_ ?_<;>(intro h;first|exact sz h|refine sy h ?_)|exact sq|fail
 rw[z38 (by omega)]
 obtain⟨r,sr,br⟩:=zl4 (E:=[(38,.int .u64 c4),(40,.int .u64 ((m:Int) - 1))]) (M:=M4) (x:=.t 38) (y:=.t 40) (a:=c4) (b:=(m:Int) - 1) rfl rfl (by omega)
 refine z3m (by exact gd) (v:=.int .u64 (r:Int)) (by exact sr) ?_
 have hr1:=z0n hK4 (show i < n by omega)
 by_cases hrl:r < l
 ·have hr2:=z0n hK4 (show a+r < n by omega)
  (have hrd0:=hr1;have hrd1:=hr2;repeat' (first|(with_reducible intro _)|refine sv ?_|(refine sc ?_ ?_<;>(intro h;try exact sz h))|refine sg ?_ ?_<;>(intro h;first|exact sz h|refine sy h ?_)|exact sq|fail))
  all_goals try(exfalso;omega)
  have hK:=hK4
  refine d_st (by exact gd) rfl rfl hK rfl rfl (z0f (by omega) (G3 (a+r))) ?_
  intro M7 hU7 e7 hA7
  repeat' first|with_reducible intro _|refine sv ?_|refine sc ?_ ?_<;>(intro h;try exact sz h)|refine sg ?_ ?_<;>(intro h;first|exact sz h|refine sy h ?_)|exact sq|fail
  refine d_st (by exact gd) rfl rfl hA7 rfl rfl (z0f (by omega) (G3 i)) ?_
  intro M8 hU8 e8 hA8
  have hk8:Keep (fun i=>i=p) M M8:=xk
  have hq8:At M8 q (.cells true [.int .u64 c4] 263):=At.upd_ne hU8 (fun hh=>hpq hh.symm) (At.upd_ne hU7 (fun hh=>hpq hh.symm) hq4)
  repeat' first|with_reducible intro _|refine sv ?_|refine sc ?_ ?_<;>(intro h;try exact sz h)|refine sg ?_ ?_<;>(intro h;first|exact sz h|refine sy h ?_)|exact sq|fail
  exact zj (a+l / 4*2+2 - (i+1)) (by omega) ⟨i+1,sw G3 i (a+r),c4,rfl,by omega,by omega,rfl,.cons rfl (.cons rfl (.cons rfl (.cons rfl (.cons rfl (.cons rfl .nil))))),.step hw3 (by omega) (by omega) (by omega) (by omega),hA8,hq8,hc4,hc4',hk8⟩
 ·have hr2:=z0n hK4 (show a+(r - l) < n by omega)
  have f1:((a:Int)+((r:Int) - (l:Int))).toNat=a+(r - l):=by omega
  have hr3:Rd M4 p (0+((a:Int)+((r:Int) - (l:Int))).toNat*2) 2 [I (G3 (a+(r - l))).1,I (G3 (a+(r - l))).2]:=by rw[f1];exact hr2
  (have hrd0:=hr1;have hrd1:=hr3;repeat' (first|(with_reducible intro _)|refine sv ?_|(refine sc ?_ ?_<;>(intro h;try exact sz h))|refine sg ?_ ?_<;>(intro h;first|exact sz h|refine sy h ?_)|exact sq|fail))
  all_goals try(exfalso;omega)
  have hK:=hK4
  refine d_st (by exact gd) rfl rfl hK rfl rfl (z0f (by omega) (G3 (a+(r - l)))) ?_
  intro M7 hU7 e7 hA7
  repeat' first|with_reducible intro _|refine sv ?_|refine sc ?_ ?_<;>(intro h;try exact sz h)|refine sg ?_ ?_<;>(intro h;first|exact sz h|refine sy h ?_)|exact sq|fail
  refine d_st (by exact gd) rfl rfl hA7 rfl rfl (by rw[f1];exact z0f (by omega) (G3 i)) ?_
  intro M8 hU8 e8 hA8
  have hk8:Keep (fun i=>i=p) M M8:=xk
  have hq8:At M8 q (.cells true [.int .u64 c4] 263):=At.upd_ne hU8 (fun hh=>hpq hh.symm) (At.upd_ne hU7 (fun hh=>hpq hh.symm) hq4)
  repeat' first|with_reducible intro _|refine sv ?_|refine sc ?_ ?_<;>(intro h;try exact sz h)|refine sg ?_ ?_<;>(intro h;first|exact sz h|refine sy h ?_)|exact sq|fail
  exact zj (a+l / 4*2+2 - (i+1)) (by omega) ⟨i+1,sw G3 i (a+(r - l)),c4,rfl,by omega,by omega,rfl,.cons rfl (.cons rfl (.cons rfl (.cons rfl (.cons rfl (.cons rfl .nil))))),.step hw3 (by omega) (by omega) (by omega) (by omega),hA8,hq8,hc4,hc4',hk8⟩
set_option maxHeartbeats 4000000 in
theorem zab{M:Mem}{p n a b q:Nat}{f:Bool}{e:Nat}{ty ty2:TypeId}{G:Nat->Ky}{c:Int}(hA:KT M p n ty G)(hq:At M q (.cells true [I c] ty2))(ha:a < n)(hb:b < n)(hn:n<=1000)(hc:0<=c /\ c<=1000) :
  za Tryz.prog 211 [.slice (some (p,0)) n f e,I a,I b,.ptr (some (q,0)),cf] M (fun w M'=>∃(x y:Nat) (c':Int),w=.tup [I x,I y] /\ ((x=a /\ y=b) ∨(x=b /\ y=a)) /\ c<=c' /\ c'<=c+1 /\ At M' q (.cells true [I c'] ty2) /\ Keep (fun i=>i=q) M M'):=by
 refine zd k211 rfl ?_
 dsimp only[x211,zM,zO,zI,zS,zL,zN,zC,zipE,Nat.reduceAdd]
 have hr1:=z0n hA ha
 have hr2:=z0n hA hb
 have co:=fun M'=>z1o (G b).1 (G b).2 (G a).1 (G a).2 M'
 (have hrd0:=hr1;have hrd1:=hr2;repeat' (first|(with_reducible intro _)|refine sv ?_|(refine sc ?_ ?_<;>(intro h;try exact sz h))|((with_reducible first|apply z1m|apply z1p|apply d_pure0);exact gd;exact rfl;exact rfl;(first|exact co _))|refine sg ?_ ?_<;>(intro h;first|exact sz h|refine sy h ?_)|exact sq|fail))
 ·rename_i M5 hg5 q5 M6 hU6 q6 hA6
  have hk6:Keep (fun i=>i=q) M M6:=xk
  refine kf ?_
  exact⟨b,a,c+1,rfl,.inr ⟨rfl,rfl⟩,by omega,by omega,hA6,hk6⟩
 ·rename_i M5 hg5 q5
  have hk5:Keep (fun i=>i=q) M M5:=xk
  refine kf ?_
  exact⟨a,b,c,rfl,.inl ⟨rfl,rfl⟩,by omega,by omega,hq.grow hg5,hk5⟩
set_option maxHeartbeats 4000000 in
theorem zaa{M:Mem}{p n a b d q:Nat}{f:Bool}{e:Nat}{ty ty2:TypeId}{G:Nat->Ky}{c:Int}(hA:KT M p n ty G)(hq:At M q (.cells true [I c] ty2))(hpq:p ≠ q)(ha:a < n)(hb:b < n)(hd:d < n)(hn:n<=1000)(hc:0<=c /\ c<=900) :
  za Tryz.prog 208 [.slice (some (p,0)) n f e,I a,I b,I d,.ptr (some (q,0)),cf] M (fun w M'=>∃(x:Nat) (c':Int),w=I x /\ (x=a ∨ x=b ∨ x=d) /\ c<=c' /\ c'<=c+3 /\ At M' q (.cells true [I c'] ty2) /\ Keep (fun i=>i=q) M M'):=by
 refine zd k208 rfl ?_
 dsimp only[x208,zM,zO,zI,zF,zS,zL,zE,zN,zC,zipE,Nat.reduceAdd]
 have c1:=zab (f:=f) (e:=e) hA hq ha hb hn (by omega)
 repeat' first|with_reducible intro _|refine sv ?_|refine sc ?_ ?_<;>(intro h;try exact sz h)|((with_reducible first|apply zq|apply z0b|apply x_call0);exact gd;exact rfl;exact rfl;(first|exact c1))|refine sg ?_ ?_<;>(intro h;first|exact sz h|refine sy h ?_)|exact sq|fail
 rename_i w1 M1 hh
 obtain⟨x1,y1,d1,rfl,hxy1,hd1,hd1',hq1,hk1⟩:=hh
 have hA1:KT M1 p n ty G:=hA.keep hk1 hpq
 have c2:=zab (f:=f) (e:=e) (a:=y1) (b:=d) hA1 hq1 (by omega) hd hn (by omega)
 repeat' first|with_reducible intro _|refine sv ?_|refine sc ?_ ?_<;>(intro h;try exact sz h)|((with_reducible first|apply zq|apply z0b|apply x_call0);exact gd;exact rfl;exact rfl;(first|exact c2))|refine sg ?_ ?_<;>(intro h;first|exact sz h|refine sy h ?_)|exact sq|fail
 rename_i w2 M2 hh
 obtain⟨x2,y2,d2,rfl,hxy2,hd2,hd2',hq2,hk2⟩:=hh
 have hA2:KT M2 p n ty G:=hA1.keep hk2 hpq
 have c3:=zab (f:=f) (e:=e) (a:=x1) (b:=x2) hA2 hq2 (by omega) (by omega) hn (by omega)
 repeat' first|with_reducible intro _|refine sv ?_|refine sc ?_ ?_<;>(intro h;try exact sz h)|((with_reducible first|apply zq|apply z0b|apply x_call0);exact gd;exact rfl;exact rfl;(first|exact c3))|refine sg ?_ ?_<;>(intro h;first|exact sz h|refine sy h ?_)|exact sq|fail
 rename_i w3 M3 hh
 obtain⟨x3,y3,d3,rfl,hxy3,hd3,hd3',hq3,hk3⟩:=hh
 repeat' first|with_reducible intro _|refine sv ?_|refine sc ?_ ?_<;>(intro h;try exact sz h)|refine sg ?_ ?_<;>(intro h;first|exact sz h|refine sy h ?_)|exact sq|fail
 refine kf ?_
 exact⟨y3,d3,rfl,by omega,by omega,by omega,hq3,(hk1.trans hk2 (fun i hi=>.inl hi)).trans hk3 (fun i hi=>.inl hi)⟩
set_option maxHeartbeats 4000000 in
theorem za9{M:Mem}{p n a q:Nat}{f:Bool}{e:Nat}{ty ty2:TypeId}{G:Nat->Ky}{c:Int}(hA:KT M p n ty G)(hq:At M q (.cells true [I c] ty2))(hpq:p ≠ q)(ha:1<=a /\ a+1 < n)(hn:n<=1000)(hc:0<=c /\ c<=900) :
  za Tryz.prog 207 [.slice (some (p,0)) n f e,I a,.ptr (some (q,0)),cf] M (fun w M'=>∃(x:Nat) (c':Int),w=I x /\ a<=x+1 /\ x<=a+1 /\ c<=c' /\ c'<=c+3 /\ At M' q (.cells true [I c'] ty2) /\ Keep (fun i=>i=q) M M'):=by
 refine zd k207 rfl ?_
 dsimp only[x207,zM,zO,zI,zF,zS,zL,zE,zN,zC,zipE,Nat.reduceAdd]
 have c1:=zaa (f:=f) (e:=e) (a:=a - 1) (b:=a) (d:=a+1) hA hq hpq (by omega) (by omega) (by omega) hn hc
 rw[show((a - 1:Nat):Int)=(a:Int) - 1 by omega,show((a+1:Nat):Int)=(a:Int)+1 by omega] at c1
 repeat' first|with_reducible intro _|refine sv ?_|refine sc ?_ ?_<;>(intro h;try exact sz h)|((with_reducible first|apply zq|apply z0b|apply x_call0);exact gd;exact rfl;exact rfl;(first|exact c1))|refine sg ?_ ?_<;>(intro h;first|exact sz h|refine sy h ?_)|exact sq|fail
 rename_i w1 M1 hh
 obtain⟨x1,d1,rfl,hx1,hd1,hd1',hq1,hk1⟩:=hh
 repeat' first|with_reducible intro _|refine sv ?_|refine sc ?_ ?_<;>(intro h;try exact sz h)|refine sg ?_ ?_<;>(intro h;first|exact sz h|refine sy h ?_)|exact sq|fail
 refine kf ?_
 exact⟨x1,d1,rfl,by omega,by omega,hd1,hd1',hq1,hk1⟩
set_option maxHeartbeats 8000000 in
theorem zjd{M:Mem}{p n a b:Nat}{f:Bool}{e:Nat}{ty:TypeId}{G:Nat->Ky}(hA:KT M p n ty G)(hb:b<=n)(hab:a+8<=b)(hn:n<=1000) :
  za Tryz.prog 189 [.slice (some (p,0)) n f e,I a,I b,cf] M (fun w M'=>∃(x:Nat) (h:Int),w=.tup [I x,I h] /\ a<=x /\ x < b /\ Grow M M'):=by
 refine zd k189 rfl ?_
 dsimp only[x189,zM,zO,zI,zF,zS,zB,zL,zE,zN,zW,zC,zipE,Nat.reduceAdd]
 obtain⟨l,rfl⟩:∃ l,b=a+l:=⟨b - a,by omega⟩
 have v1:((a+l / 4:Nat):Int)=(a:Int)+(((a+l:Nat):Int) - (a:Int)) / 4*1:=by omega
 have v2:((a+l / 4*2:Nat):Int)=(a:Int)+(((a+l:Nat):Int) - (a:Int)) / 4*2:=by omega
 have v3:((a+l / 4*3:Nat):Int)=(a:Int)+(((a+l:Nat):Int) - (a:Int)) / 4*3:=by omega
 repeat' first|with_reducible intro _|refine sv ?_|refine sc ?_ ?_<;>(intro h;try exact sz h)|refine sg ?_ ?_<;>(intro h;first|exact sz h|refine sy h ?_)|exact sq|fail
 all_goals try(exfalso;omega)
 ·rename_i q M1 hN1 e1 e2 h50
  have hq1:At M1 q (.cells true [I 0] 3):=At.new_same hN1
  have hA1:KT M1 p n ty G:=At.grow hN1.grow hA
  have hpq:p ≠ q:=by have:=hA.2;omega
  have c1:=za9 (f:=f) (e:=e) (a:=a+l / 4) hA1 hq1 hpq (by omega) hn (by omega)
  rw[v1] at c1
  repeat' first|with_reducible intro _|refine sv ?_|refine sc ?_ ?_<;>(intro h;try exact sz h)|((with_reducible first|apply zq|apply z0b|apply x_call0);exact gd;exact rfl;exact rfl;(first|exact c1))|refine sg ?_ ?_<;>(intro h;first|exact sz h|refine sy h ?_)|exact sq|fail
  rename_i w1 M2 hh
  obtain⟨x1,d1,rfl,hx1,hx1',hd1,hd1',hq2,hk2⟩:=hh
  have hA2:KT M2 p n ty G:=hA1.keep hk2 hpq
  have c2:=za9 (f:=f) (e:=e) (a:=a+l / 4*2) hA2 hq2 hpq (by omega) hn (by omega)
  rw[v2] at c2
  repeat' first|with_reducible intro _|refine sv ?_|refine sc ?_ ?_<;>(intro h;try exact sz h)|((with_reducible first|apply zq|apply z0b|apply x_call0);exact gd;exact rfl;exact rfl;(first|exact c2))|refine sg ?_ ?_<;>(intro h;first|exact sz h|refine sy h ?_)|exact sq|fail
  rename_i w2 M3 hh
  obtain⟨x2,d2,rfl,hx2,hx2',hd2,hd2',hq3,hk3⟩:=hh
  have hA3:KT M3 p n ty G:=hA2.keep hk3 hpq
  have c3:=za9 (f:=f) (e:=e) (a:=a+l / 4*3) hA3 hq3 hpq (by omega) hn (by omega)
  rw[v3] at c3
  repeat' first|with_reducible intro _|refine sv ?_|refine sc ?_ ?_<;>(intro h;try exact sz h)|((with_reducible first|apply zq|apply z0b|apply x_call0);exact gd;exact rfl;exact rfl;(first|exact c3))|refine sg ?_ ?_<;>(intro h;first|exact sz h|refine sy h ?_)|exact sq|fail
  rename_i w3 M4 hh
  obtain⟨x3,d3,rfl,hx3,hx3',hd3,hd3',hq4,hk4⟩:=hh
  have hA4:KT M4 p n ty G:=hA3.keep hk4 hpq
  have c4:=zaa (f:=f) (e:=e) (a:=x1) (b:=x2) (d:=x3) hA4 hq4 hpq (by omega) (by omega) (by omega) hn (by omega)
  repeat' first|with_reducible intro _|refine sv ?_|refine sc ?_ ?_<;>(intro h;try exact sz h)|((with_reducible first|apply zq|apply z0b|apply x_call0);exact gd;exact rfl;exact rfl;(first|exact c4))|refine sg ?_ ?_<;>(intro h;first|exact sz h|refine sy h ?_)|exact sq|fail
  rename_i w9 M9 hh
  obtain⟨x9,d9,rfl,hx9,hd9,hd9',hq9,hk9⟩:=hh
  have hgr:Grow M M9:=Keep.to_grow' hN1.grow (((hk2.trans hk3 (fun i hi=>.inl hi)).trans hk4 (fun i hi=>.inl hi)).trans hk9 (fun i hi=>.inl hi)) (fun i hi=>by omega)
  repeat' first|with_reducible intro _|refine sv ?_|refine sc ?_ ?_<;>(intro h;try exact sz h)|refine sg ?_ ?_<;>(intro h;first|exact sz h|refine sy h ?_)|exact sq|fail
  all_goals ((refine kf ?_);exact⟨x9,_,rfl,by omega,by omega,hgr⟩)
 ·rename_i q M1 hN1 e1 e2 h50
  have hq1:At M1 q (.cells true [I 0] 3):=At.new_same hN1
  have hA1:KT M1 p n ty G:=At.grow hN1.grow hA
  have hpq:p ≠ q:=by have:=hA.2;omega
  have c4:=zaa (f:=f) (e:=e) (a:=a+l / 4) (b:=a+l / 4*2) (d:=a+l / 4*3) hA1 hq1 hpq (by omega) (by omega) (by omega) hn (by omega)
  rw[v1,v2,v3] at c4
  repeat' first|with_reducible intro _|refine sv ?_|refine sc ?_ ?_<;>(intro h;try exact sz h)|((with_reducible first|apply zq|apply z0b|apply x_call0);exact gd;exact rfl;exact rfl;(first|exact c4))|refine sg ?_ ?_<;>(intro h;first|exact sz h|refine sy h ?_)|exact sq|fail
  rename_i w9 M9 hh
  obtain⟨x9,d9,rfl,hx9,hd9,hd9',hq9,hk9⟩:=hh
  have hgr:Grow M M9:=Keep.to_grow' hN1.grow hk9 (fun i hi=>by omega)
  repeat' first|with_reducible intro _|refine sv ?_|refine sc ?_ ?_<;>(intro h;try exact sz h)|refine sg ?_ ?_<;>(intro h;first|exact sz h|refine sy h ?_)|exact sq|fail
  all_goals ((refine kf ?_);exact⟨x9,_,rfl,by omega,by omega,hgr⟩)
set_option maxHeartbeats 16000000 in
theorem zov{M:Mem}{p n a b x:Nat}{f:Bool}{e:Nat}{ty:TypeId}{G:Nat->Ky}(hA:KT M p n ty G)(hb:b<=n)(hax:a<=x)(hxb:x < b)(hn:n<=1000) :
  za Tryz.prog 193 [.slice (some (p,0)) n f e,I a,I b,I x,cf] M (fun w M'=>∃(m:Nat) (q:Bool) (G':Nat->Ky),w=.tup [I m,.bool q] /\ Parted a b m G' /\ Sw a b G G' /\ KT M' p n ty G' /\ Keep (fun i=>i=p) M M'):=by
 refine zd k193 rfl ?_
 dsimp only[x193,zM,zO,zI,zF,zS,zB,zL,zE,zN,zW,zC,zipE,Nat.reduceAdd]
 have hr1:=z0n hA (show a < n by omega)
 have hr2:=z0n hA (show x < n by omega)
 (have hrd0:=hr1;have hrd1:=hr2;repeat' (first|(with_reducible intro _)|refine sv ?_|(refine sc ?_ ?_<;>(intro h;try exact sz h))|refine sg ?_ ?_<;>(intro h;first|exact sz h|refine sy h ?_)|exact sq|fail))
 refine d_st (by exact gd) rfl rfl hA rfl rfl (z0f (by omega) (G x)) ?_
 intro M7 hU7 e7 hA7
 repeat' first|with_reducible intro _|refine sv ?_|refine sc ?_ ?_<;>(intro h;try exact sz h)|refine sg ?_ ?_<;>(intro h;first|exact sz h|refine sy h ?_)|exact sq|fail
 refine d_st (by exact gd) rfl rfl hA7 rfl rfl (z0f (by omega) (G a)) ?_
 intro M8 hU8 e8 hK
 have hkk:Keep (fun i=>i=p) M M8:=xk
 have hK:KT M8 p n ty (sw G a x):=hK
 have hw:Sw a b G (sw G a x):=.one (by omega) (by omega) hax hxb
 generalize sw G a x=G1 at *
 clear hr1 hr2 hA hU7 e7 hA7 hU8 e8
 repeat' first|with_reducible intro _|refine sv ?_|refine sc ?_ ?_<;>(intro h;try exact sz h)|refine sg ?_ ?_<;>(intro h;first|exact sz h|refine sy h ?_)|exact sq|fail
 have hP:PL a b (a+1) (b - 1) G1:=PL.start (by omega)
 rw[show(b:Int) - 1=((b - 1:Nat):Int) by omega]
 have hj0:b - 1 < b:=by omega
 generalize b - 1=j0 at *
 refine z22 (K:=fun x E ms M'=>x=.exit 0 /\ ms=[] /\ ∃ i,PL a b i j0 G1 /\ (i<=j0->¬ klt (G1 i) (G1 a)) /\ Has E [(0,.slice (some (p,0)) n f e),(1,I a),(4,cf),(12,I i),(13,I j0)] /\ KT M' p n ty G1 /\ Keep (fun i=>i=p) M M') ?_ ?_
 ·refine z9 (fun z E ms M'=>∃ i,z=b+2 - i /\ PL a b i j0 G1 /\ ms=[] /\ Has E [(0,.slice (some (p,0)) n f e),(1,I a),(4,cf),(12,I i),(13,I j0)] /\ KT M' p n ty G1 /\ Keep (fun i=>i=p) M M')
   ?_ (b+2 - (a+1)) _ _ _ ⟨(a+1),rfl,hP,rfl,.cons rfl (.cons rfl (.cons rfl (.cons rfl (.cons rfl .nil)))),hK,hkk⟩
  rintro z E ms M5 ⟨i,rfl,hP,rfl,hE,hK,hkk⟩
  refine z0d hE ?_
  have hP9:=hP
  obtain⟨g1,g2,g3,-,-⟩:=hP9
  by_cases hij:i<=j0
  case neg =>
   repeat' first|with_reducible intro _|refine sv ?_|refine sc ?_ ?_<;>(intro h;try exact sz h)|refine sg ?_ ?_<;>(intro h;first|exact sz h|refine sy h ?_)|exact sq|fail
   all_goals try(exfalso;omega)
   exact⟨rfl,rfl,i,hP,fun hh=>absurd hh hij,.cons rfl (.cons rfl (.cons rfl (.cons rfl (.cons rfl .nil)))),hK,hkk⟩
  have hr1:=z0n hK (show i < n by omega)
  have hr2:=z0n hK (show a < n by omega)
  have co:=fun M'=>z1o (G1 i).1 (G1 i).2 (G1 a).1 (G1 a).2 M'
  (have hrd0:=hr1;have hrd1:=hr2;repeat' (first|(with_reducible intro _)|refine sv ?_|(refine sc ?_ ?_<;>(intro h;try exact sz h))|((with_reducible first|apply z1m|apply z1p|apply d_pure0);exact gd;exact rfl;exact rfl;(first|exact co _))|refine sg ?_ ?_<;>(intro h;first|exact sz h|refine sy h ?_)|exact sq|fail))
  all_goals try(exfalso;omega)
  ·rename_i hx M6 g6 q6
   have hlt:=(z0i (G1 i) (G1 a)).1 h
   exact zj (b+2 - (i+1)) (by omega) ⟨i+1,rfl,hP.up hij hlt,rfl,.cons rfl (.cons rfl (.cons rfl (.cons rfl (.cons rfl .nil)))),hK.grow g6,xk⟩
  ·rename_i hx M6 g6 q6
   have hkk6:Keep (fun i=>i=p) M M6:=xk
   exact⟨rfl,rfl,i,hP,fun _ hh=>absurd ((z0i _ _).2 hh) (Int.not_lt.2 h),.cons rfl (.cons rfl (.cons rfl (.cons rfl (.cons rfl .nil)))),hK.grow g6,hkk6⟩
 rintro x E ms M10 ⟨rfl,rfl,i1,hP,hxi,hE,hK,hkk⟩
 apply z14
 apply z3p
 refine z0d hE ?_
 repeat' first|with_reducible intro _|refine sv ?_|refine sc ?_ ?_<;>(intro h;try exact sz h)|refine sg ?_ ?_<;>(intro h;first|exact sz h|refine sy h ?_)|exact sq|fail
 refine z22 (K:=fun x E ms M'=>x=.exit 2 /\ ms=[] /\ ∃ j,j<=j0 /\ PL a b i1 j G1 /\ (i1<=j->klt (G1 j) (G1 a)) /\ (i1<=j->¬ klt (G1 i1) (G1 a)) /\ Has E [(0,.slice (some (p,0)) n f e),(1,I a),(4,cf),(12,I i1),(13,I j)] /\ KT M' p n ty G1 /\ Keep (fun i=>i=p) M M') ?_ ?_
 ·refine z9 (fun z E ms M'=>z<=j0 /\ PL a b i1 z G1 /\ (i1<=z->¬ klt (G1 i1) (G1 a)) /\ ms=[] /\ Has E [(0,.slice (some (p,0)) n f e),(1,I a),(4,cf),(12,I i1),(13,I z)] /\ KT M' p n ty G1 /\ Keep (fun i=>i=p) M M')
   ?_ j0 _ _ _ ⟨Nat.le_refl _,hP,hxi,rfl,.cons rfl (.cons rfl (.cons rfl (.cons rfl (.cons rfl .nil)))),hK,hkk⟩
  rintro j E ms M5 ⟨hjj,hP,hxi,rfl,hE,hK,hkk⟩
  refine z0d hE ?_
  have hP9:=hP
  obtain⟨g1,g2,g3,-,-⟩:=hP9
  by_cases hij:i1<=j
  case neg =>
   repeat' first|with_reducible intro _|refine sv ?_|refine sc ?_ ?_<;>(intro h;try exact sz h)|refine sg ?_ ?_<;>(intro h;first|exact sz h|refine sy h ?_)|exact sq|fail
   all_goals try(exfalso;omega)
   exact⟨rfl,rfl,j,hjj,hP,fun hh=>absurd hh hij,fun hh=>absurd hh hij,.cons rfl (.cons rfl (.cons rfl (.cons rfl (.cons rfl .nil)))),hK,hkk⟩
  have hr1:=z0n hK (show j < n by omega)
  have hr2:=z0n hK (show a < n by omega)
  have co:=fun M'=>z1o (G1 j).1 (G1 j).2 (G1 a).1 (G1 a).2 M'
  (have hrd0:=hr1;have hrd1:=hr2;repeat' (first|(with_reducible intro _)|refine sv ?_|(refine sc ?_ ?_<;>(intro h;try exact sz h))|((with_reducible first|apply z1m|apply z1p|apply d_pure0);exact gd;exact rfl;exact rfl;(first|exact co _))|refine sg ?_ ?_<;>(intro h;first|exact sz h|refine sy h ?_)|exact sq|fail))
  all_goals try(exfalso;omega)
  ·rename_i hx M6 g6 q6
   obtain⟨j',rfl⟩:∃ j',j=j' + 1:=⟨j - 1,by omega⟩
   have hge:¬ klt (G1 (j' + 1)) (G1 a):=fun hh=>absurd ((z0i _ _).2 hh) (Int.not_lt.2 h)
   have hkk6:Keep (fun i=>i=p) M M6:=xk
   refine zj j' (by omega) ⟨by omega,hP.down hij hge,fun hh=>hxi (by omega),rfl,.cons rfl (.cons rfl (.cons rfl (.cons rfl (.cons ?_ .nil)))),hK.grow g6,hkk6⟩
   show some (I _)=some (I _)
   rw[show(((j' + 1:Nat):Int) - 1)=(j':Int) by omega]
  ·rename_i hx M6 g6 q6
   have hlt:=(z0i (G1 j) (G1 a)).1 h
   have hkk6:Keep (fun i=>i=p) M M6:=xk
   exact⟨rfl,rfl,j,hjj,hP,fun _=>hlt,hxi,.cons rfl (.cons rfl (.cons rfl (.cons rfl (.cons rfl .nil)))),hK.grow g6,hkk6⟩
 rintro x E ms M11 ⟨rfl,rfl,j1,hjj,hP,hxj,hxi,hE,hK,hkk⟩
 apply z14
 apply z3p
 have hP1:=hP
 obtain⟨g1,g2,g3,-,-⟩:=hP1
 refine z0d hE ?_
 by_cases hij:j1 < i1
 case pos =>
  have hr1:=z0n hK (show j1 < n by omega)
  have hr2:=z0n hK (show a < n by omega)
  (have hrd0:=hr1;have hrd1:=hr2;repeat' (first|(with_reducible intro _)|refine sv ?_|(refine sc ?_ ?_<;>(intro h;try exact sz h))|refine sg ?_ ?_<;>(intro h;first|exact sz h|refine sy h ?_)|exact sq|fail))
  all_goals try(exfalso;omega)
  have hKs:=hK
  refine d_st (by exact gd) rfl rfl hKs rfl rfl (z0f (by omega) (G1 a)) ?_
  intro M17 hU17 e17 hA17
  repeat' first|with_reducible intro _|refine sv ?_|refine sc ?_ ?_<;>(intro h;try exact sz h)|refine sg ?_ ?_<;>(intro h;first|exact sz h|refine sy h ?_)|exact sq|fail
  refine d_st (by exact gd) rfl rfl hA17 rfl rfl (z0f (by omega) (G1 j1)) ?_
  intro M12 hU18 e18 hK
  have hkk:Keep (fun i=>i=p) M M12:=xk
  have hK:KT M12 p n ty (sw G1 j1 a):=hK
  clear hr1 hr2 hKs hU17 e17 hA17 hU18 e18
  have hw2:Sw a b G (sw G1 j1 a):=.step hw (by omega) (by omega) (by omega) (by omega)
  have hd:=hP.done hij
  repeat' first|with_reducible intro _|refine sv ?_|refine sc ?_ ?_<;>(intro h;try exact sz h)|refine sg ?_ ?_<;>(intro h;first|exact sz h|refine sy h ?_)|exact sq|fail
  refine kf ?_
  exact⟨j1,true,_,rfl,hd,hw2,hK,hkk⟩
 have hr1:=z0n hK (show i1 < n by omega)
 have hr2:=z0n hK (show j1 < n by omega)
 (have hrd0:=hr1;have hrd1:=hr2;repeat' (first|(with_reducible intro _)|refine sv ?_|(refine sc ?_ ?_<;>(intro h;try exact sz h))|refine sg ?_ ?_<;>(intro h;first|exact sz h|refine sy h ?_)|exact sq|fail))
 all_goals try(exfalso;omega)
 have hKs:=hK
 refine d_st (by exact gd) rfl rfl hKs rfl rfl (z0f (by omega) (G1 j1)) ?_
 intro M17 hU17 e17 hA17
 repeat' first|with_reducible intro _|refine sv ?_|refine sc ?_ ?_<;>(intro h;try exact sz h)|refine sg ?_ ?_<;>(intro h;first|exact sz h|refine sy h ?_)|exact sq|fail
 refine d_st (by exact gd) rfl rfl hA17 rfl rfl (z0f (by omega) (G1 i1)) ?_
 intro M12 hU18 e18 hK
 have hkk:Keep (fun i=>i=p) M M12:=xk
 have hK:KT M12 p n ty (sw G1 i1 j1):=hK
 clear hr1 hr2 hKs hU17 e17 hA17 hU18 e18
 obtain⟨hij2,hP2⟩:=hP.swap (by omega) (hxi (by omega)) (hxj (by omega))
 have hw2:Sw a b G (sw G1 i1 j1):=.step hw (by omega) (by omega) (by omega) (by omega)
 repeat' first|with_reducible intro _|refine sv ?_|refine sc ?_ ?_<;>(intro h;try exact sz h)|refine sg ?_ ?_<;>(intro h;first|exact sz h|refine sy h ?_)|exact sq|fail
 rw[show(j1:Int) - 1=((j1 - 1:Nat):Int) by omega]
 generalize hG2:sw G1 i1 j1=G2 at *
 generalize hJ2:j1 - 1=j2 at *
 refine z9 (fun z E ms M'=>∃(i:Nat) (G':Nat->Ky),PL a b i z G' /\ Sw a b G G' /\ ms=[] /\ Has E [(0,.slice (some (p,0)) n f e),(1,I a),(4,cf),(12,I i),(13,I z)] /\ KT M' p n ty G' /\ Keep (fun i=>i=p) M M')
  ?_ j2 _ _ _ ⟨i1+1,G2,hP2,hw2,rfl,.cons rfl (.cons rfl (.cons rfl (.cons rfl (.cons rfl .nil)))),hK,hkk⟩
 clear hK hkk hw2 hP2 hE hxi hxj hP
 rintro j3 E ms M3 ⟨i3,G3,hP,hw3,rfl,hE,hK,hkk⟩
 refine z0d hE ?_
 repeat' first|with_reducible intro _|refine sv ?_|refine sc ?_ ?_<;>(intro h;try exact sz h)|refine sg ?_ ?_<;>(intro h;first|exact sz h|refine sy h ?_)|exact sq|fail
 refine z22 (K:=fun x E ms M'=>x=.exit 6 /\ ms=[] /\ ∃ i,PL a b i j3 G3 /\ (i<=j3->¬ klt (G3 i) (G3 a)) /\ Has E [(0,.slice (some (p,0)) n f e),(1,I a),(4,cf),(12,I i),(13,I j3)] /\ KT M' p n ty G3 /\ Keep (fun i=>i=p) M M') ?_ ?_
 ·refine z9 (fun z E ms M'=>∃ i,z=b+2 - i /\ PL a b i j3 G3 /\ ms=[] /\ Has E [(0,.slice (some (p,0)) n f e),(1,I a),(4,cf),(12,I i),(13,I j3)] /\ KT M' p n ty G3 /\ Keep (fun i=>i=p) M M')
   ?_ (b+2 - i3) _ _ _ ⟨i3,rfl,hP,rfl,.cons rfl (.cons rfl (.cons rfl (.cons rfl (.cons rfl .nil)))),hK,hkk⟩
  rintro z E ms M5 ⟨i,rfl,hP,rfl,hE,hK,hkk⟩
  refine z0d hE ?_
  have hP9:=hP
  obtain⟨g1,g2,g3,-,-⟩:=hP9
  by_cases hij:i<=j3
  case neg =>
   repeat' first|with_reducible intro _|refine sv ?_|refine sc ?_ ?_<;>(intro h;try exact sz h)|refine sg ?_ ?_<;>(intro h;first|exact sz h|refine sy h ?_)|exact sq|fail
   all_goals try(exfalso;omega)
   exact⟨rfl,rfl,i,hP,fun hh=>absurd hh hij,.cons rfl (.cons rfl (.cons rfl (.cons rfl (.cons rfl .nil)))),hK,hkk⟩
  have hr1:=z0n hK (show i < n by omega)
  have hr2:=z0n hK (show a < n by omega)
  have co:=fun M'=>z1o (G3 i).1 (G3 i).2 (G3 a).1 (G3 a).2 M'
  (have hrd0:=hr1;have hrd1:=hr2;repeat' (first|(with_reducible intro _)|refine sv ?_|(refine sc ?_ ?_<;>(intro h;try exact sz h))|((with_reducible first|apply z1m|apply z1p|apply d_pure0);exact gd;exact rfl;exact rfl;(first|exact co _))|refine sg ?_ ?_<;>(intro h;first|exact sz h|refine sy h ?_)|exact sq|fail))
  all_goals try(exfalso;omega)
  ·rename_i hx M6 g6 q6
   have hlt:=(z0i (G3 i) (G3 a)).1 h
   exact zj (b+2 - (i+1)) (by omega) ⟨i+1,rfl,hP.up hij hlt,rfl,.cons rfl (.cons rfl (.cons rfl (.cons rfl (.cons rfl .nil)))),hK.grow g6,xk⟩
  ·rename_i hx M6 g6 q6
   have hkk6:Keep (fun i=>i=p) M M6:=xk
   exact⟨rfl,rfl,i,hP,fun _ hh=>absurd ((z0i _ _).2 hh) (Int.not_lt.2 h),.cons rfl (.cons rfl (.cons rfl (.cons rfl (.cons rfl .nil)))),hK.grow g6,hkk6⟩
 rintro x E ms M20 ⟨rfl,rfl,i4,hP,hxi,hE,hK,hkk⟩
 apply z14
 apply z3p
 refine z0d hE ?_
 repeat' first|with_reducible intro _|refine sv ?_|refine sc ?_ ?_<;>(intro h;try exact sz h)|refine sg ?_ ?_<;>(intro h;first|exact sz h|refine sy h ?_)|exact sq|fail
 refine z22 (K:=fun x E ms M'=>x=.exit 8 /\ ms=[] /\ ∃ j,j<=j3 /\ PL a b i4 j G3 /\ (i4<=j->klt (G3 j) (G3 a)) /\ (i4<=j->¬ klt (G3 i4) (G3 a)) /\ Has E [(0,.slice (some (p,0)) n f e),(1,I a),(4,cf),(12,I i4),(13,I j)] /\ KT M' p n ty G3 /\ Keep (fun i=>i=p) M M') ?_ ?_
 ·refine z9 (fun z E ms M'=>z<=j3 /\ PL a b i4 z G3 /\ (i4<=z->¬ klt (G3 i4) (G3 a)) /\ ms=[] /\ Has E [(0,.slice (some (p,0)) n f e),(1,I a),(4,cf),(12,I i4),(13,I z)] /\ KT M' p n ty G3 /\ Keep (fun i=>i=p) M M')
   ?_ j3 _ _ _ ⟨Nat.le_refl _,hP,hxi,rfl,.cons rfl (.cons rfl (.cons rfl (.cons rfl (.cons rfl .nil)))),hK,hkk⟩
  rintro j E ms M5 ⟨hjj,hP,hxi,rfl,hE,hK,hkk⟩
  refine z0d hE ?_
  have hP9:=hP
  obtain⟨g1,g2,g3,-,-⟩:=hP9
  by_cases hij:i4<=j
  case neg =>
   repeat' first|with_reducible intro _|refine sv ?_|refine sc ?_ ?_<;>(intro h;try exact sz h)|refine sg ?_ ?_<;>(intro h;first|exact sz h|refine sy h ?_)|exact sq|fail
   all_goals try(exfalso;omega)
   exact⟨rfl,rfl,j,hjj,hP,fun hh=>absurd hh hij,fun hh=>absurd hh hij,.cons rfl (.cons rfl (.cons rfl (.cons rfl (.cons rfl .nil)))),hK,hkk⟩
  have hr1:=z0n hK (show j < n by omega)
  have hr2:=z0n hK (show a < n by omega)
  have co:=fun M'=>z1o (G3 j).1 (G3 j).2 (G3 a).1 (G3 a).2 M'
  (have hrd0:=hr1;have hrd1:=hr2;repeat' (first|(with_reducible intro _)|refine sv ?_|(refine sc ?_ ?_<;>(intro h;try exact sz h))|((with_reducible first|apply z1m|apply z1p|apply d_pure0);exact gd;exact rfl;exact rfl;(first|exact co _))|refine sg ?_ ?_<;>(intro h;first|exact sz h|refine sy h ?_)|exact sq|fail))
  all_goals try(exfalso;omega)
  ·rename_i hx M6 g6 q6
   obtain⟨j',rfl⟩:∃ j',j=j' + 1:=⟨j - 1,by omega⟩
   have hge:¬ klt (G3 (j' + 1)) (G3 a):=fun hh=>absurd ((z0i _ _).2 hh) (Int.not_lt.2 h)
   have hkk6:Keep (fun i=>i=p) M M6:=xk
   refine zj j' (by omega) ⟨by omega,hP.down hij hge,fun hh=>hxi (by omega),rfl,.cons rfl (.cons rfl (.cons rfl (.cons rfl (.cons ?_ .nil)))),hK.grow g6,hkk6⟩
   show some (I _)=some (I _)
   rw[show(((j' + 1:Nat):Int) - 1)=(j':Int) by omega]
  ·rename_i hx M6 g6 q6
   have hlt:=(z0i (G3 j) (G3 a)).1 h
   have hkk6:Keep (fun i=>i=p) M M6:=xk
   exact⟨rfl,rfl,j,hjj,hP,fun _=>hlt,hxi,.cons rfl (.cons rfl (.cons rfl (.cons rfl (.cons rfl .nil)))),hK.grow g6,hkk6⟩
 rintro x E ms M21 ⟨rfl,rfl,j4,hjj,hP,hxj,hxi,hE,hK,hkk⟩
 apply z14
 apply z3p
 have hP1:=hP
 obtain⟨k1,k2,k3,-,-⟩:=hP1
 refine z0d hE ?_
 by_cases hij4:j4 < i4
 case pos =>
  have hr1:=z0n hK (show j4 < n by omega)
  have hr2:=z0n hK (show a < n by omega)
  (have hrd0:=hr1;have hrd1:=hr2;repeat' (first|(with_reducible intro _)|refine sv ?_|(refine sc ?_ ?_<;>(intro h;try exact sz h))|refine sg ?_ ?_<;>(intro h;first|exact sz h|refine sy h ?_)|exact sq|fail))
  all_goals try(exfalso;omega)
  have hKs:=hK
  refine d_st (by exact gd) rfl rfl hKs rfl rfl (z0f (by omega) (G3 a)) ?_
  intro M17 hU17 e17 hA17
  repeat' first|with_reducible intro _|refine sv ?_|refine sc ?_ ?_<;>(intro h;try exact sz h)|refine sg ?_ ?_<;>(intro h;first|exact sz h|refine sy h ?_)|exact sq|fail
  refine d_st (by exact gd) rfl rfl hA17 rfl rfl (z0f (by omega) (G3 j4)) ?_
  intro M22 hU18 e18 hK
  have hkk:Keep (fun i=>i=p) M M22:=xk
  have hK:KT M22 p n ty (sw G3 j4 a):=hK
  clear hr1 hr2 hKs hU17 e17 hA17 hU18 e18
  have hw4:Sw a b G (sw G3 j4 a):=.step hw3 (by omega) (by omega) (by omega) (by omega)
  have hd:=hP.done hij4
  repeat' first|with_reducible intro _|refine sv ?_|refine sc ?_ ?_<;>(intro h;try exact sz h)|refine sg ?_ ?_<;>(intro h;first|exact sz h|refine sy h ?_)|exact sq|fail
  refine kf ?_
  exact⟨j4,false,_,rfl,hd,hw4,hK,hkk⟩
 have hr1:=z0n hK (show i4 < n by omega)
 have hr2:=z0n hK (show j4 < n by omega)
 (have hrd0:=hr1;have hrd1:=hr2;repeat' (first|(with_reducible intro _)|refine sv ?_|(refine sc ?_ ?_<;>(intro h;try exact sz h))|refine sg ?_ ?_<;>(intro h;first|exact sz h|refine sy h ?_)|exact sq|fail))
 all_goals try(exfalso;omega)
 have hKs:=hK
 refine d_st (by exact gd) rfl rfl hKs rfl rfl (z0f (by omega) (G3 j4)) ?_
 intro M17 hU17 e17 hA17
 repeat' first|with_reducible intro _|refine sv ?_|refine sc ?_ ?_<;>(intro h;try exact sz h)|refine sg ?_ ?_<;>(intro h;first|exact sz h|refine sy h ?_)|exact sq|fail
 refine d_st (by exact gd) rfl rfl hA17 rfl rfl (z0f (by omega) (G3 i4)) ?_
 intro M22 hU18 e18 hK
 have hkk:Keep (fun i=>i=p) M M22:=xk
 have hK:KT M22 p n ty (sw G3 i4 j4):=hK
 clear hr1 hr2 hKs hU17 e17 hA17 hU18 e18
 obtain⟨hij5,hP5⟩:=hP.swap (by omega) (hxi (by omega)) (hxj (by omega))
 have hw5:Sw a b G (sw G3 i4 j4):=.step hw3 (by omega) (by omega) (by omega) (by omega)
 repeat' first|with_reducible intro _|refine sv ?_|refine sc ?_ ?_<;>(intro h;try exact sz h)|refine sg ?_ ?_<;>(intro h;first|exact sz h|refine sy h ?_)|exact sq|fail
 refine zj (j4 - 1) (by omega) ⟨i4+1,_,hP5,hw5,rfl,.cons rfl (.cons rfl (.cons rfl (.cons rfl (.cons ?_ .nil)))),hK,hkk⟩
 show some (I _)=some (I _)
 rw[show((j4 - 1:Nat):Int)=(j4:Int) - 1 by omega]
abbrev PE(p n:Nat)(f:Bool)(e:Nat)(a b:Nat)(lim:Int)(wb wp:Bool)(l:Env):Env:=(0,.slice (some (p,0)) n f e) ::(1,I a) ::(2,I b) ::(3,I lim) ::(4,cf) ::(10,.bool wb) ::(11,.bool wp) :: l
theorem pe{E l:Env}{p n:Nat}{f:Bool}{e:Nat}{a b:Nat}{lim:Int}{wb wp:Bool}(h:Has E l)(h0:PvL.look E 0=some (.slice (some (p,0)) n f e):=by exact rfl)(h1:PvL.look E 1=some (I a):=by exact rfl)(h2:PvL.look E 2=some (I b):=by exact rfl)(h3:PvL.look E 3=some (I lim):=by exact rfl)(h4:PvL.look E 4=some cf:=by exact rfl)(h5:PvL.look E 10=some (.bool wb):=by exact rfl)(h6:PvL.look E 11=some (.bool wp):=by exact rfl):Has E (PE p n f e a b lim wb wp l) :=
 .cons h0 (.cons h1 (.cons h2 (.cons h3 (.cons h4 (.cons h5 (.cons h6 h))))))
set_option maxHeartbeats 16000000 in
theorem zqs{p n:Nat}{f:Bool}{e:Nat}{ty:TypeId}(hn:n < 250):∀(N:Nat) {M:Mem} {a b:Nat} {lim:Int} {G:Nat->Ky},b - a < N->KT M p n ty G->b<=n->a<=b->Inj n G->Lo a b G->0<=lim /\ lim<=1000 ->
  za Tryz.prog 168 [.slice (some (p,0)) n f e,I a,I b,I lim,cf] M (fun w M'=>∃ G',Sw a b G G' /\ Srt a b G' /\ KT M' p n ty G' /\ Keep (fun i=>i=p) M M'):=by
 intro N
 induction N with
 | zero=>intro M a b lim G h;omega
 | succ N ih =>
 intro M a b lim G hN hA hb hab hij hlo hlim
 refine zd k168 rfl ?_
 dsimp only[x168,zM,zO,zI,zF,zS,zB,zL,zE,zN,zW,zC,zipE,Nat.reduceAdd]
 repeat' first|with_reducible intro _|refine sv ?_|refine sc ?_ ?_<;>(intro h;try exact sz h)|refine sg ?_ ?_<;>(intro h;first|exact sz h|refine sy h ?_)|exact sq|fail
 refine z9 (fun z E ms M'=>∃(a' b':Nat) (lim':Int) (wb wp:Bool) (G':Nat->Ky),z=b' - a' /\ a<=a' /\ a'<=b' /\ b'<=b /\ (0<=lim' /\ lim'<=1000) /\ ms=[] /\ Has E (PE p n f e a' b' lim' wb wp []) /\ Sw a b G G' /\ Out a b a' b' G' /\ Inj n G' /\ Lo a' b' G' /\ KT M' p n ty G' /\ Keep (fun i=>i=p) M M')
  ?_ (b - a) _ _ _ ⟨a,b,lim,true,true,G,rfl,by omega,hab,by omega,hlim,rfl,pe .nil,.refl,Out.start,hij,hlo,hA,Keep.refl _ _⟩
 clear hA hlo hlim hij lim
 rintro z E ms M1 ⟨a',b',lim,wb,wp,G1,rfl,ha1,hab1,hb1,hlim,rfl,hE,hw1,ho1,hij1,hlo1,hA1,hk1⟩
 refine z0d hE ?_
 by_cases hshort:b'<=a' + 12
 ·repeat' first|with_reducible intro _|refine sv ?_|refine sc ?_ ?_<;>(intro h;try exact sz h)|((with_reducible first|apply zq|apply z0b|apply x_call0);exact gd;exact rfl;exact rfl;(first|exact zqr hA1 (show b'<=n by omega) hab1 (by omega)))|refine sg ?_ ?_<;>(intro h;first|exact sz h|refine sy h ?_)|exact sq|fail
  all_goals try(exfalso;omega)
  rename_i hq
  obtain⟨G2,hw2,hs2,hA2,hk2⟩:=hq
  refine kf ?_
  exact⟨G2,hw1.trans (hw2.wider ha1 hb1),(ho1.sw hw2 ha1 hb1).fin hs2,hA2,hk1.trans hk2 (fun i hi=>.inl hi)⟩
 by_cases hl0:lim=0
 ·subst hl0
  repeat' first|with_reducible intro _|refine sv ?_|refine sc ?_ ?_<;>(intro h;try exact sz h)|((with_reducible first|apply zq|apply z0b|apply x_call0);exact gd;exact rfl;exact rfl;(first|exact zos hA1 (show b'<=n by omega) (show a' < b' by omega) (by omega)))|refine sg ?_ ?_<;>(intro h;first|exact sz h|refine sy h ?_)|exact sq|fail
  all_goals try(exfalso;omega)
  rename_i hq
  obtain⟨G2,hw2,hs2,hA2,hk2⟩:=hq
  refine kf ?_
  exact⟨G2,hw1.trans (hw2.wider ha1 hb1),(ho1.sw hw2 ha1 hb1).fin hs2,hA2,hk1.trans hk2 (fun i hi=>.inl hi)⟩
 apply zdt
 apply z6i
 refine z22 (K:=fun x E ms M'=>x=.norm /\ ms=[] /\ Has E (PE p n f e a' b' lim wb wp [(12,I ((b':Int) - a'))]) /\ M'=M1) ?_ ?_
 ·repeat' first|with_reducible intro _|refine sv ?_|refine sc ?_ ?_<;>(intro h;try exact sz h)|refine sg ?_ ?_<;>(intro h;first|exact sz h|refine sy h ?_)|exact sq|fail
  exact⟨rfl,rfl,pe (.cons rfl .nil),rfl⟩
 clear hE
 rintro x E ms M2 ⟨rfl,rfl,hE,rfl⟩
 apply z3p
 refine z0d hE ?_
 apply z6i
 refine z22 (K:=fun x E ms M'=>x=.norm /\ ms=[] /\ Has E (PE p n f e a' b' lim wb wp [(12,I ((b':Int) - a'))]) /\ M'=M2) ?_ ?_
 ·repeat' first|with_reducible intro _|refine sv ?_|refine sc ?_ ?_<;>(intro h;try exact sz h)|refine sg ?_ ?_<;>(intro h;first|exact sz h|refine sy h ?_)|exact sq|fail
  all_goals try(exfalso;omega)
  exact⟨rfl,rfl,pe (.cons rfl .nil),rfl⟩
 clear hE
 rintro x E ms M3 ⟨rfl,rfl,hE,rfl⟩
 apply z3p
 refine z0d hE ?_
 apply z6i
 refine z22 (K:=fun x E ms M'=>x=.norm /\ ms=[] /\ Has E (PE p n f e a' b' lim wb wp [(12,I ((b':Int) - a'))]) /\ M'=M3) ?_ ?_
 ·repeat' first|with_reducible intro _|refine sv ?_|refine sc ?_ ?_<;>(intro h;try exact sz h)|refine sg ?_ ?_<;>(intro h;first|exact sz h|refine sy h ?_)|exact sq|fail
  all_goals try(exfalso;omega)
  exact⟨rfl,rfl,pe (.cons rfl .nil),rfl⟩
 clear hE
 rintro x E ms M4 ⟨rfl,rfl,hE,rfl⟩
 apply z3p
 refine z0d hE ?_
 apply z6i
 refine z22 (K:=fun x E ms M'=>x=.norm /\ ms=[] /\ ∃(lim':Int) (G':Nat->Ky),(0<=lim' /\ lim'<=1000) /\ Has E (PE p n f e a' b' lim' wb wp [(12,I ((b':Int) - a'))]) /\ Sw a' b' G1 G' /\ KT M' p n ty G' /\ Keep (fun i=>i=p) M M') ?_ ?_
 ·cases wb with
  | true =>
   repeat' first|with_reducible intro _|refine sv ?_|refine sc ?_ ?_<;>(intro h;try exact sz h)|refine sg ?_ ?_<;>(intro h;first|exact sz h|refine sy h ?_)|exact sq|fail
   exact⟨rfl,rfl,lim,G1,hlim,pe (.cons rfl .nil),.refl,hA1,hk1⟩
  | false =>
   repeat' first|with_reducible intro _|refine sv ?_|refine sc ?_ ?_<;>(intro h;try exact sz h)|((with_reducible first|apply zq|apply z0b|apply x_call0);exact gd;exact rfl;exact rfl;(first|exact zmm hA1 (show b'<=n by omega) (show a' + 8<=b' by omega) hn))|refine sg ?_ ?_<;>(intro h;first|exact sz h|refine sy h ?_)|exact sq|fail
   rename_i hq
   obtain⟨G2,hw2,hA2,hk2⟩:=hq
   repeat' first|with_reducible intro _|refine sv ?_|refine sc ?_ ?_<;>(intro h;try exact sz h)|refine sg ?_ ?_<;>(intro h;first|exact sz h|refine sy h ?_)|exact sq|fail
   exact⟨rfl,rfl,lim - 1,G2,by omega,pe (.cons rfl .nil),hw2,hA2,hk1.trans hk2 (fun i hi=>.inl hi)⟩
 clear hE hlim
 rintro x E ms M5 ⟨rfl,rfl,lim2,G2,hlim,hE,hw2,hA2,hk2⟩
 have ho2:=ho1.sw hw2 ha1 hb1
 have hij2:=hw2.inj (show b'<=n by omega) hij1
 have hlo2:=hlo1.sw hw2 (Nat.le_refl _) (Nat.le_refl _)
 have hw3:=hw1.trans (hw2.wider ha1 hb1)
 clear hw1 ho1 hij1 hlo1 hA1 hk1 hl0 lim hw2 G1
 apply z3p
 refine z0d hE ?_
 apply z6i
 refine z22 (K:=fun x E ms M'=>x=.norm /\ ms=[] /\ ∃(x:Nat) (h:Int),a'<=x /\ x < b' /\ Has E (PE p n f e a' b' lim2 wb wp [(12,I ((b':Int) - a')),(13,I x),(14,I h)]) /\ KT M' p n ty G2 /\ Keep (fun i=>i=p) M M') ?_ ?_
 ·repeat' first|with_reducible intro _|refine sv ?_|refine sc ?_ ?_<;>(intro h;try exact sz h)|((with_reducible first|apply zq|apply z0b|apply x_call0);exact gd;exact rfl;exact rfl;(first|exact zjd hA2 (show b'<=n by omega) (show a' + 8<=b' by omega) (by omega)))|refine sg ?_ ?_<;>(intro h;first|exact sz h|refine sy h ?_)|exact sq|fail
  rename_i hq
  obtain⟨x,h,rfl,hx1,hx2,hg⟩:=hq
  repeat' first|with_reducible intro _|refine sv ?_|refine sc ?_ ?_<;>(intro h;try exact sz h)|refine sg ?_ ?_<;>(intro h;first|exact sz h|refine sy h ?_)|exact sq|fail
  exact⟨rfl,rfl,x,h,hx1,hx2,pe (.cons rfl (.cons rfl (.cons rfl .nil))),hA2.grow hg,xk⟩
 clear hE hA2 hk2
 rintro x E ms M6 ⟨rfl,rfl,x,hh,hx1,hx2,hE,hA2,hk2⟩
 apply z3p
 refine z0d hE ?_
 apply z6i
 refine z22 (K:=fun x E ms M'=>x=.norm /\ ms=[] /\ ∃(x:Nat) (h:Int) (G':Nat->Ky),a'<=x /\ x < b' /\ Has E (PE p n f e a' b' lim2 wb wp [(12,I ((b':Int) - a')),(13,I x),(14,I h)]) /\ Sw a' b' G2 G' /\ KT M' p n ty G' /\ Keep (fun i=>i=p) M M') ?_ ?_
 ·repeat' first|with_reducible intro _|refine sv ?_|refine sc ?_ ?_<;>(intro h;try exact sz h)|((with_reducible first|apply zq|apply z0b|apply x_call0);exact gd;exact rfl;exact rfl;(first|exact zgr hA2 (show b'<=n by omega) (show a' < b' by omega) (by omega)))|refine sg ?_ ?_<;>(intro h;first|exact sz h|refine sy h ?_)|exact sq|fail
  ·rename_i hq
   obtain⟨G3,hw4,hA3,hk3⟩:=hq
   repeat' first|with_reducible intro _|refine sv ?_|refine sc ?_ ?_<;>(intro h;try exact sz h)|refine sg ?_ ?_<;>(intro h;first|exact sz h|refine sy h ?_)|exact sq|fail
   refine⟨rfl,rfl,b' - 1 - (x - a'),1,G3,by omega,by omega,pe (.cons rfl (.cons ?_ (.cons rfl .nil))),hw4,hA3,hk2.trans hk3 (fun i hi=>.inl hi)⟩
   show some (I _)=some (I _)
   rw[show((b' - 1 - (x - a'):Nat):Int)=(b':Int) - 1 - ((x:Int) - a') by omega]
  ·exact⟨rfl,rfl,x,hh,G2,hx1,hx2,pe (.cons rfl (.cons rfl (.cons rfl .nil))),.refl,hA2,hk2⟩
 clear hE hA2 hk2 hx1 hx2 x hh
 rintro x E ms M7 ⟨rfl,rfl,x,hh,G3,hx1,hx2,hE,hw4,hA2,hk2⟩
 have ho3:=ho2.sw hw4 ha1 hb1
 have hij3:=hw4.inj (show b'<=n by omega) hij2
 have hlo3:=hlo2.sw hw4 (Nat.le_refl _) (Nat.le_refl _)
 have hw5:=hw3.trans (hw4.wider ha1 hb1)
 clear hw3 ho2 hij2 hlo2 hw4 G2
 apply z3p
 refine z0d hE ?_
 apply z6i
 refine z22 (K:=fun x' E ms M'=>ms=[] /\ ((x'=.norm /\ ∃(G':Nat->Ky),Has E (PE p n f e a' b' lim2 wb wp [(12,I ((b':Int) - a')),(13,I x)]) /\ Sw a' b' G3 G' /\ KT M' p n ty G' /\ Keep (fun i=>i=p) M M') ∨(x'=.ret /\ ∃(G':Nat->Ky),Sw a' b' G3 G' /\ Srt a' b' G' /\ KT M' p n ty G' /\ Keep (fun i=>i=p) M M'))) ?_ ?_
 ·cases wb with
  | false =>
   repeat' first|with_reducible intro _|refine sv ?_|refine sc ?_ ?_<;>(intro h;try exact sz h)|refine sg ?_ ?_<;>(intro h;first|exact sz h|refine sy h ?_)|exact sq|fail
   exact⟨rfl,.inl ⟨rfl,G3,pe (.cons rfl (.cons rfl .nil)),.refl,hA2,hk2⟩⟩
  | true =>
  cases wp with
  | false =>
   repeat' first|with_reducible intro _|refine sv ?_|refine sc ?_ ?_<;>(intro h;try exact sz h)|refine sg ?_ ?_<;>(intro h;first|exact sz h|refine sy h ?_)|exact sq|fail
   exact⟨rfl,.inl ⟨rfl,G3,pe (.cons rfl (.cons rfl .nil)),.refl,hA2,hk2⟩⟩
  | true =>
   repeat' first|with_reducible intro _|refine sv ?_|refine sc ?_ ?_<;>(intro h;try exact sz h)|((with_reducible first|apply zq|apply z0b|apply x_call0);exact gd;exact rfl;exact rfl;(first|exact zqt hA2 (show b'<=n by omega) (show a' < b' by omega) (by omega) hlo3))|refine sg ?_ ?_<;>(intro h;first|exact sz h|refine sy h ?_)|exact sq|fail
   ·rename_i hq
    obtain⟨q,G4,rfl,hsq,hw6,hA4,hk4⟩:=hq
    cases q with
    | true =>
     repeat' first|with_reducible intro _|refine sv ?_|refine sc ?_ ?_<;>(intro h;try exact sz h)|refine sg ?_ ?_<;>(intro h;first|exact sz h|refine sy h ?_)|exact sq|fail
     exact⟨rfl,.inr ⟨rfl,G4,hw6,hsq rfl,hA4,hk2.trans hk4 (fun i hi=>.inl hi)⟩⟩
    | false =>
     repeat' first|with_reducible intro _|refine sv ?_|refine sc ?_ ?_<;>(intro h;try exact sz h)|refine sg ?_ ?_<;>(intro h;first|exact sz h|refine sy h ?_)|exact sq|fail
     exact⟨rfl,.inl ⟨rfl,G4,pe (.cons rfl (.cons rfl .nil)),hw6,hA4,hk2.trans hk4 (fun i hi=>.inl hi)⟩⟩
   ·exact⟨rfl,.inl ⟨rfl,G3,pe (.cons rfl (.cons rfl .nil)),.refl,hA2,hk2⟩⟩
 clear hE hA2 hk2
 rintro z E ms M8 ⟨rfl,⟨rfl,G4,hE,hw6,hA4,hk4⟩|⟨rfl,G4,hw6,hs6,hA4,hk4⟩⟩
 case inr =>
  repeat' first|with_reducible intro _|refine sv ?_|refine sc ?_ ?_<;>(intro h;try exact sz h)|refine sg ?_ ?_<;>(intro h;first|exact sz h|refine sy h ?_)|exact sq|fail
  refine kf ?_
  exact⟨G4,hw5.trans (hw6.wider ha1 hb1),(ho3.sw hw6 ha1 hb1).fin hs6,hA4,hk4⟩
 have ho4:=ho3.sw hw6 ha1 hb1
 have hij4:=hw6.inj (show b'<=n by omega) hij3
 have hlo4:=hlo3.sw hw6 (Nat.le_refl _) (Nat.le_refl _)
 have hw7:=hw5.trans (hw6.wider ha1 hb1)
 clear hw5 ho3 hij3 hlo3 hw6 G3
 apply z3p
 refine z0d hE ?_
 apply z6i
 refine z22 (K:=fun x' E ms M'=>x'=.norm /\ ms=[] /\ Has E (PE p n f e a' b' lim2 wb wp [(12,I ((b':Int) - a')),(13,I x)]) /\ KT M' p n ty G4 /\ Keep (fun i=>i=p) M M') ?_ ?_
 ·by_cases ha0:a'=0
  ·subst ha0
   repeat' first|with_reducible intro _|refine sv ?_|refine sc ?_ ?_<;>(intro h;try exact sz h)|refine sg ?_ ?_<;>(intro h;first|exact sz h|refine sy h ?_)|exact sq|fail
   all_goals try(exfalso;omega)
   exact⟨rfl,rfl,pe (.cons rfl (.cons rfl .nil)),hA4,hk4⟩
  obtain⟨a2,rfl⟩:∃ a2,a'=a2+1:=⟨a' - 1,by omega⟩
  have hz:(((a2+1:Nat):Int) - 1).toNat=a2:=by omega
  have hr1:=z0n hA4 (show x < n by omega)
  have hr2:=z0n hA4 (show a2 < n by omega)
  have hr3:Rd M8 p (0+(((a2+1:Nat):Int) - 1).toNat*2) 2 [I (G4 a2).1,I (G4 a2).2]:=by rw[hz];exact hr2
  have co:=fun M'=>z1o (G4 a2).1 (G4 a2).2 (G4 x).1 (G4 x).2 M'
  have hlt9:=(z0i (G4 a2) (G4 x)).2 ((hlo4.resolve_left ha0) x hx1 hx2)
  have hlt8:cmpK ((G4 a2).1,(G4 a2).2) ((G4 x).1,(G4 x).2) < 0:=hlt9
  (have hrd0:=hr1;have hrd1:=hr3;repeat' (first|(with_reducible intro _)|refine sv ?_|(refine sc ?_ ?_<;>(intro h;try exact sz h))|((with_reducible first|apply z1m|apply z1p|apply d_pure0);exact gd;exact rfl;exact rfl;(first|exact co _))|refine sg ?_ ?_<;>(intro h;first|exact sz h|refine sy h ?_)|exact sq|fail))
  all_goals try(exfalso;omega)
  rename_i M9 hg9 q9
  exact⟨rfl,rfl,pe (.cons rfl (.cons rfl .nil)),hA4.grow hg9,xk⟩
 clear hE hA4 hk4
 rintro z E ms M9 ⟨rfl,rfl,hE,hA4,hk4⟩
 apply z3p
 refine z0d hE ?_
 repeat' first|with_reducible intro _|refine sv ?_|refine sc ?_ ?_<;>(intro h;try exact sz h)|((with_reducible first|apply zq|apply z0b|apply x_call0);exact gd;exact rfl;exact rfl;(first|exact zov hA4 (show b'<=n by omega) hx1 hx2 (by omega)))|refine sg ?_ ?_<;>(intro h;first|exact sz h|refine sy h ?_)|exact sq|fail
 rename_i hq
 obtain⟨m,q,G5,rfl,hp5,hw8,hA5,hk5⟩:=hq
 have hm1:=hp5.1
 have hm2:=hp5.2.1
 have ho5:=ho4.sw hw8 ha1 hb1
 have hij5:=hw8.inj (show b'<=n by omega) hij4
 have hlo5:=hlo4.sw hw8 (Nat.le_refl _) (Nat.le_refl _)
 have hw9:=hw7.trans (hw8.wider ha1 hb1)
 have hk6:Keep (fun i=>i=p) M _:=hk4.trans hk5 (fun i hi=>.inl hi)
 clear hw7 ho4 hij4 hlo4 hw8 hA4 hk4 hk5 hE
 repeat' first|with_reducible intro _|refine sv ?_|refine sc ?_ ?_<;>(intro h;try exact sz h)|((with_reducible first|apply zq|apply z0b|apply x_call0);exact gd;exact rfl;exact rfl;(first|exact ih (b:=m) (by omega) hA5 (by omega) hm1 hij5 (hlo5.sub (Nat.le_of_lt hm2)) hlim|exact ih (a:=m+1) (by omega) hA5 (show b'<=n by omega) (by omega) hij5 (hp5.lo hij5 (by omega)) hlim))|refine sg ?_ ?_<;>(intro h;first|exact sz h|refine sy h ?_)|exact sq|fail
 ·rename_i hq
  obtain⟨G6,hw10,hs10,hA6,hk7⟩:=hq
  have hij6:=hw10.inj (show m<=n by omega) hij5
  have hp6:=hp5.sw hw10 (.inl ⟨Nat.le_refl _,Nat.le_refl _⟩)
  refine zj (b' - (m+1)) (by omega) ⟨m+1,b',lim2,_,_,G6,rfl,by omega,by omega,hb1,hlim,rfl,pe .nil (h1:=?_),hw9.trans (hw10.wider ha1 (by omega)),ho5.left hp5 hw10 hs10 ha1 hb1,hij6,hp6.lo hij6 (by omega),hA6,hk6.trans hk7 (fun i hi=>.inl hi)⟩
  show some (I _)=some (I _)
  rw[show((m+1:Nat):Int)=(m:Int)+1 by omega]
 ·rename_i hq
  obtain⟨G6,hw10,hs10,hA6,hk7⟩:=hq
  have hij6:=hw10.inj (show b'<=n by omega) hij5
  refine zj (m - a') (by omega) ⟨a',m,lim2,_,_,G6,rfl,ha1,hm1,by omega,hlim,rfl,pe .nil,hw9.trans (hw10.wider (by omega) hb1),ho5.right hp5 hw10 hs10 ha1 hb1,hij6,(hlo5.sw (hw10.wider (by omega) (Nat.le_refl _)) (Nat.le_refl _) (Nat.le_refl _)).sub (by omega),hA6,hk6.trans hk7 (fun i hi=>.inl hi)⟩
