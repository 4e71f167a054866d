/-
 Part of the proof of TapeMended. No condition beyond those in each theorem.
-/
import Derived.Test.YtbfnnllgdioccaaGreatDoorSC
import Derived.Test.YtbfnnllgdioccaaGreatDoorSB
import Derived.Test.YtbfnnllgdioccaaGreatDoorSA
section
open Go PvL Go.Proofs
set_option linter.unusedSimpArgs false
set_option linter.unusedVariables false
namespace Go.Proofs.YtbfnnllgdioccaaGreatDoor.C
abbrev PE(p n:Nat)(f:Bool)(e:Nat)(a b:Nat)(lim:Int)(wb wp:Bool)(l:Env):Env:=(0,.slice (some (p,0)) n f e) ::(1,I a) ::(2,I b) ::(3,I lim) ::(4,cf) ::(10,.bool wb) ::(11,.bool wp) :: l
theorem pe{E l:Env}{p n:Nat}{f:Bool}{e:Nat}{a b:Nat}{lim:Int}{wb wp:Bool}(h:Has E l)(h0:PvL.look E 0=some (.slice (some (p,0)) n f e):=by exact rfl)(h1:PvL.look E 1=some (I a):=by exact rfl)(h2:PvL.look E 2=some (I b):=by exact rfl)(h3:PvL.look E 3=some (I lim):=by exact rfl)(h4:PvL.look E 4=some cf:=by exact rfl)(h5:PvL.look E 10=some (.bool wb):=by exact rfl)(h6:PvL.look E 11=some (.bool wp):=by exact rfl):Has E (PE p n f e a b lim wb wp l) :=
 .cons h0 (.cons h1 (.cons h2 (.cons h3 (.cons h4 (.cons h5 (.cons h6 h))))))
set_option maxHeartbeats 16000000 in
theorem zr8{p n:Nat}{f:Bool}{e:Nat}{ty:TypeId}(hn:n < 250):∀(N:Nat) {M:Mem} {a b:Nat} {lim:Int} {G:Nat->Ky},b - a < N->KT M p n ty G->b<=n->a<=b->Inj n G->Lo a b G->0<=lim /\ lim<=1000 ->
  za Tryz.prog 168 [.slice (some (p,0)) n f e,I a,I b,I lim,cf] M (fun w M'=>∃ G',Sw a b G G' /\ Srt a b G' /\ KT M' p n ty G' /\ Keep (fun i=>i=p) M M'):=by
 intro N
 induction N with
 | zero=>intro M a b lim G h;omega
 | succ N ih =>
 intro M a b lim G hN hA hb hab hij hlo hlim
 refine zc k168 rfl ?_
 dsimp only[x168,zM,zO,zI,zF,zS,zB,zL,zE,zN,zW,zC,zipE,Nat.reduceAdd]
 repeat' first|with_reducible intro _|refine sv ?_|refine sc ?_ ?_<;>(intro h;try exact sz h)|refine sg ?_ ?_<;>(intro h;first|exact sz h|refine sy h ?_)|exact sq|fail
 refine z9 (fun z E ms M'=>∃(a' b':Nat) (lim':Int) (wb wp:Bool) (G':Nat->Ky),z=b' - a' /\ a<=a' /\ a'<=b' /\ b'<=b /\ (0<=lim' /\ lim'<=1000) /\ ms=[] /\ Has E (PE p n f e a' b' lim' wb wp []) /\ Sw a b G G' /\ Out a b a' b' G' /\ Inj n G' /\ Lo a' b' G' /\ KT M' p n ty G' /\ Keep (fun i=>i=p) M M')
  ?_ (b - a) _ _ _ ⟨a,b,lim,true,true,G,rfl,by omega,hab,by omega,hlim,rfl,pe .nil,.refl,Out.start,hij,hlo,hA,Keep.refl _ _⟩
 clear hA hlo hlim hij lim
 rintro z E ms M1 ⟨a',b',lim,wb,wp,G1,rfl,ha1,hab1,hb1,hlim,rfl,hE,hw1,ho1,hij1,hlo1,hA1,hk1⟩
 refine z0b hE ?_
 by_cases hshort:b'<=a' + 12
 ·repeat' first|with_reducible intro _|refine sv ?_|refine sc ?_ ?_<;>(intro h;try exact sz h)|((with_reducible first|apply zu|apply z0f|apply x_call0);exact gd;exact rfl;exact rfl;(first|exact zr7 hA1 (show b'<=n by omega) hab1 (by omega)))|refine sg ?_ ?_<;>(intro h;first|exact sz h|refine sy h ?_)|exact sq|fail
  all_goals try(exfalso;omega)
  rename_i hq
  obtain⟨G2,hw2,hs2,hA2,hk2⟩:=hq
  refine kf ?_
  exact⟨G2,hw1.trans (hw2.wider ha1 hb1),(ho1.sw hw2 ha1 hb1).fin hs2,hA2,hk1.trans hk2 (fun i hi=>.inl hi)⟩
 by_cases hl0:lim=0
 ·subst hl0
  repeat' first|with_reducible intro _|refine sv ?_|refine sc ?_ ?_<;>(intro h;try exact sz h)|((with_reducible first|apply zu|apply z0f|apply x_call0);exact gd;exact rfl;exact rfl;(first|exact zp6 hA1 (show b'<=n by omega) (show a' < b' by omega) (by omega)))|refine sg ?_ ?_<;>(intro h;first|exact sz h|refine sy h ?_)|exact sq|fail
  all_goals try(exfalso;omega)
  rename_i hq
  obtain⟨G2,hw2,hs2,hA2,hk2⟩:=hq
  refine kf ?_
  exact⟨G2,hw1.trans (hw2.wider ha1 hb1),(ho1.sw hw2 ha1 hb1).fin hs2,hA2,hk1.trans hk2 (fun i hi=>.inl hi)⟩
 apply ze0
 apply z6g
 refine z23 (K:=fun x E ms M'=>x=.norm /\ ms=[] /\ Has E (PE p n f e a' b' lim wb wp [(12,I ((b':Int) - a'))]) /\ M'=M1) ?_ ?_
 ·repeat' first|with_reducible intro _|refine sv ?_|refine sc ?_ ?_<;>(intro h;try exact sz h)|refine sg ?_ ?_<;>(intro h;first|exact sz h|refine sy h ?_)|exact sq|fail
  exact⟨rfl,rfl,pe (.cons rfl .nil),rfl⟩
 clear hE
 rintro x E ms M2 ⟨rfl,rfl,hE,rfl⟩
 apply z3m
 refine z0b hE ?_
 apply z6g
 refine z23 (K:=fun x E ms M'=>x=.norm /\ ms=[] /\ Has E (PE p n f e a' b' lim wb wp [(12,I ((b':Int) - a'))]) /\ M'=M2) ?_ ?_
 ·repeat' first|with_reducible intro _|refine sv ?_|refine sc ?_ ?_<;>(intro h;try exact sz h)|refine sg ?_ ?_<;>(intro h;first|exact sz h|refine sy h ?_)|exact sq|fail
  all_goals try(exfalso;omega)
  exact⟨rfl,rfl,pe (.cons rfl .nil),rfl⟩
 clear hE
 rintro x E ms M3 ⟨rfl,rfl,hE,rfl⟩
 apply z3m
 refine z0b hE ?_
 apply z6g
 refine z23 (K:=fun x E ms M'=>x=.norm /\ ms=[] /\ Has E (PE p n f e a' b' lim wb wp [(12,I ((b':Int) - a'))]) /\ M'=M3) ?_ ?_
 ·repeat' first|with_reducible intro _|refine sv ?_|refine sc ?_ ?_<;>(intro h;try exact sz h)|refine sg ?_ ?_<;>(intro h;first|exact sz h|refine sy h ?_)|exact sq|fail
  all_goals try(exfalso;omega)
  exact⟨rfl,rfl,pe (.cons rfl .nil),rfl⟩
 clear hE
 rintro x E ms M4 ⟨rfl,rfl,hE,rfl⟩
 apply z3m
 refine z0b hE ?_
 apply z6g
 refine z23 (K:=fun x E ms M'=>x=.norm /\ ms=[] /\ ∃(lim':Int) (G':Nat->Ky),(0<=lim' /\ lim'<=1000) /\ Has E (PE p n f e a' b' lim' wb wp [(12,I ((b':Int) - a'))]) /\ Sw a' b' G1 G' /\ KT M' p n ty G' /\ Keep (fun i=>i=p) M M') ?_ ?_
 ·cases wb with
  | true =>
   repeat' first|with_reducible intro _|refine sv ?_|refine sc ?_ ?_<;>(intro h;try exact sz h)|refine sg ?_ ?_<;>(intro h;first|exact sz h|refine sy h ?_)|exact sq|fail
   exact⟨rfl,rfl,lim,G1,hlim,pe (.cons rfl .nil),.refl,hA1,hk1⟩
  | false =>
   repeat' first|with_reducible intro _|refine sv ?_|refine sc ?_ ?_<;>(intro h;try exact sz h)|((with_reducible first|apply zu|apply z0f|apply x_call0);exact gd;exact rfl;exact rfl;(first|exact zmz hA1 (show b'<=n by omega) (show a' + 8<=b' by omega) hn))|refine sg ?_ ?_<;>(intro h;first|exact sz h|refine sy h ?_)|exact sq|fail
   rename_i hq
   obtain⟨G2,hw2,hA2,hk2⟩:=hq
   repeat' first|with_reducible intro _|refine sv ?_|refine sc ?_ ?_<;>(intro h;try exact sz h)|refine sg ?_ ?_<;>(intro h;first|exact sz h|refine sy h ?_)|exact sq|fail
   exact⟨rfl,rfl,lim - 1,G2,by omega,pe (.cons rfl .nil),hw2,hA2,hk1.trans hk2 (fun i hi=>.inl hi)⟩
 clear hE hlim
 rintro x E ms M5 ⟨rfl,rfl,lim2,G2,hlim,hE,hw2,hA2,hk2⟩
 have ho2:=ho1.sw hw2 ha1 hb1
 have hij2:=hw2.inj (show b'<=n by omega) hij1
 have hlo2:=hlo1.sw hw2 (Nat.le_refl _) (Nat.le_refl _)
 have hw3:=hw1.trans (hw2.wider ha1 hb1)
 clear hw1 ho1 hij1 hlo1 hA1 hk1 hl0 lim hw2 G1
 apply z3m
 refine z0b hE ?_
 apply z6g
 refine z23 (K:=fun x E ms M'=>x=.norm /\ ms=[] /\ ∃(x:Nat) (h:Int),a'<=x /\ x < b' /\ Has E (PE p n f e a' b' lim2 wb wp [(12,I ((b':Int) - a')),(13,I x),(14,I h)]) /\ KT M' p n ty G2 /\ Keep (fun i=>i=p) M M') ?_ ?_
 ·repeat' first|with_reducible intro _|refine sv ?_|refine sc ?_ ?_<;>(intro h;try exact sz h)|((with_reducible first|apply zu|apply z0f|apply x_call0);exact gd;exact rfl;exact rfl;(first|exact zjt hA2 (show b'<=n by omega) (show a' + 8<=b' by omega) (by omega)))|refine sg ?_ ?_<;>(intro h;first|exact sz h|refine sy h ?_)|exact sq|fail
  rename_i hq
  obtain⟨x,h,rfl,hx1,hx2,hg⟩:=hq
  repeat' first|with_reducible intro _|refine sv ?_|refine sc ?_ ?_<;>(intro h;try exact sz h)|refine sg ?_ ?_<;>(intro h;first|exact sz h|refine sy h ?_)|exact sq|fail
  exact⟨rfl,rfl,x,h,hx1,hx2,pe (.cons rfl (.cons rfl (.cons rfl .nil))),hA2.grow hg,xk⟩
 clear hE hA2 hk2
 rintro x E ms M6 ⟨rfl,rfl,x,hh,hx1,hx2,hE,hA2,hk2⟩
 apply z3m
 refine z0b hE ?_
 apply z6g
 refine z23 (K:=fun x E ms M'=>x=.norm /\ ms=[] /\ ∃(x:Nat) (h:Int) (G':Nat->Ky),a'<=x /\ x < b' /\ Has E (PE p n f e a' b' lim2 wb wp [(12,I ((b':Int) - a')),(13,I x),(14,I h)]) /\ Sw a' b' G2 G' /\ KT M' p n ty G' /\ Keep (fun i=>i=p) M M') ?_ ?_
 ·repeat' first|with_reducible intro _|refine sv ?_|refine sc ?_ ?_<;>(intro h;try exact sz h)|((with_reducible first|apply zu|apply z0f|apply x_call0);exact gd;exact rfl;exact rfl;(first|exact zh3 hA2 (show b'<=n by omega) (show a' < b' by omega) (by omega)))|refine sg ?_ ?_<;>(intro h;first|exact sz h|refine sy h ?_)|exact sq|fail
  ·rename_i hq
   obtain⟨G3,hw4,hA3,hk3⟩:=hq
   repeat' first|with_reducible intro _|refine sv ?_|refine sc ?_ ?_<;>(intro h;try exact sz h)|refine sg ?_ ?_<;>(intro h;first|exact sz h|refine sy h ?_)|exact sq|fail
   refine⟨rfl,rfl,b' - 1 - (x - a'),1,G3,by omega,by omega,pe (.cons rfl (.cons ?_ (.cons rfl .nil))),hw4,hA3,hk2.trans hk3 (fun i hi=>.inl hi)⟩
   show some (I _)=some (I _)
   rw[show((b' - 1 - (x - a'):Nat):Int)=(b':Int) - 1 - ((x:Int) - a') by omega]
  ·exact⟨rfl,rfl,x,hh,G2,hx1,hx2,pe (.cons rfl (.cons rfl (.cons rfl .nil))),.refl,hA2,hk2⟩
 clear hE hA2 hk2 hx1 hx2 x hh
 rintro x E ms M7 ⟨rfl,rfl,x,hh,G3,hx1,hx2,hE,hw4,hA2,hk2⟩
 have ho3:=ho2.sw hw4 ha1 hb1
 have hij3:=hw4.inj (show b'<=n by omega) hij2
 have hlo3:=hlo2.sw hw4 (Nat.le_refl _) (Nat.le_refl _)
 have hw5:=hw3.trans (hw4.wider ha1 hb1)
 clear hw3 ho2 hij2 hlo2 hw4 G2
 apply z3m
 refine z0b hE ?_
 apply z6g
 refine z23 (K:=fun x' E ms M'=>ms=[] /\ ((x'=.norm /\ ∃(G':Nat->Ky),Has E (PE p n f e a' b' lim2 wb wp [(12,I ((b':Int) - a')),(13,I x)]) /\ Sw a' b' G3 G' /\ KT M' p n ty G' /\ Keep (fun i=>i=p) M M') ∨(x'=.ret /\ ∃(G':Nat->Ky),Sw a' b' G3 G' /\ Srt a' b' G' /\ KT M' p n ty G' /\ Keep (fun i=>i=p) M M'))) ?_ ?_
 ·cases wb with
  | false =>
   repeat' first|with_reducible intro _|refine sv ?_|refine sc ?_ ?_<;>(intro h;try exact sz h)|refine sg ?_ ?_<;>(intro h;first|exact sz h|refine sy h ?_)|exact sq|fail
   exact⟨rfl,.inl ⟨rfl,G3,pe (.cons rfl (.cons rfl .nil)),.refl,hA2,hk2⟩⟩
  | true =>
  cases wp with
  | false =>
   repeat' first|with_reducible intro _|refine sv ?_|refine sc ?_ ?_<;>(intro h;try exact sz h)|refine sg ?_ ?_<;>(intro h;first|exact sz h|refine sy h ?_)|exact sq|fail
   exact⟨rfl,.inl ⟨rfl,G3,pe (.cons rfl (.cons rfl .nil)),.refl,hA2,hk2⟩⟩
  | true =>
   repeat' first|with_reducible intro _|refine sv ?_|refine sc ?_ ?_<;>(intro h;try exact sz h)|((with_reducible first|apply zu|apply z0f|apply x_call0);exact gd;exact rfl;exact rfl;(first|exact zr9 hA2 (show b'<=n by omega) (show a' < b' by omega) (by omega) hlo3))|refine sg ?_ ?_<;>(intro h;first|exact sz h|refine sy h ?_)|exact sq|fail
   ·rename_i hq
    obtain⟨q,G4,rfl,hsq,hw6,hA4,hk4⟩:=hq
    cases q with
    | true =>
     repeat' first|with_reducible intro _|refine sv ?_|refine sc ?_ ?_<;>(intro h;try exact sz h)|refine sg ?_ ?_<;>(intro h;first|exact sz h|refine sy h ?_)|exact sq|fail
     exact⟨rfl,.inr ⟨rfl,G4,hw6,hsq rfl,hA4,hk2.trans hk4 (fun i hi=>.inl hi)⟩⟩
    | false =>
     repeat' first|with_reducible intro _|refine sv ?_|refine sc ?_ ?_<;>(intro h;try exact sz h)|refine sg ?_ ?_<;>(intro h;first|exact sz h|refine sy h ?_)|exact sq|fail
     exact⟨rfl,.inl ⟨rfl,G4,pe (.cons rfl (.cons rfl .nil)),hw6,hA4,hk2.trans hk4 (fun i hi=>.inl hi)⟩⟩
   ·exact⟨rfl,.inl ⟨rfl,G3,pe (.cons rfl (.cons rfl .nil)),.refl,hA2,hk2⟩⟩
 clear hE hA2 hk2
 rintro z E ms M8 ⟨rfl,⟨rfl,G4,hE,hw6,hA4,hk4⟩|⟨rfl,G4,hw6,hs6,hA4,hk4⟩⟩
 case inr =>
  repeat' first|with_reducible intro _|refine sv ?_|refine sc ?_ ?_<;>(intro h;try exact sz h)|refine sg ?_ ?_<;>(intro h;first|exact sz h|refine sy h ?_)|exact sq|fail
  refine kf ?_
  exact⟨G4,hw5.trans (hw6.wider ha1 hb1),(ho3.sw hw6 ha1 hb1).fin hs6,hA4,hk4⟩
 have ho4:=ho3.sw hw6 ha1 hb1
 have hij4:=hw6.inj (show b'<=n by omega) hij3
 have hlo4:=hlo3.sw hw6 (Nat.le_refl _) (Nat.le_refl _)
 have hw7:=hw5.trans (hw6.wider ha1 hb1)
 clear hw5 ho3 hij3 hlo3 hw6 G3
 apply z3m
 refine z0b hE ?_
 apply z6g
 refine z23 (K:=fun x' E ms M'=>x'=.norm /\ ms=[] /\ Has E (PE p n f e a' b' lim2 wb wp [(12,I ((b':Int) - a')),(13,I x)]) /\ KT M' p n ty G4 /\ Keep (fun i=>i=p) M M') ?_ ?_
 ·by_cases ha0:a'=0
  ·subst ha0
   repeat' first|with_reducible intro _|refine sv ?_|refine sc ?_ ?_<;>(intro h;try exact sz h)|refine sg ?_ ?_<;>(intro h;first|exact sz h|refine sy h ?_)|exact sq|fail
   all_goals try(exfalso;omega)
   exact⟨rfl,rfl,pe (.cons rfl (.cons rfl .nil)),hA4,hk4⟩
  obtain⟨a2,rfl⟩:∃ a2,a'=a2+1:=⟨a' - 1,by omega⟩
  have hz:(((a2+1:Nat):Int) - 1).toNat=a2:=by omega
  have hr1:=z0p hA4 (show x < n by omega)
  have hr2:=z0p hA4 (show a2 < n by omega)
  have hr3:Rd M8 p (0+(((a2+1:Nat):Int) - 1).toNat*2) 2 [I (G4 a2).1,I (G4 a2).2]:=by rw[hz];exact hr2
  have co:=fun M'=>z1l (G4 a2).1 (G4 a2).2 (G4 x).1 (G4 x).2 M'
  have hlt9:=(z0k (G4 a2) (G4 x)).2 ((hlo4.resolve_left ha0) x hx1 hx2)
  have hlt8:cmpK ((G4 a2).1,(G4 a2).2) ((G4 x).1,(G4 x).2) < 0:=hlt9
  (have hrd0:=hr1;have hrd1:=hr3;repeat' (first|(with_reducible intro _)|refine sv ?_|(refine sc ?_ ?_<;>(intro h;try exact sz h))|((with_reducible first|apply z13|apply z14|apply d_pure0);exact gd;exact rfl;exact rfl;(first|exact co _))|refine sg ?_ ?_<;>(intro h;first|exact sz h|refine sy h ?_)|exact sq|fail))
  all_goals try(exfalso;omega)
  rename_i M9 hg9 q9
  exact⟨rfl,rfl,pe (.cons rfl (.cons rfl .nil)),hA4.grow hg9,xk⟩
 clear hE hA4 hk4
 rintro z E ms M9 ⟨rfl,rfl,hE,hA4,hk4⟩
 apply z3m
 refine z0b hE ?_
 repeat' first|with_reducible intro _|refine sv ?_|refine sc ?_ ?_<;>(intro h;try exact sz h)|((with_reducible first|apply zu|apply z0f|apply x_call0);exact gd;exact rfl;exact rfl;(first|exact zpa hA4 (show b'<=n by omega) hx1 hx2 (by omega)))|refine sg ?_ ?_<;>(intro h;first|exact sz h|refine sy h ?_)|exact sq|fail
 rename_i hq
 obtain⟨m,q,G5,rfl,hp5,hw8,hA5,hk5⟩:=hq
 have hm1:=hp5.1
 have hm2:=hp5.2.1
 have ho5:=ho4.sw hw8 ha1 hb1
 have hij5:=hw8.inj (show b'<=n by omega) hij4
 have hlo5:=hlo4.sw hw8 (Nat.le_refl _) (Nat.le_refl _)
 have hw9:=hw7.trans (hw8.wider ha1 hb1)
 have hk6:Keep (fun i=>i=p) M _:=hk4.trans hk5 (fun i hi=>.inl hi)
 clear hw7 ho4 hij4 hlo4 hw8 hA4 hk4 hk5 hE
 repeat' first|with_reducible intro _|refine sv ?_|refine sc ?_ ?_<;>(intro h;try exact sz h)|((with_reducible first|apply zu|apply z0f|apply x_call0);exact gd;exact rfl;exact rfl;(first|exact ih (b:=m) (by omega) hA5 (by omega) hm1 hij5 (hlo5.sub (Nat.le_of_lt hm2)) hlim|exact ih (a:=m+1) (by omega) hA5 (show b'<=n by omega) (by omega) hij5 (hp5.lo hij5 (by omega)) hlim))|refine sg ?_ ?_<;>(intro h;first|exact sz h|refine sy h ?_)|exact sq|fail
 ·rename_i hq
  obtain⟨G6,hw10,hs10,hA6,hk7⟩:=hq
  have hij6:=hw10.inj (show m<=n by omega) hij5
  have hp6:=hp5.sw hw10 (.inl ⟨Nat.le_refl _,Nat.le_refl _⟩)
  refine zf (b' - (m+1)) (by omega) ⟨m+1,b',lim2,_,_,G6,rfl,by omega,by omega,hb1,hlim,rfl,pe .nil (h1:=?_),hw9.trans (hw10.wider ha1 (by omega)),ho5.left hp5 hw10 hs10 ha1 hb1,hij6,hp6.lo hij6 (by omega),hA6,hk6.trans hk7 (fun i hi=>.inl hi)⟩
  show some (I _)=some (I _)
  rw[show((m+1:Nat):Int)=(m:Int)+1 by omega]
 ·rename_i hq
  obtain⟨G6,hw10,hs10,hA6,hk7⟩:=hq
  have hij6:=hw10.inj (show b'<=n by omega) hij5
  refine zf (m - a') (by omega) ⟨a',m,lim2,_,_,G6,rfl,ha1,hm1,by omega,hlim,rfl,pe .nil,hw9.trans (hw10.wider (by omega) hb1),ho5.right hp5 hw10 hs10 ha1 hb1,hij6,(hlo5.sw (hw10.wider (by omega) (Nat.le_refl _)) (Nat.le_refl _) (Nat.le_refl _)).sub (by omega),hA6,hk6.trans hk7 (fun i hi=>.inl hi)⟩
end Go.Proofs.YtbfnnllgdioccaaGreatDoor.C
end
section
open Go PvL Go.Proofs
set_option linter.unusedSimpArgs false
set_option linter.unusedVariables false
variable {μ:Md}
namespace Go.Proofs.YtbfnnllgdioccaaGreatDoor.C
theorem zhn{bs:List Nat}{i:Nat}(h:i < bs.length):bs[i]?=some (bs.getD i 0):=by
 rw[List.getD_eq_getElem?_getD,List.getElem?_eq_getElem h];rfl
theorem zcd{bs:List Nat}(hn:bs.Nodup){i j:Nat}(hi:i < bs.length)(hj:j < bs.length)(he:bs[i]=bs[j]):i=j:=by
 unfold List.Nodup at hn
 rw[List.pairwise_iff_getElem] at hn
 rcases Nat.lt_trichotomy i j with h|h|h
 ·exact absurd he (hn i j hi hj h)
 ·exact h
 ·exact absurd he.symm (hn j i hj hi h)
set_option maxHeartbeats 4000000 in
theorem zp8{M:Mem}{pb r clk l:Nat}{ty:TypeId}{L:Mk}{bs:List Nat}(hpb:At M pb (.cells true [.map (some r)] ty))(hm:At M r (.map (encK L) bs clk))(hok:StOk bs clk L.length)(A:Nat->Prop)(Iv:List Nat->Mem->Prop)
  (hA:∀ i,A i->i ≠ r /\ i ≠ M.next)
  (stab:∀ is M1 M2,Iv is M1->M1.next<=M2.next->(∀ i,i < M1.next->i ≠ M.next->M2.get i=M1.get i)->Iv is M2)
  (step:∀ is i k v M1,is.Nodup->(∀ j ∈ is,j < L.length)->i ∉ is->L[i]?=some (k,v)->M.next < M1.next->Iv is M1->RoundOk Tryz.prog l [kyv k] M1 (fun w M2=>w=.bool true /\ Iv (is ++ [i]) M2 /\ Keep A M1 M2))
  (h0:Iv [] M) :
  CallN Tryz.prog 144 [.func (.yield l) [] [],.ptr (some (pb,0))] M (fun w M'=>∃ is,is.Nodup /\ (∀ i,i < L.length ↔ i ∈ is) /\ Iv is M' /\ M.next<=M'.next):=by
 refine z39 k144 rfl ?_
 dsimp only[x144,zM,zO,zI,zF,zS,zB,zL,zE,zN,zW,zC,zipE,Nat.reduceAdd]
 repeat' first|with_reducible intro _|refine sv ?_|refine sc ?_ ?_<;>(intro h;try exact sz h)|refine sg ?_ ?_<;>(intro h;first|exact sz h|refine sy h ?_)|exact sq|fail
 refine z5z (by exact gd) (zqx rfl hm) ?_
 have hN:New M M.next (.iter (some r) clk [] clk) (M.push (.iter (some r) clk [] clk)):=⟨rfl,rfl⟩
 generalize M.push (.iter (some r) clk [] clk)=M1 at *
 have hit:=At.new_same hN
 have hm1:=At.new_old hN hm
 have hi1:=stab [] M M1 h0 (by rw[hN.next];omega) (fun i hi _=>hN.grow.old i hi)
 have hnx:=hN.next
 have hrl:=hm.2
 generalize hit0:M.next=it at *
 repeat' first|with_reducible intro _|refine sv ?_|refine sc ?_ ?_<;>(intro h;try exact sz h)|refine sg ?_ ?_<;>(intro h;first|exact sz h|refine sy h ?_)|exact sq|fail
 refine z9 (fun z E ms M'=>∃(is:List Nat) (last:Nat),z=L.length - is.length /\ is.Nodup /\ (∀ j ∈ is,j < L.length) /\ (is=[] ∨ last=clk) /\ ms=[] /\ Has E [(0,.func (.yield l) [] []),(5,.ptr (some (it,0)))] /\ At M' it (.iter (some r) clk (is.map fun i=>bs.getD i 0) last) /\ At M' r (.map (encK L) bs clk) /\ Iv is M' /\ it < M'.next)
  ?_ (L.length - 0) _ _ _ ⟨[],clk,rfl,List.nodup_nil,fun _ h=>(nomatch h),.inl rfl,rfl,.cons rfl (.cons rfl .nil),hit,hm1,hi1,by omega⟩
 clear hN hit hm1 hi1 hnx h0 hm hpb
 rintro z E ms M2 ⟨is,last,rfl,hnd,hlt,hla,rfl,hE,hit,hm,hI,hnx⟩
 refine z0b hE ?_
 have hes:bs.length=(encK L).length:=by rw[hok.len];simp[encK]
 have hall:allLt clk bs=true:=ze3 hok.lt
 by_cases hl:leftL (is.map fun i=>bs.getD i 0) bs (encK L)=[]
 ·have hst:(is.map fun i=>bs.getD i 0)=[] ∨ encK L=[] ∨ anyLt last bs=true:=by
   rcases hla with rfl|rfl
   ·exact .inl rfl
   ·cases bs with
    | nil=>exact .inr (.inl (List.length_eq_zero_iff.1 (by rw[<-hes];rfl)))
    | cons b bs=>exact .inr (.inr (za8 (x:=b) (by simp) (hok.lt b (by simp))))
  apply z6g
  apply zld
  refine z5z (by exact gd) (zoh rfl hit hm hes hall hst hl) ?_
  repeat' first|with_reducible intro _|refine sv ?_|refine sc ?_ ?_<;>(intro h;try exact sz h)|refine sg ?_ ?_<;>(intro h;first|exact sz h|refine sy h ?_)|exact sq|fail
  refine kf ?_
  refine⟨is,hnd,fun i=>⟨fun hi=>?_,fun hi=>hlt i hi⟩,hI,by omega⟩
  have hib:i < bs.length:=by rw[hok.len];exact hi
  have hmem:=zes hl hes (bs[i]) (List.getElem_mem hib)
  obtain⟨j,hj,hj2⟩:=List.mem_map.1 hmem
  have hjb:j < bs.length:=by rw[hok.len];exact hlt j hj
  have h1:bs[j]=bs[i]:=by
   have h2:=zhn hjb
   rw[List.getElem?_eq_getElem hjb] at h2
   exact(Option.some.inj h2).trans hj2
  have h3:j=i:=zcd hok.nodup hjb hib h1
  rw[<-h3];exact hj
 have hst:(is.map fun i=>bs.getD i 0)=[] ∨ encK L=[] ∨ anyLt last bs=true:=by
  rcases hla with rfl|rfl
  ·exact .inl rfl
  ·cases bs with
   | nil=>exact .inr (.inl (List.length_eq_zero_iff.1 (by rw[<-hes];rfl)))
   | cons b bs=>exact .inr (.inr (za8 (x:=b) (by simp) (hok.lt b (by simp))))
 apply z6g
 apply zld
 refine zoc (by exact gd) rfl hit hm hall hst hl ?_
 intro b kk v hmem M3 hU3 e3 hit3
 obtain⟨i,hi1,hi2,hi3⟩:=zao hmem
 have hib:i < bs.length:=(List.getElem?_eq_some_iff.1 hi1).1
 have hbi:bs.getD i 0=b:=by
  have h2:=zhn hib
  rw[hi1] at h2
  exact(Option.some.inj h2).symm
 have hil:i < L.length:=by rw[<-hok.len];exact hib
 have hni:i ∉ is:=fun hh=>hi3 (List.mem_map.2 ⟨i,hh,hbi⟩)
 have hrit:r ≠ it:=by omega
 have hm3:=At.upd_ne hU3 hrit hm
 obtain⟨⟨k,v'⟩,hL⟩:∃ p,L[i]?=some p:=⟨L[i],List.getElem?_eq_getElem hil⟩
 have hkk:kk=kyv k /\ v=v':=by
  have h2:(encK L)[i]?=some (kyv k,v'):=by unfold encK;rw[List.getElem?_map,hL];rfl
  rw[h2] at hi2
  cases hi2
  exact⟨rfl,rfl⟩
 obtain⟨rfl,rfl⟩:=hkk
 have hseen:(is.map fun i=>bs.getD i 0) ++ [b]=(is ++ [i]).map fun i=>bs.getD i 0:=by rw[List.map_append,<- hbi];rfl
 have hent:stampL b bs (encK L)=some (kyv k,v):=zcr hok.nodup hi1 hi2
 have hI3:=stab is M2 M3 hI (by omega) (fun i hi hne=>z33 hU3 hne)
 have hleft:L.length - (is ++ [i]).length < L.length - is.length:=by
  have:=pig L.length (is ++ [i]) (by
   rw[List.nodup_append]
   exact⟨hnd,by simp,fun a ha b hb=>by
    obtain rfl:b=i:=by simpa using hb
    rintro rfl;exact hni ha⟩) (fun x hx=>by
   rcases List.mem_append.1 hx with hx|hx
   ·exact hlt x hx
   ·obtain rfl:x=i:=by simpa using hx
    exact hil)
  rw[List.length_append] at this ⊢
  simp only[List.length_cons,List.length_nil] at this ⊢
  omega
 repeat' first|with_reducible intro _|refine sv ?_|refine sc ?_ ?_<;>(intro h;try exact sz h)|refine sg ?_ ?_<;>(intro h;first|exact sz h|refine sy h ?_)|exact sq|fail
 refine z5z (by exact gd) (zqq rfl hit3 hm3 hes hent) ?_
 rw[hseen] at hit3
 clear hU3
 repeat' first|with_reducible intro _|refine sv ?_|refine sc ?_ ?_<;>(intro h;try exact sz h)|refine sg ?_ ?_<;>(intro h;first|exact sz h|refine sy h ?_)|exact sq|fail
 rename_i n4 M4 hN4 e4 e4' M5 hU5 e5 hA5
 have hit5:At M5 it (.iter (some r) clk ((is ++ [i]).map fun i=>bs.getD i 0) clk):=xm
 have hm5:At M5 r (.map (encK L) bs clk):=xm
 have hI5:=stab is M3 M5 hI3 (by omega) (fun j hj hne=>by rw[z33 hU5 (by omega),hN4.grow.old j hj])
 clear hN4 hU5
 refine zu (by exact gd) rfl rfl (show AppOk Tryz.prog _ _ M5 _ from step is i k v M5 hnd hlt hni hL (by omega) hI5) ?_
 rintro w M6 ⟨rfl,hI6,hk6⟩
 have hm6:=hm5.keep hk6 (fun h=>(hA _ h).1 rfl)
 have hit6:=hit5.keep hk6 (fun h=>(hA _ h).2 rfl)
 have hl6:=hk6.le
 repeat' first|with_reducible intro _|refine sv ?_|refine sc ?_ ?_<;>(intro h;try exact sz h)|refine sg ?_ ?_<;>(intro h;first|exact sz h|refine sy h ?_)|exact sq|fail
 refine zf (L.length - (is ++ [i]).length) hleft ⟨is ++ [i],clk,rfl,?_,?_,.inr rfl,rfl,.cons rfl (.cons rfl .nil),hit6,hm6,hI6,by omega⟩
 ·rw[List.nodup_append]
  exact⟨hnd,by simp,fun a ha b hb=>by
   obtain rfl:b=i:=by simpa using hb
   rintro rfl;exact hni ha⟩
 ·intro j hj
  rcases List.mem_append.1 hj with hj|hj
  ·exact hlt j hj
  ·obtain rfl:j=i:=by simpa using hj
   exact hil
theorem zrh{P:Program}{f:FuncId}{xf:XF}(h:cFn P f=some xf):∃ fd,fnOf P f=some fd:=by
 unfold cFn at h
 split at h
 ·cases h
 ·rename_i fd hfd;exact⟨fd,hfd⟩
theorem zhv{m:Nat}{k:Ky}{M M':Mem}{ty:TypeId}(hn:New M m (.cells true [I k.1,I k.2] ty) M'):z0g 2 1 (.slice (some (m,0)) 1 true 2) M'=some ([k].flatMap kyc) :=
 z3t (enc:=kyc) (l:=[k]) (fun _ _=>rfl) (fun k' hk'=>z1v (enc:=kyc) (l:=[k]) (At.new_same hn) (fun _ _=>rfl) hk')
def kAt(L:Mk)(i:Nat):Ky:=((L[i]?).map (·.1)).getD (0,0)
abbrev kseq(pb:Nat):LV:=.func (.func 144) [] [.ptr (some (pb,0))]
set_option maxHeartbeats 8000000 in
theorem zd3{M:Mem}{pb r clk:Nat}{ty:TypeId}{L:Mk}{bs:List Nat}(hpb:At M pb (.cells true [.map (some r)] ty))(hm:At M r (.map (encK L) bs clk))(hok:StOk bs clk L.length)(hL:L.length<=1000) :
  CallN Tryz.prog 167 [zsl,kseq pb] M (fun w M'=>∃ is:List Nat,is.Nodup /\ (∀ i,i < L.length ↔ i ∈ is) /\ Vec M.next 2 114 kyc M' w (is.map (kAt L)) /\ Grow M M'):=by
 refine z39 k167 rfl ?_
 dsimp only[x167,zM,zO,zI,zF,zS,zB,zL,zE,zN,zW,zC,zipE,Nat.reduceAdd]
 repeat' first|with_reducible intro _|refine sv ?_|refine sc ?_ ?_<;>(intro h;try exact sz h)|refine sg ?_ ?_<;>(intro h;first|exact sz h|refine sy h ?_)|exact sq|fail
 rename_i m2 M2 hN2 e2 e2'
 have hm2:At M2 m2 (.cells true [zsl] 177):=xm
 have hg2:=hN2.grow
 have hpb2:=At.grow hg2 hpb
 have hmm2:=At.grow hg2 hm
 have hrl:=hm.2
 clear hN2
 apply zo8
 exact rfl
 exact zrh k144
 intro lb d0 ly M16 M17 hlb hd0 e16 e16' hly e17 e17'
 have hg17:Grow M2 M17:=hd0.grow.trans hly.grow
 have hd17:At M17 d0 .defr:=At.new_old hly (At.new_same hd0)
 have hly17:=At.new_same hly
 have hm17:=At.grow hg17 hm2
 refine(zp8 (l:=ly) (At.grow hg17 hpb2) (At.grow hg17 hmm2) hok (fun i=>i=m2 ∨ i=ly ∨ M17.next < i) (fun(is:List Nat) M'=>∃ v,At M' m2 (.cells true [v] 177) /\ Vec (M17.next+1) 2 114 kyc M' v (is.map (kAt L)) /\ At M' ly (lb .ready none) /\ At M' d0 .defr /\ Keep (fun i=>i=m2 ∨ i=ly) M17 M') ?_ ?_ ?_ ⟨_,hm17,.inl ⟨rfl,rfl⟩,hly17,hd17,Keep.refl _ _⟩).mono ?_
 ·intro i hi;omega
 ·rintro is M3 M4 ⟨v,h1,h2,h3,h4,h5⟩ hle hg
  refine⟨v,h1.same hle (hg _ h1.2 (by omega)),h2.imp id (fun⟨i,g1,g2,g3⟩=>⟨i,g1,g2.same hle (hg _ g2.2 (by omega)),g3⟩),h3.same hle (hg _ h3.2 (by omega)),h4.same hle (hg _ h4.2 (by omega)),⟨Nat.le_trans h5.le hle,fun i hi hf=>?_⟩⟩
  rw[hg i (by have:=h5.le;omega) (by omega)]
  exact h5.old i hi hf
 ·rintro is i k v0 M3 hnd hlt hni hLi hnx ⟨v,h1,h2,h3,h4,h5⟩
  have hkA:kAt L i=k:=by unfold kAt;rw[hLi];rfl
  have hlen:is.length+1<=L.length:=by
   have:=pig L.length (is ++ [i]) (by
    rw[List.nodup_append]
    exact⟨hnd,by simp,fun a ha b hb=>by
     obtain rfl:b=i:=by simpa using hb
     rintro rfl;exact hni ha⟩) (fun x hx=>by
    rcases List.mem_append.1 hx with hx|hx
    ·exact hlt x hx
    ·obtain rfl:x=i:=by simpa using hx
     exact(List.getElem?_eq_some_iff.1 hLi).1)
   rw[List.length_append] at this
   exact this
  refine zf6 hlb h3 rfl ?_
  dsimp only[zipP]
  repeat' first|with_reducible intro _|refine sv ?_|refine sc ?_ ?_<;>(intro h;try exact sz h)|refine sg ?_ ?_<;>(intro h;first|exact sz h|refine sy h ?_)|exact sq|fail
  rename_i n4 M4 hN4 e4 e4' M5 hU5 e5 hA5 M6 hU6 e6 hA6 n7 M7 hN7 e7 e7'
  have k1:At M7 m2 (.cells true [v] 177):=xm
  have k4:At M7 d0 .defr:=xm
  have k3:At M7 ly (lb .busy none):=xm
  have kk:Keep (fun i=>i=ly) M3 M7:=xk
  have k2:=h2.keep kk (fun i hi=>by omega)
  have hl7:=kk.le
  clear hN4 hU5 hU6 hA5 hA6
  refine z37 (l':=[k]) (by exact gd) k2 rfl rfl rfl (by simp) (by simp;omega) rfl (zhv hN7) (fun _=>rfl) (fun _=>rfl) (by omega) ?_
  intro v8 M8 hv8 e8 hk8
  have g1:=k1.keep hk8 (fun h=>by have:=h.1;omega)
  have g3:=k3.keep hk8 (fun h=>by have:=h.1;omega)
  have g4:=k4.keep hk8 (fun h=>by have:=h.1;omega)
  have gk:Keep (fun i=>i=m2 ∨ i=ly ∨ M17.next < i) M3 M8:=(kk.weaken (fun i hi=>.inr (.inl hi))).trans hk8 (fun i hi=>.inl (.inr (.inr (by have:=hi.1;omega))))
  have gk5:Keep (fun i=>i=m2 ∨ i=ly) M17 M8:=(h5.trans kk (fun i hi=>.inl (.inr hi))).trans hk8 (fun i hi=>.inr (by have:=hi.1;omega))
  clear hN7 kk k1 k2 k3 k4 hk8
  obtain⟨a8,f8,e8',rfl⟩:=hv8.shape
  repeat' first|with_reducible intro _|refine sv ?_|refine sc ?_ ?_<;>(intro h;try exact sz h)|refine sg ?_ ?_<;>(intro h;first|exact sz h|refine sy h ?_)|exact sq|fail
  rename_i M9 hU9 e9 hA9 M10 hU10 e10 hA10
  refine⟨rfl,⟨_,xm,?_,hA10,xm,(gk5.upd hU9 (.inl (.inl rfl))).upd hU10 (.inl (.inr rfl))⟩,(gk.upd hU9 (.inl (.inl rfl))).upd hU10 (.inl (.inr (.inl rfl)))⟩
  rw[List.map_append]
  show Vec _ _ _ _ _ _ (is.map (kAt L) ++ [kAt L i])
  rw[hkA]
  exact hv8.keep (((Keep.refl (fun i=>i=m2 ∨ i=ly) _).upd hU9 (.inl (.inl rfl))).upd hU10 (.inl (.inr rfl))) (fun i hi=>by omega)
 rintro w M18 ⟨is,hnd,hall,⟨v,h1,h2,h3,h4,h5⟩,hnx⟩
 have hg18:Grow M M18:=Keep.to_grow' (hg2.trans hg17) h5 (fun i hi=>by omega)
 have hl18:=h5.le
 clear h5
 refine zm4 h3 (by simp) fun M19 hu19 e19 a19=>?_
 have g1:=At.upd_ne hu19 (show m2 ≠ ly by omega) h1
 have g4:=At.upd_ne hu19 (show d0 ≠ ly by omega) h4
 have hg19:Grow M M19:=hg18.upd hu19 (by omega)
 have g2:=h2.keep ((Keep.refl (fun i=>i=ly) _).upd hu19 (.inl rfl)) (fun i hi=>by omega)
 clear hu19 h1 h2 h4 a19 h3
 obtain⟨a8,f8,e8,rfl⟩:=g2.shape
 repeat' first|with_reducible intro _|refine sv ?_|refine sc ?_ ?_<;>(intro h;try exact sz h)|refine sg ?_ ?_<;>(intro h;first|exact sz h|refine sy h ?_)|exact sq|fail
 refine zc6 (.inr rfl) (by simp[dnat]) (fun d hd=>by simp[dnat] at hd;subst hd;exact g4) fun M22 hm=>⟨_,.tmp rfl .nil,is,hnd,hall,?_,?_⟩
 ·rcases g2 with⟨h1,h2⟩|⟨i,h1,h2,h3⟩
  ·exact .inl ⟨h1,h2⟩
  ·exact .inr ⟨i,h1,h2.unmark hm (by simp[dnat];omega),by omega⟩
 ·exact hg19.unmark hm (fun d hd=>by simp[dnat] at hd;subst hd;omega)
theorem Sw.mem{n:Nat}{G G':Nat->Ky}(h:Sw 0 n G G')(k:Ky):(∃ t,t < n /\ G' t=k) ↔ ∃ t,t < n /\ G t=k:=by
 constructor
 ·rintro⟨t,ht,hk⟩
  have:=h.all (p:=fun k=>∃ t,t < n /\ G t=k) (fun t _ ht=>⟨t,ht,rfl⟩) t (Nat.zero_le _) ht
  rw[hk] at this;exact this
 ·induction h with
  | refl=>exact id
  | @step G' i j _ h1 h2 h3 h4 ih =>
   intro hk
   obtain⟨t,ht,hk⟩:=ih hk
   by_cases hi:t=i
   ·subst hi;exact⟨j,h4,by rw[sw_j];exact hk⟩
   ·by_cases hj:t=j
    ·subst hj;exact⟨i,h2,by rw[sw_i];exact hk⟩
    ·exact⟨t,ht,by rw[z4i hi hj];exact hk⟩
theorem zgg{ks:List Ky}:(List.range ks.length).map (fun i=>ks.getD i (0,0))=ks:=by
 refine List.ext_getElem (by simp) fun i h1 h2=>?_
 simp only[List.getElem_map,List.getElem_range]
 rw[List.getD_eq_getElem?_getD,List.getElem?_eq_getElem h2];rfl
theorem zp7{M:Mem}{a:Option (Nat × Nat)}{f:Bool}{e:Nat}:za Tryz.prog 186 [.slice a 0 f e,I 0,I 0,cf] M (fun w M'=>M'=M):=by
 refine zc k186 rfl ?_
 dsimp only[x186,zM,zO,zI,zF,zS,zB,zL,zE,zN,zW,zC,zipE,Nat.reduceAdd]
 repeat' first|with_reducible intro _|refine sv ?_|refine su ?_|(refine sc ?_ ?_<;>(intro h;try exact sz h))|refine sg ?_ ?_<;>(intro h;first|exact sz h|refine sy h ?_)|exact sq|fail
 refine kf ?_
 rfl
theorem zpb{M:Mem}{a:Option (Nat × Nat)}{f:Bool}{e:Nat}{lim:Int}:za Tryz.prog 168 [.slice a 0 f e,I 0,I 0,I lim,cf] M (fun w M'=>M'=M):=by
 refine zc k168 rfl ?_
 dsimp only[x168,zM,zO,zI,zF,zS,zB,zL,zE,zN,zW,zC,zipE,Nat.reduceAdd]
 repeat' first|with_reducible intro _|refine sv ?_|refine su ?_|(refine sc ?_ ?_<;>(intro h;try exact sz h))|((with_reducible first|apply zu|apply z0f|apply x_call0);exact gd;exact rfl;exact rfl;(first|exact zp7))|refine sg ?_ ?_<;>(intro h;first|exact sz h|refine sy h ?_)|exact sq|fail
 rename_i hq
 subst hq
 repeat' first|with_reducible intro _|refine sv ?_|refine sc ?_ ?_<;>(intro h;try exact sz h)|refine sg ?_ ?_<;>(intro h;first|exact sz h|refine sy h ?_)|exact sq|fail
 refine kf ?_
 rfl
set_option maxHeartbeats 4000000 in
theorem zfn{M:Mem}{b:Nat}{v:LV}{ks:List Ky}(hv:Vec b 2 114 kyc M v ks)(hl:ks.length<=200)(hn:ks.Nodup) :
  za Tryz.prog 143 [v,cf] M (fun _ M'=>∃ ks',Vec b 2 114 kyc M' v ks' /\ ks'.Pairwise klt /\ (∀ k,k ∈ ks' ↔ k ∈ ks) /\ ks'.length=ks.length /\ Keep (fun i=>b<=i) M M'):=by
 have cl:=zoy (M:=M) (n:=ks.length) (by omega)
 have hw:=z35 (z:=(ks.length:Int)) (by omega)
 rcases hv with⟨rfl,rfl⟩|⟨i,rfl,hA,hbi⟩
 ·refine zc k143 rfl ?_
  dsimp only[x143,zM,zO,zI,zF,zS,zB,zL,zE,zN,zW,zC,zipE,Nat.reduceAdd]
  repeat' first|with_reducible intro _|refine sv ?_|refine sc ?_ ?_<;>(intro h;try exact sz h)|((with_reducible first|apply zu|apply z0f|apply x_call0);exact gd;exact rfl;exact rfl;(first|exact cl))|refine sg ?_ ?_<;>(intro h;first|exact sz h|refine sy h ?_)|exact sq|fail
  rename_i hq
  obtain⟨k,rfl,hk1,hk2,rfl⟩:=hq
  repeat' first|with_reducible intro _|refine sv ?_|refine sc ?_ ?_<;>(intro h;try exact sz h)|((with_reducible first|apply zu|apply z0f|apply x_call0);exact gd;exact rfl;exact rfl;(first|exact zpb))|refine sg ?_ ?_<;>(intro h;first|exact sz h|refine sy h ?_)|exact sq|fail
  rename_i hq
  subst hq
  refine kf ?_
  exact⟨[],.inl ⟨rfl,rfl⟩,List.Pairwise.nil,fun _=>Iff.rfl,rfl,Keep.refl _ _⟩
 ·have hT:KT M i ks.length (apE 114) (fun i=>ks.getD i (0,0)):=by
   show At M i (.cells true (tabL kyc (fun i=>ks.getD i (0,0)) ks.length) (apE 114))
   unfold tabL
   rw[zgg];exact hA
  have hij:Inj ks.length (fun i=>ks.getD i (0,0)):=fun x y hx hy hxy=>by
   simp only[List.getD_eq_getElem?_getD,List.getElem?_eq_getElem hx,List.getElem?_eq_getElem hy,Option.getD_some] at hxy
   unfold List.Nodup at hn
   rw[List.pairwise_iff_getElem] at hn
   rcases Nat.lt_trichotomy x y with h|h|h
   ·exact absurd hxy (hn x y hx hy h)
   ·exact h
   ·exact absurd hxy.symm (hn y x hy hx h)
  have hmem:∀ k,(∃ t,t < ks.length /\ ks.getD t (0,0)=k) ↔ k ∈ ks:=fun k=>by
   rw[List.mem_iff_getElem]
   constructor
   ·rintro⟨t,ht,h⟩;exact⟨t,ht,by rw[List.getD_eq_getElem?_getD,List.getElem?_eq_getElem ht] at h;exact h⟩
   ·rintro⟨t,ht,h⟩;exact⟨t,ht,by rw[List.getD_eq_getElem?_getD,List.getElem?_eq_getElem ht];exact h⟩
  refine zc k143 rfl ?_
  dsimp only[x143,zM,zO,zI,zF,zS,zB,zL,zE,zN,zW,zC,zipE,Nat.reduceAdd]
  repeat' first|with_reducible intro _|refine sv ?_|refine sc ?_ ?_<;>(intro h;try exact sz h)|refine sg ?_ ?_<;>(intro h;first|exact sz h|refine sy h ?_)|exact sq|fail
  rw[hw]
  repeat' first|with_reducible intro _|refine sv ?_|refine sc ?_ ?_<;>(intro h;try exact sz h)|((with_reducible first|apply zu|apply z0f|apply x_call0);exact gd;exact rfl;exact rfl;(first|exact cl))|refine sg ?_ ?_<;>(intro h;first|exact sz h|refine sy h ?_)|exact sq|fail
  rename_i hq
  obtain⟨k,rfl,hk1,hk2,rfl⟩:=hq
  repeat' first|with_reducible intro _|refine sv ?_|refine sc ?_ ?_<;>(intro h;try exact sz h)|((with_reducible first|apply zu|apply z0f|apply x_call0);exact gd;exact rfl;exact rfl;(first|exact zr8 (p:=i) (n:=ks.length) (f:=false) (e:=2) (by omega) (ks.length+1) (a:=0) (by omega) hT (Nat.le_refl _) (Nat.zero_le _) hij (.inl rfl) (by omega)))|refine sg ?_ ?_<;>(intro h;first|exact sz h|refine sy h ?_)|exact sq|fail
  rename_i hq
  obtain⟨G',hsw,hsr,hT',hkp⟩:=hq
  have hm2:=Sw.mem hsw
  have hij2:=hsw.inj (Nat.le_refl _) hij
  refine kf ?_
  refine⟨(List.range ks.length).map G',.inr ⟨i,by simp,hT',hbi⟩,?_,fun k=>?_,by simp,hkp.weaken (fun j hj=>by omega)⟩
  ·rw[List.pairwise_iff_getElem]
   intro x y hx hy hxy
   simp only[List.length_map,List.length_range] at hx hy
   simp only[List.getElem_map,List.getElem_range]
   rcases zhx (a:=G' x) (b:=G' y) (fun he=>by have:=hij2 x y hx hy he;omega) with h|h
   ·exact h
   ·exact absurd h (hsr x y (Nat.zero_le _) hxy hy)
  ·rw[List.mem_map,<- hmem,<- hm2]
   constructor
   ·rintro⟨t,ht,h⟩;exact⟨t,List.mem_range.1 ht,h⟩
   ·rintro⟨t,ht,h⟩;exact⟨t,List.mem_range.2 ht,h⟩
end Go.Proofs.YtbfnnllgdioccaaGreatDoor.C
end
section
open Go PvL
set_option linter.unusedSimpArgs false
set_option linter.unusedVariables false
namespace Go.Proofs.YtbfnnllgdioccaaGreatDoor.C
def ldn(lv n:Int):Bool:=knB n && !btB n (-lv) lv
def loudF(lv:Int)(x:Fr):Bool:=x.2.2.any (ldn lv)
def qd:Option Bool->Bool
 | none=>true
 | some q=>q
def dq(L:List Fr)(lv:Int):Nat->Int->Option Bool
 | 0,_=>none
 | k+1,c=>if c=(fe L k).2.1 then some (!loudF lv (fe L k) && qd (dq L lv k c)) else dq L lv k c
def dqT(L:List Fr)(lv:Int)(c:Int):Bool:=(dq L lv L.length c).getD false
def deadL(L:List Fr)(lv:Int):Nat->List Int
 | 0=>[]
 | c+1=>deadL L lv c ++(if dqT L lv c then [(c:Int)] else [])
def deadF(r:Rl)(lv:Int):List Int × Int :=
 if z1r r=0 then(if btB lv 0 32767 then(deadL r.2 lv 24,0) else([],7)) else([],z1r r)
abbrev Wn:=Int × Int × Int × Int × Int
def gdF(ch:Int)(sm:Nat)(x:Fr):Bool:=decide (x.2.1 < ch) && (decide (sm<=x.2.2.length) && (x.2.2.take sm).all knB)
def gq(L:List Fr)(ch:Int)(sm:Nat):Nat->Int->Option Int
 | 0,_=>none
 | k+1,s=>if gdF ch sm (fe L k)=true /\ s=(fe L k).1 then some ((gq L ch sm k s).getD 0+1) else gq L ch sm k s
def gqN(L:List Fr)(ch:Int)(sm:Nat)(k:Nat)(s:Int):Int:=(gq L ch sm k s).getD 0
def wnB(w:Wn):Bool:=(btB w.1 0 w.2.1 && (btB w.2.1 0 60000 && (decide (w.2.1 - w.1 < 1000) && (btB w.2.2.1 1 24 && (btB w.2.2.2.1 1 64 && btB w.2.2.2.2 0 24)))))
def pq(L:List Fr)(w:Wn)(s:Int):Bool:=decide (w.2.2.1 - gqN L w.2.2.1 w.2.2.2.1.toNat L.length s > w.2.2.2.2)
def poorL(L:List Fr)(w:Wn):Nat->List Int
 | 0=>[]
 | n+1=>poorL L w n ++(if pq L w (w.1+n) then [w.1+n] else [])
def poorF(r:Rl)(w:Wn):List Int × Int :=
 if z1r r=0 then(if wnB w then(poorL r.2 w (w.2.1 - w.1+1).toNat,0) else([],84)) else([],z1r r)
theorem zq6{L:List Fr}{n:Nat}(h:rlK L n=true):∀ {i j:Nat},i < j->j < n->keyI (fe L i) < keyI (fe L j):=by
 have hstep:∀ {k:Nat},k+1 < n->keyI (fe L k) < keyI (fe L (k+1)):=fun {k} hk=>by
  have h2:rlK L (k+2)=true:=by
   cases h3:rlK L (k+2) with
   | true=>rfl
   | false=>rw[zf5 (by omega:k+2<=n) h3] at h;cases h
  rw[zix,zix] at h2
  simp only[Bool.and_eq_true,Bool.or_eq_true,decide_eq_true_eq] at h2
  rcases h2.2.2 with h3|h3
  ·omega
  ·exact h3
 intro i j hij
 induction j with
 | zero=>omega
 | succ j ih =>
  intro hj
  rcases Nat.lt_or_ge i j with h1|h1
  ·exact Int.lt_trans (ih h1 (by omega)) (hstep hj)
  ·obtain rfl:i=j:=by omega
   exact hstep hj
def FsV1(M:Mem)(a:Option (Nat × Nat))(L:List Fr):Prop:=L=[] ∨ ∃ i o,a=some (i,o) /\ ∀ k (hk:k < L.length),∃ b g,Rd M i (o+k*3) 3 [I L[k].1,I L[k].2.1,.slice b L[k].2.2.length g 1] /\ SlI M b L[k].2.2
def RlV1(M:Mem)(v:LV)(r:Rl):Prop:=∃ a f e,v=.agg [.str r.1,.slice a r.2.length f e] /\ FsV1 M a r.2
theorem FsV1.to{M:Mem}{a:Option (Nat × Nat)}{L:List Fr}(h:FsV1 M a L):FsV M a L :=
 h.imp id fun⟨i,o,h1,h2⟩=>⟨i,o,h1,fun k hk=>by
  obtain⟨b,g,h3,h4⟩:=h2 k hk
  exact⟨b,g,1,h3,h4⟩⟩
end Go.Proofs.YtbfnnllgdioccaaGreatDoor.C
end
section
open Go PvL Go.Proofs
set_option linter.unusedSimpArgs false
set_option linter.unusedVariables false
variable {μ:Md}
namespace Go.Proofs.YtbfnnllgdioccaaGreatDoor.C
theorem zox{M:Mem}{r:Nat}:za Tryz.prog 113 [.map (some r)] M (MkAt kseq (.cells true [.map (some r)] 107) M):=by
 refine zc k113 rfl ?_
 dsimp only[x113,zM,zO,zI,zF,zS,zB,zL,zA,zE,zN,zW,zC,zipE,Nat.reduceAdd]
 repeat' first|with_reducible intro _|refine sv ?_|refine sc ?_ ?_<;>(intro h;try exact sz h)|refine sg ?_ ?_<;>(intro h;first|exact sz h|refine sy h ?_)|exact sq|fail
 rename_i n1 M1 hN1 e1 e1'
 refine kf ?_
 exact⟨n1,rfl,At.new_same hN1,by omega,by omega,hN1.grow⟩
theorem zep{L:Mk}{i:Nat}(h:i < L.length):kAt L i=L[i].1:=by unfold kAt;rw[List.getElem?_eq_getElem h];rfl
theorem znf{L:Mk}{is:List Nat}(hL:(L.map (·.1)).Nodup)(hnd:is.Nodup)(hall:∀ i,i < L.length ↔ i ∈ is):(is.map (kAt L)).Nodup /\ (∀ k,k ∈ is.map (kAt L) ↔ k ∈ L.map (·.1)) /\ (is.map (kAt L)).length<=L.length:=by
 refine⟨?_,fun k=>?_,?_⟩
 ·unfold List.Nodup at hnd hL ⊢
  rw[List.pairwise_map]
  refine hnd.imp_of_mem fun {i j} hi hj hne he=>?_
  have hi':=(hall i).2 hi
  have hj':=(hall j).2 hj
  rw[zep hi',zep hj'] at he
  refine hne (zcd (bs:=(List.range L.length)) List.nodup_range (by simpa using hi') (by simpa using hj') ?_)
  simp only[List.getElem_range]
  rw[List.pairwise_iff_getElem] at hL
  rcases Nat.lt_trichotomy i j with h|h|h
  ·exact absurd (by rw[List.getElem_map,List.getElem_map];exact he) (hL i j (by simpa using hi') (by simpa using hj') h)
  ·exact h
  ·exact absurd (by rw[List.getElem_map,List.getElem_map];exact he.symm) (hL j i (by simpa using hj') (by simpa using hi') h)
 ·rw[List.mem_map,List.mem_map]
  constructor
  ·rintro⟨i,hi,rfl⟩
   have hi':=(hall i).2 hi
   exact⟨L[i],List.getElem_mem hi',(zep hi').symm⟩
  ·rintro⟨p,hp,rfl⟩
   obtain⟨i,hi,rfl⟩:=List.mem_iff_getElem.1 hp
   exact⟨i,(hall i).1 hi,zep hi⟩
 ·rw[List.length_map]
  exact pig L.length is hnd fun i hi=>(hall i).2 hi
theorem zgx{M:Mem}{pb r clk:Nat}{ty:TypeId}{L:Mk}{bs:List Nat}(hpb:At M pb (.cells true [.map (some r)] ty))(hm:At M r (.map (encK L) bs clk))(hok:StOk bs clk L.length)(hL:L.length<=1000)(hN:(L.map (·.1)).Nodup) :
  CallN Tryz.prog 142 [kseq pb] M (fun w M'=>∃ ks:List Ky,ks.Nodup /\ (∀ k,k ∈ ks ↔ k ∈ L.map (·.1)) /\ ks.length<=L.length /\ Vec M.next 2 114 kyc M' w ks /\ Grow M M'):=by
 refine z39 k142 rfl ?_
 dsimp only[x142,zM,zO,zI,zF,zS,zB,zL,zE,zN,zW,zC,zipE,Nat.reduceAdd]
 repeat' first|with_reducible intro _|refine sv ?_|refine sc ?_ ?_<;>(intro h;try exact sz h)|refine sg ?_ ?_<;>(intro h;first|exact sz h|refine sy h ?_)|exact sq|fail
 refine z8q (by exact gd) rfl rfl (zd3 hpb hm hok hL) ?_
 rintro w M' ⟨is,hnd,hall,hv,hg⟩
 obtain⟨h1,h2,h3⟩:=znf hN hnd hall
 obtain⟨a,f,e,rfl⟩:=hv.shape
 repeat' first|with_reducible intro _|refine sv ?_|refine sc ?_ ?_<;>(intro h;try exact sz h)|refine sg ?_ ?_<;>(intro h;first|exact sz h|refine sy h ?_)|exact sq|fail
 refine kf ?_
 exact⟨_,h1,h2,h3,hv,hg⟩
theorem zbl{M:Mem}{pb r clk:Nat}{ty:TypeId}{L:Mk}{bs:List Nat}(hpb:At M pb (.cells true [.map (some r)] ty))(hm:At M r (.map (encK L) bs clk))(hok:StOk bs clk L.length)(hL:L.length<=200)(hN:(L.map (·.1)).Nodup) :
  CallN Tryz.prog 112 [kseq pb,cf] M (fun w M'=>∃ ks:List Ky,ks.Pairwise klt /\ (∀ k,k ∈ ks ↔ k ∈ L.map (·.1)) /\ ks.length<=L.length /\ Vec M.next 2 114 kyc M' w ks /\ Grow M M'):=by
 refine z39 k112 rfl ?_
 dsimp only[x112,zM,zO,zI,zF,zS,zB,zL,zA,zE,zN,zW,zC,zipE,Nat.reduceAdd]
 repeat' first|with_reducible intro _|refine sv ?_|refine sc ?_ ?_<;>(intro h;try exact sz h)|refine sg ?_ ?_<;>(intro h;first|exact sz h|refine sy h ?_)|exact sq|fail
 refine z8q (by exact gd) rfl rfl (zgx hpb hm hok (by omega) hN) ?_
 rintro w M' ⟨ks,h1,h2,h3,hv,hg⟩
 obtain⟨a,f,e,rfl⟩:=hv.shape
 repeat' first|with_reducible intro _|refine sv ?_|refine sc ?_ ?_<;>(intro h;try exact sz h)|((with_reducible first|apply zu|apply z0f|apply x_call0);exact gd;exact rfl;exact rfl;(first|exact zfn hv (by omega) h1))|refine sg ?_ ?_<;>(intro h;first|exact sz h|refine sy h ?_)|exact sq|fail
 rename_i hq
 obtain⟨ks',hv',h4,h5,h6,hk⟩:=hq
 have hg2:=Keep.to_grow' hg hk (fun i hi=>hi)
 repeat' first|with_reducible intro _|refine sv ?_|refine sc ?_ ?_<;>(intro h;try exact sz h)|refine sg ?_ ?_<;>(intro h;first|exact sz h|refine sy h ?_)|exact sq|fail
 refine kf ?_
 exact⟨ks',h4,fun k=>(h5 k).trans (h2 k),by omega,hv',hg2⟩
abbrev FW:=Ky × Option (Nat × Nat) × Nat × Bool × Nat
abbrev fwc(x:FW):List LV:=[I x.1.1,I x.1.2,.slice x.2.1 x.2.2.1 x.2.2.2.1 x.2.2.2.2]
def FwV(M:Mem)(x:FW)(f:Fr):Prop:=x.1=fky f /\ x.2.2.1=f.2.2.length /\ SlI M x.2.1 f.2.2
inductive FwL (M:Mem):List FW->List Fr->Prop
 | nil:FwL M [] []
 | cons {x:FW} {f:Fr} {xs:List FW} {fs:List Fr} (h:FwV M x f) (h':FwL M xs fs):FwL M (x :: xs) (f :: fs)
theorem FwL.len{M:Mem}{xs:List FW}{fs:List Fr}(h:FwL M xs fs):xs.length=fs.length:=by
 induction h with
 | nil=>rfl
 | cons _ _ ih=>simp[ih]
theorem FwL.at{M:Mem}{xs:List FW}{fs:List Fr}(h:FwL M xs fs):∀ {k:Nat} (h1:k < xs.length) (h2:k < fs.length),FwV M xs[k] fs[k]:=by
 induction h with
 | nil=>intro k h1;simp at h1
 | cons h _ ih =>
  intro k h1 h2
  cases k with
  | zero=>exact h
  | succ k=>exact ih (by simpa using h1) (by simpa using h2)
theorem FwV.grow{M M':Mem}{x:FW}{f:Fr}(h:FwV M x f)(hg:Grow M M'):FwV M' x f:=⟨h.1,h.2.1,h.2.2.grow hg⟩
inductive FwL1 (M:Mem):List FW->List Fr->Prop
 | nil:FwL1 M [] []
 | cons {x:FW} {f:Fr} {xs:List FW} {fs:List Fr} (h:FwV M x f) (h1:f.2.2 ≠ []->x.2.2.2.2=1) (h':FwL1 M xs fs):FwL1 M (x :: xs) (f :: fs)
theorem FwL1.l{M:Mem}{xs:List FW}{fs:List Fr}(h:FwL1 M xs fs):FwL M xs fs:=by
 induction h with
 | nil=>exact .nil
 | cons h _ _ ih=>exact .cons h ih
theorem FwL1.snoc{M:Mem}{xs:List FW}{fs:List Fr}{x:FW}{f:Fr}(h:FwL1 M xs fs)(h':FwV M x f)(h1:f.2.2 ≠ []->x.2.2.2.2=1):FwL1 M (xs ++ [x]) (fs ++ [f]):=by
 induction h with
 | nil=>exact .cons h' h1 .nil
 | cons h h2 _ ih=>exact .cons h h2 ih
theorem FwL1.grow{M M':Mem}{xs:List FW}{fs:List Fr}(h:FwL1 M xs fs)(hg:Grow M M'):FwL1 M' xs fs:=by
 induction h with
 | nil=>exact .nil
 | cons h h2 _ ih=>exact .cons (h.grow hg) h2 ih
theorem FwL1.one{M:Mem}{xs:List FW}{fs:List Fr}(h:FwL1 M xs fs):∀ {k:Nat} (h1:k < xs.length) (h2:k < fs.length),fs[k].2.2 ≠ []->xs[k].2.2.2.2=1:=by
 induction h with
 | nil=>intro k h1;simp at h1
 | cons h h2 _ ih =>
  intro k g1 g2
  cases k with
  | zero=>exact h2
  | succ k=>exact ih (by simpa using g1) (by simpa using g2)
theorem znd{b:Nat}{ty:TypeId}{M:Mem}{v:LV}{xs:List FW}{fs:List Fr}(hv:Vec b 3 ty fwc M v xs)(hl1:FwL1 M xs fs)(hne:∀ x ∈ fs,x.2.2 ≠ []):∃ a f e,v=.slice a fs.length f e /\ FsV1 M a fs:=by
 have hl:=hl1.l
 obtain⟨a,f,e,h1,h2⟩:=hv.rd (fun _ _=>rfl)
 refine⟨a,f,e,by rw[<-hl.len];exact h1,?_⟩
 rcases h2 with rfl|⟨i,o,rfl,h3⟩
 ·left
  have:=hl.len
  exact List.length_eq_zero_iff.1 (by rw[<-this];rfl)
 ·refine .inr ⟨i,o,rfl,fun k hk=>?_⟩
  have hk':k < xs.length:=by rw[hl.len];exact hk
  have h4:=h3 k hk'
  obtain⟨g1,g2,g3⟩:=hl.at hk' hk
  have g4:=hl1.one hk' hk (hne _ (List.getElem_mem hk))
  refine⟨xs[k].2.1,xs[k].2.2.2.1,?_,g3⟩
  have e1:xs[k].1.1=fs[k].1:=congrArg Prod.fst g1
  have e2:xs[k].1.2=fs[k].2.1:=congrArg Prod.snd g1
  rw[<-e1,<- e2,<- g2,<- g4]
  exact h4
theorem zkc{m:Nat}{x:FW}{M M':Mem}{ty:TypeId}(hn:New M m (.cells true (fwc x) ty) M'):z0g 3 1 (.slice (some (m,0)) 1 true 3) M'=some ([x].flatMap fwc) :=
 z3t (enc:=fwc) (l:=[x]) (fun _ _=>rfl) (fun k' hk'=>z1v (enc:=fwc) (l:=[x]) (At.new_same hn) (fun _ _=>rfl) hk')
set_option maxHeartbeats 8000000 in
theorem zjv{M:Mem}{r:Nat}{R:Rk}{J:List Fr}(hR:RkM M r R)(hJ:RJ R J)(hne:∀ x ∈ J,x.2.2 ≠ [])(hlen:R.length<=1000000) :
  CallN Tryz.prog 64 [.map (some r)] M (fun w M'=>((J.length<=128 /\ ∃ a f e,w=.tup [.slice a J.length f e,.bool true] /\ FsV1 M' a J) ∨(128 < J.length /\ w=.tup [zsl,.bool false])) /\ Grow M M'):=by
 obtain⟨L,bs,clk,hm,hok,hL⟩:=hR
 have hLl:=hL.len
 have hkeys:=hL.keys
 have hJl:=hJ.len
 have hN:(L.map (·.1)).Nodup:=by rw[hkeys];exact hJ.n
 refine z39 k64 rfl ?_
 dsimp only[x64,zM,zO,zI,zF,zS,zB,zL,zA,zE,zN,zW,zC,zipE,Nat.reduceAdd]
 have hel:(encK L).length=L.length:=by simp[encK]
 by_cases hbig:128 < R.length
 ·repeat' first|with_reducible intro _|refine sv ?_|refine sc ?_ ?_<;>(intro h;try exact sz h)|refine sg ?_ ?_<;>(intro h;first|exact sz h|refine sy h ?_)|exact sq|fail
  refine z36 (by exact gd) (zjg rfl hm) ?_
  repeat' first|with_reducible intro _|refine sv ?_|refine sc ?_ ?_<;>(intro h;try exact sz h)|refine sg ?_ ?_<;>(intro h;first|exact sz h|refine sy h ?_)|exact sq|fail
  all_goals try(exfalso;omega)
  refine kf ?_
  exact⟨.inr ⟨by omega,rfl⟩,Grow.refl _⟩
 repeat' first|with_reducible intro _|refine sv ?_|refine sc ?_ ?_<;>(intro h;try exact sz h)|refine sg ?_ ?_<;>(intro h;first|exact sz h|refine sy h ?_)|exact sq|fail
 refine z36 (by exact gd) (zjg rfl hm) ?_
 repeat' first|with_reducible intro _|refine sv ?_|refine sc ?_ ?_<;>(intro h;try exact sz h)|((with_reducible first|apply zfc|apply zeg);exact gd;exact rfl;exact rfl;(first|exact zox))|refine sg ?_ ?_<;>(intro h;first|exact sz h|refine sy h ?_)|exact sq|fail
 all_goals try(exfalso;omega)
 rename_i pb M1 hpb q1 q1' hg1 q1''
 refine z8q (by exact gd) rfl rfl (zbl hpb (At.grow hg1 hm) hok (by omega) hN) ?_
 rintro w M2 ⟨ks,hsrt,hmem,hkl,hv,hg2⟩
 have hks:=hJ.frames hsrt (fun k=>by rw[hmem,hkeys])
 have hgM2:=hg1.trans hg2
 obtain⟨a2,f2,e2,rfl,hrd⟩:=hv.rd (fun _ _=>rfl)
 repeat' first|with_reducible intro _|refine sv ?_|refine sc ?_ ?_<;>(intro h;try exact sz h)|refine sg ?_ ?_<;>(intro h;first|exact sz h|refine sy h ?_)|exact sq|fail
 have hb0:M2.next=M2.next:=rfl
 refine z9 (fun z E ms M'=>∃(k:Nat) (xs:List FW) (v:LV),z=ks.length - k /\ k<=ks.length /\ ms=[] /\ Has E [(0,.map (some r)),(12,.slice a2 ks.length f2 e2),(13,I ks.length),(14,I k),(4,v)] /\ Vec M2.next 3 48 fwc M' v xs /\ FwL1 M xs ((ks.take k).map (frK R)) /\ Grow M2 M')
  ?_ (ks.length - 0) _ _ _ ⟨0,[],_,rfl,Nat.zero_le _,rfl,.cons rfl (.cons rfl (.cons rfl (.cons rfl (.cons rfl .nil)))),Vec.nil,.nil,Grow.refl _⟩
 rintro z E ms M3 ⟨k,xs,v,rfl,hk,rfl,hE,hvx,hfx,hg3⟩
 refine z0b hE ?_
 obtain⟨a3,f3,e3,rfl⟩:=hvx.shape
 by_cases hlast:k=ks.length
 ·subst hlast
  rw[List.take_length,hks] at hfx
  have hfx':=hfx.grow (hgM2.trans hg3)
  repeat' first|with_reducible intro _|refine sv ?_|refine sc ?_ ?_<;>(intro h;try exact sz h)|refine sg ?_ ?_<;>(intro h;first|exact sz h|refine sy h ?_)|exact sq|fail
  refine kf ?_
  obtain⟨a,f,e,he,hfs⟩:=znd hvx hfx' hne
  exact⟨.inl ⟨by omega,a,f,e,by rw[he];rfl,hfs⟩,hgM2.trans hg3⟩
 have hlt:k < ks.length:=by omega
 rcases hrd with h0|⟨i2,o2,rfl,hrd⟩
 ·rw[h0] at hlt;exact absurd hlt (Nat.not_lt_zero _)
 have hr3:=(hrd k hlt).grow hg3
 have hkk:=hL.look ks[k]
 have hfr:frK R ks[k]=(ks[k].1,ks[k].2,(lkK R ks[k]).getD []):=rfl
 have htk:(ks.take (k+1)).map (frK R)=(ks.take k).map (frK R) ++ [frK R ks[k]]:=by rw[List.take_succ_eq_append_getElem hlt,List.map_append];rfl
 obtain⟨av,fv,ev,hve,hv1,hvs⟩:=hkk
 generalize (lkK R ks[k]).getD []=smp at *
 have hmr:=At.grow (hgM2.trans hg3) hm
 have hlke:=hve
 generalize ks[k]=kk at *
 have hxl:xs.length=k:=by rw[hfx.l.len];simp;omega
 (have hrd0:=hr3;repeat' (first|(with_reducible intro _)|refine sv ?_|(refine sc ?_ ?_<;>(intro h;try exact sz h))|refine sg ?_ ?_<;>(intro h;first|exact sz h|refine sy h ?_)|exact sq|fail))
 rename_i n4 M4 hN4 q4 q4' M5 hU5 q5 hA5
 have hm5:At M5 r (.map (encK L) bs clk):=by have:=hm.2;have:=hgM2.le;have:=hg3.le;exact xm
 have lk5:∀ {E:Env} {x y:XO} (m:Mem),At m r (.map (encK L) bs clk)->xval E x=some (.map (some r))->xval E y=some (kyv kk)->ze Tryz.prog (.lkp 114 zsl false x y) E m=some (.val (.slice av smp.length fv ev) m):=fun m hm hx hy=>by
  have:=zi3 hm hx hy
  rw[hve] at this;exact this
 have hkp5:Keep (fun _=>False) M3 M5:=xk
 have hl5:=hkp5.le
 have hvx5:=hvx.keep hkp5 (fun i hi=>hi.elim)
 have hl3:=hg3.le
 have hg5:Grow M2 M5:=xg
 have hrl:=hm.2
 have hM2:=hgM2.le
 clear hU5 hN4
 repeat' first|with_reducible intro _|refine sv ?_|refine sc ?_ ?_<;>(intro h;try exact sz h)|refine sg ?_ ?_<;>(intro h;first|exact sz h|refine sy h ?_)|exact sq|fail
 refine z54 (by exact gd) (lk5 _ hm5 rfl rfl) (fun m=>At m r (.map (encK L) bs clk)) (fun m hm=>lk5 m hm rfl rfl) ?_
 repeat' first|with_reducible intro _|refine sv ?_|refine sc ?_ ?_<;>(intro h;try exact sz h)|refine sg ?_ ?_<;>(intro h;first|exact sz h|refine sy h ?_)|exact sq|fail
 rename_i n6 M6 hN6 q6 q6'
 have hvx6:=hvx5.grow hN6.grow
 have hg6:Grow M2 M6:=hg5.trans hN6.grow
 have hfx2:FwL1 M (xs ++ [(kk,av,smp.length,fv,ev)]) ((ks.take (k+1)).map (frK R)):=by
  rw[htk,hfr]
  exact hfx.snoc ⟨rfl,rfl,hvs⟩ hv1
 have hl6:=hg6.le
 refine zhd (l':=[(kk,av,smp.length,fv,ev)]) (by exact gd) hvx6 rfl rfl rfl (by simp) (by simp;omega) rfl (zkc (x:=(kk,av,smp.length,fv,ev)) hN6) (fun _=>rfl) (fun _=>rfl) (by omega) ?_
 intro v7 M7 hv7 e7 hk7
 have hg7:Grow M2 M7:=Keep.to_grow' hg6 hk7 (fun i hi=>hi.1)
 obtain⟨a7,f7,e7',rfl⟩:=hv7.shape
 have hob:∀ i,i < M2.next->¬(M2.next<=i /\ ∃ o n f e,LV.slice a3 xs.length f3 e3=.slice (some (i,o)) n f e):=fun i hi h=>by omega
 repeat' first|with_reducible intro _|refine sv ?_|refine sc ?_ ?_<;>(intro h;try exact sz h)|refine sg ?_ ?_<;>(intro h;first|exact sz h|refine sy h ?_)|exact sq|fail
 exact zf (ks.length - (k+1)) (by omega) ⟨k+1,_,_,rfl,by omega,rfl,.cons rfl (.cons rfl (.cons rfl (.cons rfl (.cons rfl .nil)))),hv7,hfx2,hg7⟩
section
variable {P:Program} [Orc P] {sz:Nat} {E:Env} {M:Mem} {K:Env->Mem->Prop} {l:List XG} {g:Option (Nat × Bool)} {st:List Mem} {n:Nat} {xs:List (Nat × Nat × (Mem->Prop))} {ld:List (XG × XK)} {x y z':XO} {r:Nat} {R:Rk} {k:Ky} {v:LV} {smp:List Int}
end
def RkB(R:Rk):Prop:=∀ k,((lkK R k).getD []).length<=64
theorem RkB.nil:RkB []:=fun k=>Nat.zero_le _
theorem RkB.add{R:Rk}(h:RkB R){f:Fr}(hf:f.2.2.length<=64):RkB (rkA R f):=fun k=>by
 unfold rkA
 rw[zi0]
 split
 ·rw[Option.getD_some,z1h]
  have:=h (fky f)
  omega
 ·exact h k
def FrOk(L:List Fr):Prop:=∀ x ∈ L,frB x=true
theorem FrOk.k{L:List Fr}(h:FrOk L):∀ x ∈ L,FrK x:=fun x hx=>by have:=z6q (h x hx);exact⟨this.1,this.2.1,this.2.2.1,this.2.2.2.1⟩
theorem z4w{x:Fr}(h:frB x=true):1<=x.2.2.length /\ x.2.2.length<=64:=by
 have:=znb (x:=x) (by unfold errF;rw[h];rfl)
 omega
theorem zfy{α β:Type}{f:β->α->β}{b:β}{L:List α}{k:Nat}(h:k < L.length):(L.take (k+1)).foldl f b=f ((L.take k).foldl f b) L[k]:=by
 rw[List.take_succ_eq_append_getElem h,List.foldl_append];rfl
theorem Rd1.nem{M:Mem}{i o r:Nat}{v:LV}{es:List (LV × LV)}{bs:List Nat}{c:Nat}(h:Rd1 M i o v)(hm:At M r (.map es bs c)):i ≠ r:=fun e=>by
 subst e
 have h1:=h.1
 unfold load1 atCells at h1
 rw[hm.1] at h1
 cases h1
theorem Rd.nem{M:Mem}{i o n r:Nat}{v:List LV}{es:List (LV × LV)}{bs:List Nat}{c:Nat}(h:Rd M i o n v)(hm:At M r (.map es bs c)):i ≠ r:=fun e=>by
 subst e
 have h1:=h.1
 unfold loadN atCells at h1
 rw[hm.1] at h1
 cases h1
theorem SlI.keepm{M M':Mem}{r:Nat}{es:List (LV × LV)}{bs:List Nat}{c:Nat}{a:Option (Nat × Nat)}{l:List Int}(h:SlI M a l)(hm:At M r (.map es bs c))(hk:Keep (fun i=>i=r) M M'):SlI M' a l :=
 h.imp id fun⟨i,o,h1,h2⟩=>⟨i,o,h1,fun k hk'=>(h2 k hk').keep hk (Rd1.nem (h2 k hk') hm)⟩
theorem FsV.keepm{M M':Mem}{r:Nat}{es:List (LV × LV)}{bs:List Nat}{c:Nat}{a:Option (Nat × Nat)}{L:List Fr}(h:FsV M a L)(hm:At M r (.map es bs c))(hk:Keep (fun i=>i=r) M M'):FsV M' a L :=
 h.imp id fun⟨i,o,h1,h2⟩=>⟨i,o,h1,fun k hk'=>by
  obtain⟨b,g,u,h3,h4⟩:=h2 k hk'
  exact⟨b,g,u,h3.keep hk (Rd.nem h3 hm),SlI.keepm h4 hm hk⟩⟩
end Go.Proofs.YtbfnnllgdioccaaGreatDoor.C
end
section
open Go PvL
set_option linter.unusedSimpArgs false
set_option linter.unusedVariables false
namespace Go.Proofs.YtbfnnllgdioccaaGreatDoor.C
def oJ:Option (List Int)->Option (List Int)->Option (List Int)
 | none,b=>b
 | some a,none=>some a
 | some a,some b=>some (z0s a b)
theorem zl4:∀ {J J':List Fr},SrtJ J->SrtJ J'->(∀ k,lkJ J k=lkJ J' k)->J=J':=by
 intro J J' h1 h2 h
 have e:J.map fky=J'.map fky:=zdw h1.keys h2.keys fun k=>by rw[<-zap,<- zap,h]
 have hl:J.length=J'.length:=by simpa using congrArg List.length e
 refine List.ext_getElem hl fun i hi hi'=>?_
 have hk:fky J[i]=fky J'[i]:=by
  have h3:=List.getElem_of_eq e (i:=i) (by simpa using hi)
  simpa using h3
 have h3:=zca h1 J[i] (List.getElem_mem hi)
 have h4:=zca h2 J'[i] (List.getElem_mem hi')
 rw[<-hk,<- h,h3] at h4
 have h5:J[i].2.2=J'[i].2.2:=Option.some.inj h4
 have h6:(fky J[i]).1=(fky J'[i]).1:=congrArg Prod.fst hk
 have h7:(fky J[i]).2=(fky J'[i]).2:=congrArg Prod.snd hk
 exact Prod.ext h6 (Prod.ext h7 h5)
structure GdL (J:List Fr):Prop where
 s:SrtJ J
 b:∀ x ∈ J,frB x=true
theorem znc{x:Fr}(h:frB x=true):FrK x:=by have:=z6q h;exact⟨this.1,this.2.1,this.2.2.1,this.2.2.2.1⟩
theorem GdL.k{J:List Fr}(h:GdL J):∀ x ∈ J,FrK x:=fun x hx=>znc (h.b x hx)
theorem zpp{J:List Fr}(h:C.rlK J J.length=true):GdL J:=by
 have hb:∀ x ∈ J,frB x=true:=fun x hx=>by
  obtain⟨i,hi,rfl⟩:=List.mem_iff_getElem.1 hx
  have:=ziw h hi
  rw[z71 hi] at this;exact this
 refine⟨?_,hb⟩
 unfold SrtJ
 rw[List.pairwise_iff_getElem]
 intro i j hi hj hij
 have:=zq6 h hij hj
 rw[z71 hi,z71 hj] at this
 exact(zdi (znc (hb _ (List.getElem_mem hi))) (znc (hb _ (List.getElem_mem hj)))).1 this
theorem zl3{a b:List Int}(ha:smsB a=true)(hb:smsB b=true):smsB (z0s a b)=true:=by
 unfold smsB btB at *
 simp only[Bool.and_eq_true,decide_eq_true_eq] at *
 rw[z1h]
 exact⟨by omega,znz ha.2 hb.2⟩
theorem zkb{g f:Fr}(hg:frB g=true)(hf:frB f=true):frB (g.1,g.2.1,z0s g.2.2 f.2.2)=true:=by
 have h1:=z6q hg
 have h2:=z6q hf
 unfold frB btB
 simp only[Bool.and_eq_true,decide_eq_true_eq]
 exact⟨⟨h1.1,h1.2.1⟩,⟨h1.2.2.1,h1.2.2.2.1⟩,zl3 h1.2.2.2.2 h2.2.2.2.2⟩
theorem zgo{f:Fr}(hf:frB f=true):∀ {J:List Fr},(∀ x ∈ J,frB x=true)->∀ x ∈ addR J f,frB x=true
 | [],_=>fun x hx=>by
  have hx:x ∈ [f]:=hx
  have:x=f:=by simpa using hx
  rw[this];exact hf
 | g :: l,h=>fun x hx=>by
  unfold addR at hx
  split at hx
  ·rcases List.mem_cons.1 hx with rfl|hx
   ·exact zkb (h g (by simp)) hf
   ·exact h x (by simp[hx])
  ·split at hx
   ·rcases List.mem_cons.1 hx with rfl|hx
    ·exact hf
    ·exact h x hx
   ·rcases List.mem_cons.1 hx with rfl|hx
    ·exact h x (by simp)
    ·exact zgo hf (fun y hy=>h y (by simp[hy])) x hx
theorem zhj{L:List Fr}:∀ {J:List Fr},(∀ x ∈ J,frB x=true)->(∀ x ∈ L,frB x=true)->∀ x ∈ L.foldl addR J,frB x=true:=by
 induction L with
 | nil=>intro J h _;exact h
 | cons f L ih=>intro J h h';exact ih (zgo (h' f (by simp)) h) fun x hx=>h' x (by simp[hx])
def jnL(a b:List Fr):List Fr:=z1e (a ++ b)
theorem zet:∀ {J:List Fr} {k:Ky} {l:List Int},lkJ J k=some l->∃ x ∈ J,fky x=k /\ x.2.2=l
 | x :: J,k,l,h=>by
  rw[z8x] at h
  by_cases hk:k=fky x
  ·rw[if_pos hk] at h
   exact⟨x,by simp,hk.symm,Option.some.inj h⟩
  ·rw[if_neg hk] at h
   obtain⟨y,h1,h2⟩:=zet h
   exact⟨y,by simp[h1],h2⟩
def zRl:Rl:=(⟨#[]⟩,[])
def mergeF(x y:Rl):Rl × Int :=
 if z1r x=0 then(if z1r y=0 then(if x.1=y.1 then(if (z1e (x.2 ++ y.2)).length<=128 then((x.1,z1e (x.2 ++ y.2)),0) else(zRl,6)) else(zRl,2)) else(zRl,z1r y)) else(zRl,z1r x)
def mgOk(x y:Rl):Prop:=z1r x=0 /\ z1r y=0 /\ x.1=y.1 /\ (jnL x.2 y.2).length<=128
theorem err0{x:Rl}(h:z1r x=0):nmB x.1=true /\ x.2.length<=128 /\ GdL x.2:=by
 unfold z1r at h
 cases hb:rlB x with
 | false=>rw[hb] at h;simp at h
 | true =>
  unfold rlB at hb
  simp only[Bool.and_eq_true,decide_eq_true_eq] at hb
  exact⟨hb.1.1,hb.1.2,zpp hb.2⟩
end Go.Proofs.YtbfnnllgdioccaaGreatDoor.C
end
section
open Go PvL Go.Proofs
set_option linter.unusedSimpArgs false
set_option linter.unusedVariables false
variable {μ:Md}
namespace Go.Proofs.YtbfnnllgdioccaaGreatDoor.C
theorem znx{x:Rl}(h:z1r x=0):FrOk x.2 /\ x.2.length<=128 /\ nmB x.1=true /\ rlK x.2 x.2.length=true:=by
 unfold z1r at h
 cases hb:rlB x with
 | false=>rw[hb] at h;simp at h
 | true =>
  unfold rlB at hb
  simp only[Bool.and_eq_true,decide_eq_true_eq] at hb
  refine⟨fun f hf=>?_,hb.1.2,hb.1.1,hb.2⟩
  obtain⟨i,hi,rfl⟩:=List.mem_iff_getElem.1 hf
  have:=ziw hb.2 hi
  rw[z71 hi] at this;exact this
theorem z76(M:Mem):RlV M (.agg [.str ⟨#[]⟩,.slice none 0 true 0]) zRl:=⟨none,true,0,rfl,.inl rfl⟩
theorem RkM.nil{M M':Mem}{r:Nat}(hN:New M r (.map [] [] 0) M'):RkM M' r []:=⟨[],[],0,At.new_same hN,⟨rfl,List.nodup_nil,fun _ h=>nomatch h⟩,.nil⟩
theorem Rd1.ner{M:Mem}{i o n:Nat}{v:Int}{own:Bool}{s:ByteArray}{p:Option (Nat × Nat)}{k:Nat}{f:Bool}{e:Nat}{ty:TypeId}(h:Rd1 M i o (I v))(hm:At M n (.cells own [.str s,.slice p k f e] ty)):i ≠ n:=fun he=>by
 subst he
 have h1:=h.1
 unfold load1 atCells at h1
 rw[hm.1] at h1
 have h1:PvL.nth [LV.str s,.slice p k f e] o=some (I v):=h1
 match o,h1 with
 | 0,h1=>cases h1
 | 1,h1=>cases h1
 | o+2,h1=>cases h1
theorem Rd.ner{M:Mem}{i o n:Nat}{x y z:LV}{own:Bool}{s:ByteArray}{p:Option (Nat × Nat)}{k:Nat}{f:Bool}{e:Nat}{ty:TypeId}(h:Rd M i o 3 [x,y,z])(hm:At M n (.cells own [.str s,.slice p k f e] ty)):i ≠ n:=fun he=>by
 subst he
 have h1:=h.1
 unfold loadN atCells at h1
 rw[hm.1] at h1
 have h1:take' 3 (drop' o [LV.str s,.slice p k f e])=some [x,y,z]:=h1
 match o,h1 with
 | 0,h1=>cases h1
 | 1,h1=>cases h1
 | 2,h1=>cases h1
 | o+3,h1=>cases h1
theorem SlI.updr{M M':Mem}{n:Nat}{lb:LB}{own:Bool}{s:ByteArray}{p:Option (Nat × Nat)}{k:Nat}{f:Bool}{e:Nat}{ty:TypeId}{a:Option (Nat × Nat)}{l:List Int}(h:SlI M a l)(hm:At M n (.cells own [.str s,.slice p k f e] ty))(hu:Upd M n lb M'):SlI M' a l :=
 h.imp id fun⟨i,o,h1,h2⟩=>⟨i,o,h1,fun k hk'=>Rd1.upd_ne hu (Rd1.ner (h2 k hk') hm) (h2 k hk')⟩
theorem FsV1.updr{M M':Mem}{n:Nat}{lb:LB}{own:Bool}{s:ByteArray}{p:Option (Nat × Nat)}{k:Nat}{f:Bool}{e:Nat}{ty:TypeId}{a:Option (Nat × Nat)}{L:List Fr}(h:FsV1 M a L)(hm:At M n (.cells own [.str s,.slice p k f e] ty))(hu:Upd M n lb M'):FsV1 M' a L :=
 h.imp id fun⟨i,o,h1,h2⟩=>⟨i,o,h1,fun k hk'=>by
  obtain⟨b,g,h3,h4⟩:=h2 k hk'
  exact⟨b,g,Rd.upd_ne hu (Rd.ner h3 hm) h3,SlI.updr h4 hm hu⟩⟩
