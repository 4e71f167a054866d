/-
 Part of the proof of TapeKept. No condition beyond those in each theorem.
-/
import Derived.Test.YtpgalhbplcanhaaGreatDoorSF
import Derived.Test.YtpgalhbplcanhaaGreatDoorSC
import Derived.Test.YtpgalhbplcanhaaGreatDoorSB
set_option linter.unusedVariables false
set_option linter.unusedSimpArgs false
set_option linter.unusedSectionVars false
section
open Go PvL Go.Proofs
namespace Go.Proofs.YtpgalhbplcanhaaGreatDoor.C
variable {M:Mem} {p n a b q e:Nat} {f:Bool} {ty ty2:TypeId} {c:Int}
set_option maxHeartbeats 4000000 in
theorem zbw {G:Nat->Ky}(v:KT M p n ty G)(H:At M q (.cells true [I c] ty2))(E:a<n)(F:b<n)(L:n<=1000)(K:0<=c/\c<=1000) :
  zc Tryz.prog 360 [.slice (some (p,0)) n f e,I a,I b,.ptr (some (q,0)),cf] M (fun w M'=>∃(x y:Nat) (g:Int),w=.tup [I x,I y]/\((x=a/\y=b) ∨(x=b/\y=a))/\c<=g/\g<=c+1/\At M' q (.cells true [I g] ty2)/\Keep (fun i=>i=q) M M'):=by
 refine zd Y360.2 rfl ?_
 delta Y360;refine un ?_
 have s:=z1a v E
 have t:=z1a v F
 have C:=fun M'=>z27 (G b).1 (G b).2 (G a).1 (G a).2 M'
 (have z:=s;have A:=t;repeat' (first|(with_reducible intro _)|refine sv ?_|((with_reducible first|apply zw|apply zx|apply zm);exact gd;exact rfl;exact rfl;(first|exact C _))|refine ss ?_ ?_<;>(intro h;first|exact sz h|refine sy h ?_)|exact sq|fail))
 ·rename_i u d J B D N j
  have o:Keep (fun i=>i=q) M B:=xk
  refine kf ?_
  exact⟨b,a,c+1,rfl,.inr ⟨rfl,rfl⟩,by omega,by omega,j,o⟩
 ·rename_i u d J
  have m:Keep (fun i=>i=q) M u:=xk
  refine kf ?_
  exact⟨a,b,c,rfl,.inl ⟨rfl,rfl⟩,by omega,by omega,H.grow d,m⟩
set_option maxHeartbeats 4000000 in
theorem zbv {d:Nat}{G:Nat->Ky}(D:KT M p n ty G)(hq:At M q (.cells true [I c] ty2))(s:p≠q)(U:a<n)(V:b<n)(X:d<n)(z:n<=1000)(hc:0<=c/\c<=900) :
  zc Tryz.prog 350 [.slice (some (p,0)) n f e,I a,I b,I d,.ptr (some (q,0)),cf] M (fun w M'=>∃(x:Nat) (t:Int),w=I x/\(x=a∨x=b∨x=d)/\c<=t/\t<=c+3/\At M' q (.cells true [I t] ty2)/\Keep (fun i=>i=q) M M'):=by
 refine zd Y350.2 rfl ?_
 delta Y350;refine un ?_
 have P:=zbw (f:=f) (e:=e) D hq U V z (by omega)
 refine Wlh @P ?_;intro w1 N j
 obtain⟨x1,y1,d1,rfl,J,Y,E,A,m⟩:=j
 have g:KT N p n ty G:=D.keep m s
 have Q:=zbw (f:=f) (e:=e) (a:=y1) (b:=d) g A (by omega) X z (by omega)
 refine Wlh @Q ?_;intro w2 O j
 obtain⟨x2,y2,d2,rfl,K,Z,F,B,o⟩:=j
 have u:KT O p n ty G:=g.keep o s
 have R:=zbw (f:=f) (e:=e) (a:=x1) (b:=x2) u B (by omega) (by omega) z (by omega)
 refine Wlh @R ?_;intro w3 M3 j
 obtain⟨x3,y3,S,rfl,L,a0,H,C,y⟩:=j
 refine Wh ?_
 refine kf ?_
 exact⟨y3,S,rfl,by omega,by omega,by omega,C,(m.trans o (fun i v=>.inl v)).trans y (fun i v=>.inl v)⟩
set_option maxHeartbeats 4000000 in
theorem zbu {G:Nat->Ky}(y:KT M p n ty G)(C:At M q (.cells true [I c] ty2))(s:p≠q)(H:1<=a/\a+1<n)(B:n<=1000)(z:0<=c/\c<=900) :
  zc Tryz.prog 349 [.slice (some (p,0)) n f e,I a,.ptr (some (q,0)),cf] M (fun w M'=>∃(x:Nat) (j:Int),w=I x/\a<=x+1/\x<=a+1/\c<=j/\j<=c+3/\At M' q (.cells true [I j] ty2)/\Keep (fun i=>i=q) M M'):=by
 refine zd Y349.2 rfl ?_
 delta Y349;refine un ?_
 have u:=zbv (f:=f) (e:=e) (a:=a-1) (b:=a) (d:=a+1) y C s (by omega) (by omega) (by omega) B z
 rw[show((a-1:Nat):Int)=(a:Int)-1 by omega,show((a+1:Nat):Int)=(a:Int)+1 by omega] at u
 refine Wlh @u ?_;intro J F A
 obtain⟨E,v,rfl,D,m,g,t,o⟩:=A
 refine Wh ?_
 refine kf ?_
 exact⟨E,v,rfl,by omega,by omega,m,g,t,o⟩
set_option maxHeartbeats 8000000 in
theorem zna {G:Nat->Ky}(J:KT M p n ty G)(hb:b<=n)(a6:a+8<=b)(F:n<=1000) :
  zc Tryz.prog 311 [.slice (some (p,0)) n f e,I a,I b,cf] M (fun w M'=>∃(x:Nat) (h:Int),w=.tup [I x,I h]/\a<=x/\x<b/\Grow M M'):=by
 refine zd Y311.2 rfl ?_
 delta Y311;refine un ?_
 obtain⟨l,rfl⟩:∃ l,b=a+l:=⟨b-a,by omega⟩
 have v1:((a+l/4:Nat):Int)=(a:Int)+(((a+l:Nat):Int)-(a:Int))/4*1:=by omega
 have v2:((a+l/4*2:Nat):Int)=(a:Int)+(((a+l:Nat):Int)-(a:Int))/4*2:=by omega
 have v3:((a+l/4*3:Nat):Int)=(a:Int)+(((a+l:Nat):Int)-(a:Int))/4*3:=by omega
 repeat' first|with_reducible intro _|refine sv ?_|refine ss ?_ ?_<;>(intro h;first|exact sz h|refine sy h ?_)|exact sq|fail
 all_goals try(exfalso;omega)
 ·rename_i q y j e1 e2 L
  have v:At y q (.cells true [I 0] 3):=At.new_same j
  have m:KT y p n ty G:=At.grow j.grow J
  have g:p≠q:=by have:=J.2;omega
  have X:=zbu (f:=f) (e:=e) (a:=a+l/4) m v g (by omega) F (by omega)
  rw[v1] at X
  refine Wlh @X ?_;intro w1 M2 o
  obtain⟨x1,d1,rfl,b0,a3,a7,a0,P,C⟩:=o
  have z:KT M2 p n ty G:=m.keep C g
  have Y:=zbu (f:=f) (e:=e) (a:=a+l/4*2) z P g (by omega) F (by omega)
  rw[v2] at Y
  refine Wlh @Y ?_;intro w2 M3 o
  obtain⟨x2,d2,rfl,b1,a4,a8,a1,Q,D⟩:=o
  have A:KT M3 p n ty G:=z.keep D g
  have Z:=zbu (f:=f) (e:=e) (a:=a+l/4*3) A Q g (by omega) F (by omega)
  rw[v3] at Z
  refine Wlh @Z ?_;intro w3 M4 o
  obtain⟨x3,d3,rfl,b2,a5,a9,a2,R,E⟩:=o
  have N:KT M4 p n ty G:=A.keep E g
  have H:=zbv (f:=f) (e:=e) (a:=x1) (b:=x2) (d:=x3) N R g (by omega) (by omega) (by omega) F (by omega)
  refine Wlh @H ?_;intro w9 K o
  obtain⟨V,d9,rfl,U,O,B,S,u⟩:=o
  have s:Grow M K:=Keep.to_grow' j.grow (((C.trans D (fun i t=>.inl t)).trans E (fun i t=>.inl t)).trans u (fun i t=>.inl t)) (fun i t=>by omega)
  repeat' first|with_reducible intro _|refine sv ?_|refine ss ?_ ?_<;>(intro h;first|exact sz h|refine sy h ?_)|exact sq|fail
  all_goals ((refine kf ?_);exact⟨V,_,rfl,by omega,by omega,s⟩)
 ·rename_i q y j e1 e2 L
  have v:At y q (.cells true [I 0] 3):=At.new_same j
  have m:KT y p n ty G:=At.grow j.grow J
  have g:p≠q:=by have:=J.2;omega
  have H:=zbv (f:=f) (e:=e) (a:=a+l/4) (b:=a+l/4*2) (d:=a+l/4*3) m v g (by omega) (by omega) (by omega) F (by omega)
  rw[v1,v2,v3] at H
  refine Wlh @H ?_;intro w9 K o
  obtain⟨V,d9,rfl,U,O,B,S,u⟩:=o
  have s:Grow M K:=Keep.to_grow' j.grow u (fun i t=>by omega)
  repeat' first|with_reducible intro _|refine sv ?_|refine ss ?_ ?_<;>(intro h;first|exact sz h|refine sy h ?_)|exact sq|fail
  all_goals ((refine kf ?_);exact⟨V,_,rfl,by omega,by omega,s⟩)
set_option maxHeartbeats 16000000 in
theorem zug {x:Nat}{G:Nat->Ky}(hA:KT M p n ty G)(hb:b<=n)(b4:a<=x)(b7:x<b)(hn:n<=1000) :
  zc Tryz.prog 315 [.slice (some (p,0)) n f e,I a,I b,I x,cf] M (fun w M'=>∃(m:Nat) (q:Bool) (G':Nat->Ky),w=.tup [I m,.bool q]/\Parted a b m G'/\Sw a b G G'/\KT M' p n ty G'/\Keep (fun i=>i=p) M M'):=by
 refine zd Y315.2 rfl ?_
 delta Y315;refine un ?_
 have o:=z1a hA (show a<n by omega)
 have s:=z1a hA (show x<n by omega)
 have D:=o;have F:=s;refine Wh ?_
 refine d_st (by exact gd) rfl rfl hA rfl rfl (z0w (by omega) (G x)) ?_
 intro M7 b2 e7 a7
 refine Wh ?_
 refine d_st (by exact gd) rfl rfl a7 rfl rfl (z0w (by omega) (G a)) ?_
 intro M8 b3 e8 d
 have g:Keep (fun i=>i=p) M M8:=xk
 have d:KT M8 p n ty (sw G a x):=d
 have hw:Sw a b G (sw G a x):=.one (by omega) (by omega) b4 b7
 generalize sw G a x=t at *
 clear o s hA b2 e7 a7 b3 e8
 refine Wh ?_
 have v:PL a b (a+1) (b-1) t:=PL.start (by omega)
 rw[show(b:Int)-1=((b-1:Nat):Int) by omega]
 have c7:b-1<b:=by omega
 generalize b-1=j0 at *
 refine z2k (K:=fun x E H M'=>x=.exit 0/\H=[] /\ ∃ i,PL a b i j0 t/\(i<=j0->¬ klt (t i) (t a))/\Has E [(0,.slice (some (p,0)) n f e),(1,I a),(4,cf),(12,I i),(13,I j0)]/\KT M' p n ty t/\Keep (fun i=>i=p) M M') ?_ ?_
 ·refine zg (fun z E H M'=>∃ i,z=b+2-i/\PL a b i j0 t/\H=[]/\Has E [(0,.slice (some (p,0)) n f e),(1,I a),(4,cf),(12,I i),(13,I j0)]/\KT M' p n ty t/\Keep (fun i=>i=p) M M')
   ?_ (b+2-(a+1)) _ _ _ ⟨(a+1),rfl,v,rfl,hz,d,g⟩
  rintro z E H M5 ⟨i,rfl,v,rfl,P,d,g⟩
  refine z06 P ?_
  have V:=v
  obtain⟨g1,g2,g3,-,-⟩:=V
  by_cases B:i<=j0
  case neg=>
   refine Wg ?_;intro _ h
   exact⟨rfl,rfl,i,v,fun O=>absurd O B,hz,d,g⟩
  have o:=z1a d (show i<n by omega)
  have s:=z1a d (show a<n by omega)
  have co:=fun M'=>z27 (t i).1 (t i).2 (t a).1 (t a).2 M'
  (have D:=o;have F:=s;repeat' (first|(with_reducible intro _)|refine sv ?_|((with_reducible first|apply zw|apply zx|apply zm);exact gd;exact rfl;exact rfl;(first|exact co _))|refine ss ?_ ?_<;>(intro h;first|exact sz h|refine sy h ?_)|exact sq|fail))
  all_goals try(exfalso;omega)
  ·rename_i hx M6 g6 q6
   have Y:=(z10 (t i) (t a)).1 h
   exact zi (b+2-(i+1)) (by omega) ⟨i+1,rfl,v.up B Y,rfl,hz,d.grow g6,xk⟩
  ·rename_i hx M6 g6 q6
   have A:Keep (fun i=>i=p) M M6:=xk
   exact⟨rfl,rfl,i,v,fun _ O=>absurd ((z10 _ _).2 O) (Int.not_lt.2 h),hz,d.grow g6,A⟩
 rintro x E H c0 ⟨rfl,rfl,Q,v,C,P,d,g⟩
 apply z1p
 apply z42
 refine z06 P ?_
 refine Wh ?_
 refine z2k (K:=fun x E H M'=>x=.exit 2/\H=[] /\ ∃ j,j<=j0/\PL a b Q j t/\(Q<=j->klt (t j) (t a))/\(Q<=j->¬ klt (t Q) (t a))/\Has E [(0,.slice (some (p,0)) n f e),(1,I a),(4,cf),(12,I Q),(13,I j)]/\KT M' p n ty t/\Keep (fun i=>i=p) M M') ?_ ?_
 ·refine zg (fun z E H M'=>z<=j0/\PL a b Q z t/\(Q<=z->¬ klt (t Q) (t a))/\H=[]/\Has E [(0,.slice (some (p,0)) n f e),(1,I a),(4,cf),(12,I Q),(13,I z)]/\KT M' p n ty t/\Keep (fun i=>i=p) M M')
   ?_ j0 _ _ _ ⟨Nat.le_refl _,v,C,rfl,hz,d,g⟩
  rintro j E H M5 ⟨X,v,C,rfl,P,d,g⟩
  refine z06 P ?_
  have V:=v
  obtain⟨g1,g2,g3,-,-⟩:=V
  by_cases B:Q<=j
  case neg=>
   refine Wg ?_;intro _ h
   exact⟨rfl,rfl,j,X,v,fun O=>absurd O B,fun O=>absurd O B,hz,d,g⟩
  have o:=z1a d (show j<n by omega)
  have s:=z1a d (show a<n by omega)
  have co:=fun M'=>z27 (t j).1 (t j).2 (t a).1 (t a).2 M'
  (have D:=o;have F:=s;repeat' (first|(with_reducible intro _)|refine sv ?_|((with_reducible first|apply zw|apply zx|apply zm);exact gd;exact rfl;exact rfl;(first|exact co _))|refine ss ?_ ?_<;>(intro h;first|exact sz h|refine sy h ?_)|exact sq|fail))
  all_goals try(exfalso;omega)
  ·rename_i hx M6 g6 q6
   obtain⟨j',rfl⟩:∃ j',j=j'+1:=⟨j-1,by omega⟩
   have a6:¬ klt (t (j'+1)) (t a):=fun O=>absurd ((z10 _ _).2 O) (Int.not_lt.2 h)
   have A:Keep (fun i=>i=p) M M6:=xk
   refine zi j' (by omega) ⟨by omega,v.down B a6,fun O=>C (by omega),rfl,.cons rfl (.cons rfl (.cons rfl (.cons rfl (.cons ?_ .nil)))),d.grow g6,A⟩
   show some (I _)=some (I _)
   rw[show(((j'+1:Nat):Int)-1)=(j':Int) by omega]
  ·rename_i hx M6 g6 q6
   have Y:=(z10 (t j) (t a)).1 h
   have A:Keep (fun i=>i=p) M M6:=xk
   exact⟨rfl,rfl,j,X,v,fun _=>Y,C,hz,d.grow g6,A⟩
 rintro x E H c1 ⟨rfl,rfl,Z,X,v,a3,C,P,d,g⟩
 apply z1p
 apply z42
 have a5:=v
 obtain⟨g1,g2,g3,-,-⟩:=a5
 refine z06 P ?_
 by_cases B:Z<Q
 case pos=>
  have o:=z1a d (show Z<n by omega)
  have s:=z1a d (show a<n by omega)
  have D:=o;have F:=s;refine Wg ?_;intro h
  have J:=d
  refine d_st (by exact gd) rfl rfl J rfl rfl (z0w (by omega) (t a)) ?_
  intro a4 L S y
  refine Wh ?_
  refine d_st (by exact gd) rfl rfl y rfl rfl (z0w (by omega) (t Z)) ?_
  intro a0 N U d
  have g:Keep (fun i=>i=p) M a0:=xk
  have d:KT a0 p n ty (sw t Z a):=d
  clear o s J L S y N U
  have a2:Sw a b G (sw t Z a):=.step hw (by omega) (by omega) (by omega) (by omega)
  have hd:=v.done B
  refine Wh ?_
  refine kf ?_
  exact⟨Z,true,_,rfl,hd,a2,d,g⟩
 have o:=z1a d (show Q<n by omega)
 have s:=z1a d (show Z<n by omega)
 have D:=o;have F:=s;refine Wg ?_;intro h
 have J:=d
 refine d_st (by exact gd) rfl rfl J rfl rfl (z0w (by omega) (t Z)) ?_
 intro a4 L S y
 refine Wh ?_
 refine d_st (by exact gd) rfl rfl y rfl rfl (z0w (by omega) (t Q)) ?_
 intro a0 N U d
 have g:Keep (fun i=>i=p) M a0:=xk
 have d:KT a0 p n ty (sw t Q Z):=d
 clear o s J L S y N U
 obtain⟨b8,a8⟩:=v.swap (by omega) (C (by omega)) (a3 (by omega))
 have a2:Sw a b G (sw t Q Z):=.step hw (by omega) (by omega) (by omega) (by omega)
 refine Wh ?_
 rw[show(Z:Int)-1=((Z-1:Nat):Int) by omega]
 generalize c4:sw t Q Z=G2 at *
 generalize c5:Z-1=j2 at *
 refine zg (fun z E H M'=>∃(i:Nat) (G':Nat->Ky),PL a b i z G'/\Sw a b G G'/\H=[]/\Has E [(0,.slice (some (p,0)) n f e),(1,I a),(4,cf),(12,I i),(13,I z)]/\KT M' p n ty G'/\Keep (fun i=>i=p) M M')
  ?_ j2 _ _ _ ⟨Q+1,G2,a8,a2,rfl,hz,d,g⟩
 clear d g a2 a8 P C a3 v
 rintro j3 E H M3 ⟨i3,u,v,b0,rfl,P,d,g⟩
 refine z06 P ?_
 refine Wh ?_
 refine z2k (K:=fun x E H M'=>x=.exit 6/\H=[] /\ ∃ i,PL a b i j3 u/\(i<=j3->¬ klt (u i) (u a))/\Has E [(0,.slice (some (p,0)) n f e),(1,I a),(4,cf),(12,I i),(13,I j3)]/\KT M' p n ty u/\Keep (fun i=>i=p) M M') ?_ ?_
 ·refine zg (fun z E H M'=>∃ i,z=b+2-i/\PL a b i j3 u/\H=[]/\Has E [(0,.slice (some (p,0)) n f e),(1,I a),(4,cf),(12,I i),(13,I j3)]/\KT M' p n ty u/\Keep (fun i=>i=p) M M')
   ?_ (b+2-i3) _ _ _ ⟨i3,rfl,v,rfl,hz,d,g⟩
  rintro z E H M5 ⟨i,rfl,v,rfl,P,d,g⟩
  refine z06 P ?_
  have V:=v
  obtain⟨g1,g2,g3,-,-⟩:=V
  by_cases B:i<=j3
  case neg=>
   refine Wg ?_;intro _ h
   exact⟨rfl,rfl,i,v,fun O=>absurd O B,hz,d,g⟩
  have o:=z1a d (show i<n by omega)
  have s:=z1a d (show a<n by omega)
  have co:=fun M'=>z27 (u i).1 (u i).2 (u a).1 (u a).2 M'
  (have D:=o;have F:=s;repeat' (first|(with_reducible intro _)|refine sv ?_|((with_reducible first|apply zw|apply zx|apply zm);exact gd;exact rfl;exact rfl;(first|exact co _))|refine ss ?_ ?_<;>(intro h;first|exact sz h|refine sy h ?_)|exact sq|fail))
  all_goals try(exfalso;omega)
  ·rename_i hx M6 g6 q6
   have Y:=(z10 (u i) (u a)).1 h
   exact zi (b+2-(i+1)) (by omega) ⟨i+1,rfl,v.up B Y,rfl,hz,d.grow g6,xk⟩
  ·rename_i hx M6 g6 q6
   have A:Keep (fun i=>i=p) M M6:=xk
   exact⟨rfl,rfl,i,v,fun _ O=>absurd ((z10 _ _).2 O) (Int.not_lt.2 h),hz,d.grow g6,A⟩
 rintro x E H c2 ⟨rfl,rfl,R,v,C,P,d,g⟩
 apply z1p
 apply z42
 refine z06 P ?_
 refine Wh ?_
 refine z2k (K:=fun x E H M'=>x=.exit 8/\H=[] /\ ∃ j,j<=j3/\PL a b R j u/\(R<=j->klt (u j) (u a))/\(R<=j->¬ klt (u R) (u a))/\Has E [(0,.slice (some (p,0)) n f e),(1,I a),(4,cf),(12,I R),(13,I j)]/\KT M' p n ty u/\Keep (fun i=>i=p) M M') ?_ ?_
 ·refine zg (fun z E H M'=>z<=j3/\PL a b R z u/\(R<=z->¬ klt (u R) (u a))/\H=[]/\Has E [(0,.slice (some (p,0)) n f e),(1,I a),(4,cf),(12,I R),(13,I z)]/\KT M' p n ty u/\Keep (fun i=>i=p) M M')
   ?_ j3 _ _ _ ⟨Nat.le_refl _,v,C,rfl,hz,d,g⟩
  rintro j E H M5 ⟨X,v,C,rfl,P,d,g⟩
  refine z06 P ?_
  have V:=v
  obtain⟨g1,g2,g3,-,-⟩:=V
  by_cases B:R<=j
  case neg=>
   refine Wg ?_;intro _ h
   exact⟨rfl,rfl,j,X,v,fun O=>absurd O B,fun O=>absurd O B,hz,d,g⟩
  have o:=z1a d (show j<n by omega)
  have s:=z1a d (show a<n by omega)
  have co:=fun M'=>z27 (u j).1 (u j).2 (u a).1 (u a).2 M'
  (have D:=o;have F:=s;repeat' (first|(with_reducible intro _)|refine sv ?_|((with_reducible first|apply zw|apply zx|apply zm);exact gd;exact rfl;exact rfl;(first|exact co _))|refine ss ?_ ?_<;>(intro h;first|exact sz h|refine sy h ?_)|exact sq|fail))
  all_goals try(exfalso;omega)
  ·rename_i hx M6 g6 q6
   obtain⟨j',rfl⟩:∃ j',j=j'+1:=⟨j-1,by omega⟩
   have a6:¬ klt (u (j'+1)) (u a):=fun O=>absurd ((z10 _ _).2 O) (Int.not_lt.2 h)
   have A:Keep (fun i=>i=p) M M6:=xk
   refine zi j' (by omega) ⟨by omega,v.down B a6,fun O=>C (by omega),rfl,.cons rfl (.cons rfl (.cons rfl (.cons rfl (.cons ?_ .nil)))),d.grow g6,A⟩
   show some (I _)=some (I _)
   rw[show(((j'+1:Nat):Int)-1)=(j':Int) by omega]
  ·rename_i hx M6 g6 q6
   have Y:=(z10 (u j) (u a)).1 h
   have A:Keep (fun i=>i=p) M M6:=xk
   exact⟨rfl,rfl,j,X,v,fun _=>Y,C,hz,d.grow g6,A⟩
 rintro x E H c3 ⟨rfl,rfl,j4,X,v,a3,C,P,d,g⟩
 apply z1p
 apply z42
 have a5:=v
 obtain⟨k1,k2,k3,-,-⟩:=a5
 refine z06 P ?_
 by_cases a9:j4<R
 case pos=>
  have o:=z1a d (show j4<n by omega)
  have s:=z1a d (show a<n by omega)
  have D:=o;have F:=s;refine Wg ?_;intros
  have J:=d
  refine d_st (by exact gd) rfl rfl J rfl rfl (z0w (by omega) (u a)) ?_
  intro a4 L S y
  refine Wh ?_
  refine d_st (by exact gd) rfl rfl y rfl rfl (z0w (by omega) (u j4)) ?_
  intro a1 N U d
  have g:Keep (fun i=>i=p) M a1:=xk
  have d:KT a1 p n ty (sw u j4 a):=d
  clear o s J L S y N U
  have b5:Sw a b G (sw u j4 a):=.step b0 (by omega) (by omega) (by omega) (by omega)
  have hd:=v.done a9
  refine Wh ?_
  refine kf ?_
  exact⟨j4,false,_,rfl,hd,b5,d,g⟩
 have o:=z1a d (show R<n by omega)
 have s:=z1a d (show j4<n by omega)
 have D:=o;have F:=s;refine Wg ?_;intros
 have J:=d
 refine d_st (by exact gd) rfl rfl J rfl rfl (z0w (by omega) (u j4)) ?_
 intro a4 L S y
 refine Wh ?_
 refine d_st (by exact gd) rfl rfl y rfl rfl (z0w (by omega) (u R)) ?_
 intro a1 N U d
 have g:Keep (fun i=>i=p) M a1:=xk
 have d:KT a1 p n ty (sw u R j4):=d
 clear o s J L S y N U
 obtain⟨b9,b1⟩:=v.swap (by omega) (C (by omega)) (a3 (by omega))
 have b6:Sw a b G (sw u R j4):=.step b0 (by omega) (by omega) (by omega) (by omega)
 refine Wh ?_
 refine zi (j4-1) (by omega) ⟨R+1,_,b1,b6,rfl,.cons rfl (.cons rfl (.cons rfl (.cons rfl (.cons ?_ .nil)))),d,g⟩
 show some (I _)=some (I _)
 rw[show((j4-1:Nat):Int)=(j4:Int)-1 by omega]
abbrev PE (p n:Nat)(f:Bool)(e:Nat)(a b:Nat)(d:Int)(g h:Bool)(l:Env):Env:=(0,.slice (some (p,0)) n f e) ::(1,I a) ::(2,I b) ::(3,I d) ::(4,cf) ::(10,.bool g) ::(11,.bool h)::l
theorem pe9 {E l:Env}{d:Int}{g j:Bool}(h:Has E l)(m:PvL.look E 0=some (.slice (some (p,0)) n f e):=by exact rfl)(h1:PvL.look E 1=some (I a):=by exact rfl)(o:PvL.look E 2=some (I b):=by exact rfl)(s:PvL.look E 3=some (I d):=by exact rfl)(t:PvL.look E 4=some cf:=by exact rfl)(h5:PvL.look E 10=some (.bool g):=by exact rfl)(u:PvL.look E 11=some (.bool j):=by exact rfl):Has E (PE p n f e a b d g j l) :=
 .cons m (.cons h1 (.cons o (.cons s (.cons t (.cons h5 (.cons u h))))))
set_option maxHeartbeats 16000000 in
theorem zx4 (hn:n<250):∀(N:Nat) {M:Mem} {a b:Nat} {v:Int} {G:Nat->Ky},b-a<N->KT M p n ty G->b<=n->a<=b->Inj n G->Lo a b G->0<=v/\v<=1000 ->
  zc Tryz.prog 247 [.slice (some (p,0)) n f e,I a,I b,I v,cf] M (fun w M'=>∃ G',Sw a b G G'/\Srt a b G'/\KT M' p n ty G'/\Keep (fun i=>i=p) M M'):=by
 intro N
 induction N with
 | zero=>intro M a b v G h;omega
 | succ N ih=>
 intro M a b v G hN hA hb e0 c4 c9 u
 refine zd Y247.2 rfl ?_
 delta Y247;refine un ?_
 refine Wh ?_
 refine zg (fun z E D M'=>∃(g d:Nat) (H:Int) (wb wp:Bool) (G':Nat->Ky),z=d-g/\a<=g/\g<=d/\d<=b/\(0<=H/\H<=1000)/\D=[]/\Has E (PE p n f e g d H wb wp [])/\Sw a b G G'/\Out a b g d G'/\Inj n G'/\Lo g d G'/\KT M' p n ty G'/\Keep (fun i=>i=p) M M')
  ?_ (b-a) _ _ _ ⟨a,b,v,true,true,G,rfl,by omega,e0,by omega,u,rfl,pe9 .nil,.refl,Out.start,c4,c9,hA,Keep.refl _ _⟩
 clear hA c9 u c4 v
 rintro z E D M1 ⟨g,d,v,wb,wp,G1,rfl,o,c3,s,u,rfl,C,a8,a7,a9,b3,a0,a1⟩
 refine z06 C ?_
 by_cases d8:d<=g+12
 ·repeat' first|with_reducible intro _|refine sv ?_|((with_reducible first|apply zk|apply zp|apply zh);exact gd;exact rfl;exact rfl;(first|exact zwv a0 (show d<=n by omega) c3 (by omega)))|refine ss ?_ ?_<;>(intro h;first|exact sz h|refine sy h ?_)|exact sq|fail
  all_goals try(exfalso;omega)
  rename_i R
  obtain⟨G2,B,b9,j,t⟩:=R
  refine kf ?_
  exact⟨G2,a8.trans (B.wider o s),(a7.sw B o s).fin b9,j,a1.trans t (fun i P=>.inl P)⟩
 by_cases c8:v=0
 ·subst c8
  repeat' first|with_reducible intro _|refine sv ?_|((with_reducible first|apply zk|apply zp|apply zh);exact gd;exact rfl;exact rfl;(first|exact zub a0 (show d<=n by omega) (show g<d by omega) (by omega)))|refine ss ?_ ?_<;>(intro h;first|exact sz h|refine sy h ?_)|exact sq|fail
  all_goals try(exfalso;omega)
  rename_i R
  obtain⟨G2,B,b9,j,t⟩:=R
  refine kf ?_
  exact⟨G2,a8.trans (B.wider o s),(a7.sw B o s).fin b9,j,a1.trans t (fun i P=>.inl P)⟩
 apply zg1
 apply z54
 refine z2k (K:=fun x E D M'=>x=.norm/\D=[]/\Has E (PE p n f e g d v wb wp [(12,I ((d:Int)-g))])/\M'=M1) ?_ ?_
 ·refine Wh ?_
  exact⟨rfl,rfl,pe9 (.cons rfl .nil),rfl⟩
 clear C
 rintro x E D M2 ⟨rfl,rfl,C,rfl⟩
 apply z42
 refine z06 C ?_
 apply z54
 refine z2k (K:=fun x E D M'=>x=.norm/\D=[]/\Has E (PE p n f e g d v wb wp [(12,I ((d:Int)-g))])/\M'=M2) ?_ ?_
 ·refine Wg ?_;intro h
  exact⟨rfl,rfl,pe9 (.cons rfl .nil),rfl⟩
 clear C
 rintro x E D M3 ⟨rfl,rfl,C,rfl⟩
 apply z42
 refine z06 C ?_
 apply z54
 refine z2k (K:=fun x E D M'=>x=.norm/\D=[]/\Has E (PE p n f e g d v wb wp [(12,I ((d:Int)-g))])/\M'=M3) ?_ ?_
 ·refine Wg ?_;intro h
  exact⟨rfl,rfl,pe9 (.cons rfl .nil),rfl⟩
 clear C
 rintro x E D M4 ⟨rfl,rfl,C,rfl⟩
 apply z42
 refine z06 C ?_
 apply z54
 refine z2k (K:=fun x E D M'=>x=.norm/\D=[] /\ ∃(H:Int) (G':Nat->Ky),(0<=H/\H<=1000)/\Has E (PE p n f e g d H wb wp [(12,I ((d:Int)-g))])/\Sw g d G1 G'/\KT M' p n ty G'/\Keep (fun i=>i=p) M M') ?_ ?_
 ·cases wb with
  | true=>
   refine Wh ?_;intro h
   exact⟨rfl,rfl,v,G1,u,pe9 (.cons rfl .nil),.refl,a0,a1⟩
  | false=>
   repeat' first|with_reducible intro _|refine sv ?_|((with_reducible first|apply zk|apply zp|apply zh);exact gd;exact rfl;exact rfl;(first|exact zrd a0 (show d<=n by omega) (show g+8<=d by omega) hn))|refine ss ?_ ?_<;>(intro h;first|exact sz h|refine sy h ?_)|exact sq|fail
   rename_i R
   obtain⟨G2,B,j,t⟩:=R
   refine Wh ?_
   exact⟨rfl,rfl,v-1,G2,by omega,pe9 (.cons rfl .nil),B,j,a1.trans t (fun i P=>.inl P)⟩
 clear C u
 rintro x E D M5 ⟨rfl,rfl,L,G2,u,C,B,j,t⟩
 have d2:=a7.sw B o s
 have b0:=B.inj (show d<=n by omega) a9
 have b4:=b3.sw B (Nat.le_refl _) (Nat.le_refl _)
 have d5:=a8.trans (B.wider o s)
 clear a8 a7 a9 b3 a0 a1 c8 v B G1
 apply z42
 refine z06 C ?_
 apply z54
 refine z2k (K:=fun x E D M'=>x=.norm/\D=[] /\ ∃(x:Nat) (h:Int),g<=x/\x<d/\Has E (PE p n f e g d L wb wp [(12,I ((d:Int)-g)),(13,I x),(14,I h)])/\KT M' p n ty G2/\Keep (fun i=>i=p) M M') ?_ ?_
 ·repeat' first|with_reducible intro _|refine sv ?_|((with_reducible first|apply zk|apply zp|apply zh);exact gd;exact rfl;exact rfl;(first|exact zna j (show d<=n by omega) (show g+8<=d by omega) (by omega)))|refine ss ?_ ?_<;>(intro h;first|exact sz h|refine sy h ?_)|exact sq|fail
  rename_i R
  obtain⟨x,h,rfl,U,V,hg⟩:=R
  refine Wh ?_
  exact⟨rfl,rfl,x,h,U,V,pe9 (.cons rfl (.cons rfl (.cons rfl .nil))),j.grow hg,xk⟩
 clear C j t
 rintro x E D M6 ⟨rfl,rfl,x,hh,U,V,C,j,t⟩
 apply z42
 refine z06 C ?_
 apply z54
 refine z2k (K:=fun x E D M'=>x=.norm/\D=[] /\ ∃(x:Nat) (h:Int) (G':Nat->Ky),g<=x/\x<d/\Has E (PE p n f e g d L wb wp [(12,I ((d:Int)-g)),(13,I x),(14,I h)])/\Sw g d G2 G'/\KT M' p n ty G'/\Keep (fun i=>i=p) M M') ?_ ?_
 ·repeat' first|with_reducible intro _|refine sv ?_|((with_reducible first|apply zk|apply zp|apply zh);exact gd;exact rfl;exact rfl;(first|exact zk3 j (show d<=n by omega) (show g<d by omega) (by omega)))|refine ss ?_ ?_<;>(intro h;first|exact sz h|refine sy h ?_)|exact sq|fail
  ·rename_i R
   obtain⟨G3,S,d9,e2⟩:=R
   refine Wh ?_
   refine⟨rfl,rfl,d-1-(x-g),1,G3,by omega,by omega,pe9 (.cons rfl (.cons ?_ (.cons rfl .nil))),S,d9,t.trans e2 (fun i P=>.inl P)⟩
   show some (I _)=some (I _)
   rw[show((d-1-(x-g):Nat):Int)=(d:Int)-1-((x:Int)-g) by omega]
  ·exact⟨rfl,rfl,x,hh,G2,U,V,pe9 (.cons rfl (.cons rfl (.cons rfl .nil))),.refl,j,t⟩
 clear C j t U V x hh
 rintro x E D M7 ⟨rfl,rfl,x,hh,G3,U,V,C,S,j,t⟩
 have b8:=d2.sw S o s
 have b1:=S.inj (show d<=n by omega) b0
 have a3:=b4.sw S (Nat.le_refl _) (Nat.le_refl _)
 have c0:=d5.trans (S.wider o s)
 clear d5 d2 b0 b4 S G2
 apply z42
 refine z06 C ?_
 apply z54
 refine z2k (K:=fun x' E D M'=>D=[]/\((x'=.norm /\ ∃(G':Nat->Ky),Has E (PE p n f e g d L wb wp [(12,I ((d:Int)-g)),(13,I x)])/\Sw g d G3 G'/\KT M' p n ty G'/\Keep (fun i=>i=p) M M') ∨(x'=.ret /\ ∃(G':Nat->Ky),Sw g d G3 G'/\Srt g d G'/\KT M' p n ty G'/\Keep (fun i=>i=p) M M'))) ?_ ?_
 ·cases wb with
  | false=>
   refine Wh ?_;intros
   exact⟨rfl,.inl ⟨rfl,G3,pe9 (.cons rfl (.cons rfl .nil)),.refl,j,t⟩⟩
  | true=>
  cases wp with
  | false=>
   refine Wh ?_;intros
   exact⟨rfl,.inl ⟨rfl,G3,pe9 (.cons rfl (.cons rfl .nil)),.refl,j,t⟩⟩
  | true=>
   repeat' first|with_reducible intro _|refine sv ?_|((with_reducible first|apply zk|apply zp|apply zh);exact gd;exact rfl;exact rfl;(first|exact zx5 j (show d<=n by omega) (show g<d by omega) (by omega) a3))|refine ss ?_ ?_<;>(intro h;first|exact sz h|refine sy h ?_)|exact sq|fail
   ·rename_i R
    obtain⟨q,O,rfl,e9,F,A,J⟩:=R
    cases q with
    | true=>
     refine Wh ?_;intros
     exact⟨rfl,.inr ⟨rfl,O,F,e9 rfl,A,t.trans J (fun i P=>.inl P)⟩⟩
    | false=>
     refine Wh ?_;intros
     exact⟨rfl,.inl ⟨rfl,O,pe9 (.cons rfl (.cons rfl .nil)),F,A,t.trans J (fun i P=>.inl P)⟩⟩
   ·exact⟨rfl,.inl ⟨rfl,G3,pe9 (.cons rfl (.cons rfl .nil)),.refl,j,t⟩⟩
 clear C j t
 rintro z E D M8 ⟨rfl,⟨rfl,O,C,F,A,J⟩|⟨rfl,O,F,e8,A,J⟩⟩
 case inr=>
  refine Wh ?_
  refine kf ?_
  exact⟨O,c0.trans (F.wider o s),(b8.sw F o s).fin e8,A,J⟩
 have d3:=b8.sw F o s
 have b2:=F.inj (show d<=n by omega) b1
 have a4:=a3.sw F (Nat.le_refl _) (Nat.le_refl _)
 have d6:=c0.trans (F.wider o s)
 clear c0 b8 b1 a3 F G3
 apply z42
 refine z06 C ?_
 apply z54
 refine z2k (K:=fun x' E D M'=>x'=.norm/\D=[]/\Has E (PE p n f e g d L wb wp [(12,I ((d:Int)-g)),(13,I x)])/\KT M' p n ty O/\Keep (fun i=>i=p) M M') ?_ ?_
 ·by_cases c2:g=0
  ·subst c2
   refine Wg ?_;intros
   exact⟨rfl,rfl,pe9 (.cons rfl (.cons rfl .nil)),A,J⟩
  obtain⟨Y,rfl⟩:∃ Y,g=Y+1:=⟨g-1,by omega⟩
  have hz:(((Y+1:Nat):Int)-1).toNat=Y:=by omega
  have e5:=z1a A (show x<n by omega)
  have e6:=z1a A (show Y<n by omega)
  have e7:Rd M8 p (0+(((Y+1:Nat):Int)-1).toNat*2) 2 [I (O Y).1,I (O Y).2]:=by rw[hz];exact e6
  have co:=fun M'=>z27 (O Y).1 (O Y).2 (O x).1 (O x).2 M'
  have d0:=(z10 (O Y) (O x)).2 ((a4.resolve_left c2) x U V)
  have f0:cmpK ((O Y).1,(O Y).2) ((O x).1,(O x).2)<0:=d0
  have f1:=e5;have f2:=e7;refine Wpg @co ?_;intro _ M9 e1 q9 _
  exact⟨rfl,rfl,pe9 (.cons rfl (.cons rfl .nil)),A.grow e1,xk⟩
 clear C A J
 rintro z E D M9 ⟨rfl,rfl,C,A,J⟩
 apply z42
 refine z06 C ?_
 repeat' first|with_reducible intro _|refine sv ?_|((with_reducible first|apply zk|apply zp|apply zh);exact gd;exact rfl;exact rfl;(first|exact zug A (show d<=n by omega) U V (by omega)))|refine ss ?_ ?_<;>(intro h;first|exact sz h|refine sy h ?_)|exact sq|fail
 rename_i R
 obtain⟨m,q,G5,rfl,Z,a6,c1,c5⟩:=R
 have d1:=Z.1
 have e3:=Z.2.1
 have d4:=d3.sw a6 o s
 have Q:=a6.inj (show d<=n by omega) b2
 have b5:=a4.sw a6 (Nat.le_refl _) (Nat.le_refl _)
 have d7:=d6.trans (a6.wider o s)
 have c7:Keep (fun i=>i=p) M _:=J.trans c5 (fun i P=>.inl P)
 clear d6 d3 b2 a4 a6 A J c5 C
 repeat' first|with_reducible intro _|refine sv ?_|((with_reducible first|apply zk|apply zp|apply zh);exact gd;exact rfl;exact rfl;(first|exact ih (b:=m) (by omega) c1 (by omega) d1 Q (b5.sub (Nat.le_of_lt e3)) u|exact ih (a:=m+1) (by omega) c1 (show d<=n by omega) (by omega) Q (Z.lo Q (by omega)) u))|refine ss ?_ ?_<;>(intro h;first|exact sz h|refine sy h ?_)|exact sq|fail
 ·rename_i R
  obtain⟨G6,y,a5,b6,b7⟩:=R
  have X:=y.inj (show m<=n by omega) Q
  have e4:=Z.sw y (.inl ⟨Nat.le_refl _,Nat.le_refl _⟩)
  refine zi (d-(m+1)) (by omega) ⟨m+1,d,L,_,_,G6,rfl,by omega,by omega,s,u,rfl,pe9 .nil (h1:=?_),d7.trans (y.wider o (by omega)),d4.left Z y a5 o s,X,e4.lo X (by omega),b6,c7.trans b7 (fun i P=>.inl P)⟩
  show some (I _)=some (I _)
  rw[show((m+1:Nat):Int)=(m:Int)+1 by omega]
 ·rename_i R
  obtain⟨G6,y,a5,b6,b7⟩:=R
  have X:=y.inj (show d<=n by omega) Q
  refine zi (m-g) (by omega) ⟨g,m,L,_,_,G6,rfl,o,d1,by omega,u,rfl,pe9 .nil,d7.trans (y.wider (by omega) s),d4.right Z y a5 o s,X,(b5.sw (y.wider (by omega) (Nat.le_refl _)) (Nat.le_refl _) (Nat.le_refl _)).sub (by omega),b6,c7.trans b7 (fun i P=>.inl P)⟩
end Go.Proofs.YtpgalhbplcanhaaGreatDoor.C
end
section
open Go PvL Go.Proofs
variable {μ:Md}
namespace Go.Proofs.YtpgalhbplcanhaaGreatDoor.C
variable {bs:List Nat} {i pb r clk e:Nat} {M:Mem} {ty:TypeId} {a:Option (Nat × Nat)}
theorem zkv (h:i<bs.length):bs[i]?=some (bs.getD i 0):=by
 rw[List.getD_eq_getElem?_getD,List.getElem?_eq_getElem h];rfl
theorem ze1 (d:bs.Nodup){j:Nat}(hi:i<bs.length)(m:j<bs.length)(g:bs[i]=bs[j]):i=j:=by
 unfold List.Nodup at d
 rw[List.pairwise_iff_getElem] at d
 rcases Nat.lt_trichotomy i j with h|h|h
 ·exact absurd g (d i j hi m h)
 ·exact h
 ·exact absurd g.symm (d j i m hi h)
set_option maxHeartbeats 4000000 in
theorem zue {l:Nat}{L:Mk}(c0:At M pb (.cells true [.map (some r)] ty))(K:At M r (.map (encK L) bs clk))(d:StOk bs clk L.length)(A:Nat->Prop)(N:List Nat->Mem->Prop)(hA:∀ i,A i->i≠r/\i≠M.next)(C:∀ is o G,N is o->o.next<=G.next->(∀ i,i<o.next->i≠M.next->G.get i=o.get i)->N is G)(step:∀ is i k v o,is.Nodup->(∀ j∈is,j<L.length)->i∉is->L[i]?=some (k,v)->M.next<o.next->N is o->RoundOk Tryz.prog l [kyv k] o (fun w G=>w=.bool true/\N (is++[i]) G/\Keep A o G))(h0:N [] M) :
  CallN Tryz.prog 195 [.func (.yield l) [] [],.ptr (some (pb,0))] M (fun w M'=>∃ is,is.Nodup/\(∀ i,i<L.length↔i∈is)/\N is M'/\M.next<=M'.next):=by
 refine z1z Y195.2 rfl ?_
 delta Y195;refine un ?_
 refine Wh ?_
 refine z2m (by exact gd) (zmu rfl K) ?_
 have hN:New M M.next (.iter (some r) clk [] clk) (M.push (.iter (some r) clk [] clk)):=⟨rfl,rfl⟩
 generalize M.push (.iter (some r) clk [] clk)=o at *
 have u:=At.new_same hN
 have a7:=At.new_old hN K
 have m:=C [] M o h0 (by rw[hN.next];omega) (fun i hi _=>hN.grow.old i hi)
 have a9:=hN.next
 have c5:=K.2
 generalize c1:M.next=it at *
 refine Wh ?_
 refine zg (fun z E ms M'=>∃(is:List Nat) (g:Nat),z=L.length-is.length/\is.Nodup/\(∀ j∈is,j<L.length)/\(is=[]∨g=clk)/\ms=[]/\Has E [(0,.func (.yield l) [] []),(5,.ptr (some (it,0)))]/\At M' it (.iter (some r) clk (is.map fun i=>bs.getD i 0) g)/\At M' r (.map (encK L) bs clk)/\N is M'/\it<M'.next)
  ?_ (L.length-0) _ _ _ ⟨[],clk,rfl,List.nodup_nil,fun _ h=>(nomatch h),.inl rfl,rfl,.cons rfl (.cons rfl .nil),u,a7,m,by omega⟩
 clear hN u a7 m a9 h0 K c0
 rintro z E ms G ⟨is,g,rfl,F,y,a6,rfl,hE,u,K,hI,a9⟩
 refine z06 hE ?_
 have s:bs.length=(encK L).length:=by rw[d.len];simp[encK]
 have H:allLt clk bs=true:=z81 d.lt
 by_cases hl:leftL (is.map fun i=>bs.getD i 0) bs (encK L)=[]
 ·have Z:(is.map fun i=>bs.getD i 0)=[]∨encK L=[]∨anyLt g bs=true:=by
   rcases a6 with rfl|rfl
   ·exact .inl rfl
   ·cases bs with
    | nil=>exact .inr (.inl (List.length_eq_zero_iff.1 (by rw[<-s];rfl)))
    | cons b bs=>exact .inr (.inr (z66 (x:=b) (by simp) (d.lt b (by simp))))
  apply z54
  apply zen
  refine z2m (by exact gd) (zg9 rfl u K s H Z hl) ?_
  refine Wh ?_;intro h
  refine kf ?_
  refine⟨is,F,fun i=>⟨fun hi=>?_,fun hi=>y i hi⟩,hI,by omega⟩
  have t:i<bs.length:=by rw[d.len];exact hi
  have B:=zh4 hl s (bs[i]) (List.getElem_mem t)
  obtain⟨j,D,b5⟩:=List.mem_map.1 B
  have S:j<bs.length:=by rw[d.len];exact y j D
  have h1:bs[j]=bs[i]:=by
   have O:=zkv S
   rw[List.getElem?_eq_getElem S] at O
   exact(Option.some.inj O).trans b5
  have h3:j=i:=ze1 d.nodup S t h1
  rw[<-h3];exact D
 have Z:(is.map fun i=>bs.getD i 0)=[]∨encK L=[]∨anyLt g bs=true:=by
  rcases a6 with rfl|rfl
  ·exact .inl rfl
  ·cases bs with
   | nil=>exact .inr (.inl (List.length_eq_zero_iff.1 (by rw[<-s];rfl)))
   | cons b bs=>exact .inr (.inr (z66 (x:=b) (by simp) (d.lt b (by simp))))
 apply z54
 apply zen
 refine zg3 (by exact gd) rfl u K H Z hl ?_
 intro b kk v B M3 P e3 J
 obtain⟨i,m,Q,b4⟩:=z6m B
 have t:i<bs.length:=(List.getElem?_eq_some_iff.1 m).1
 have a2:bs.getD i 0=b:=by
  have O:=zkv t
  rw[m] at O
  exact(Option.some.inj O).symm
 have R:i<L.length:=by rw[<-d.len];exact t
 have X:i∉is:=fun hh=>b4 (List.mem_map.2 ⟨i,hh,a2⟩)
 have b0:r≠it:=by omega
 have b7:=At.upd_ne P b0 K
 obtain⟨⟨k,v'⟩,hL⟩:∃ p,L[i]?=some p:=⟨L[i],List.getElem?_eq_getElem R⟩
 have b6:kk=kyv k/\v=v':=by
  have O:(encK L)[i]?=some (kyv k,v'):=by unfold encK;rw[List.getElem?_map,hL];rfl
  rw[O] at Q
  cases Q
  exact⟨rfl,rfl⟩
 obtain⟨rfl,rfl⟩:=b6
 have Y:(is.map fun i=>bs.getD i 0)++[b]=(is++[i]).map fun i=>bs.getD i 0:=by rw[List.map_append,<- a2];rfl
 have a3:stampL b bs (encK L)=some (kyv k,v):=zeh d.nodup m Q
 have b1:=C is G M3 hI (by omega) (fun i hi a8=>z3q P a8)
 have V:L.length-(is++[i]).length<L.length-is.length:=by
  have:=pig L.length (is++[i]) (by
   rw[List.nodup_append]
   exact⟨F,by simp,fun a ha b hb=>by
    obtain rfl:b=i:=by simpa using hb
    rintro rfl;exact X ha⟩) (fun x hx=>by
   rcases List.mem_append.1 hx with hx|hx
   ·exact y x hx
   ·obtain rfl:x=i:=by simpa using hx
    exact R)
  rw[List.length_append] at this ⊢
  simp only[List.length_cons,List.length_nil] at this ⊢
  omega
 refine Wh ?_;intro h
 refine z2m (by exact gd) (zmr rfl J b7 s a3) ?_
 rw[Y] at J
 clear P
 refine Wh ?_;intro n4 M4 a0 e4 c2 M5 a1 e5 c3
 have a4:At M5 it (.iter (some r) clk ((is++[i]).map fun i=>bs.getD i 0) clk):=xm
 have b8:At M5 r (.map (encK L) bs clk):=xm
 have b2:=C is M3 M5 b1 (by omega) (fun j D a8=>by rw[z3q a1 (by omega),a0.grow.old j D])
 clear a0 a1
 refine zk (by exact gd) rfl rfl (show AppOk Tryz.prog _ _ M5 _ from step is i k v M5 F y X hL (by omega) b2) ?_
 rintro w M6 ⟨rfl,b3,U⟩
 have b9:=b8.keep U (fun h=>(hA _ h).1 rfl)
 have a5:=a4.keep U (fun h=>(hA _ h).2 rfl)
 have c4:=U.le
 refine Wh ?_;intros
 refine zi (L.length-(is++[i]).length) V ⟨is++[i],clk,rfl,?_,?_,.inr rfl,rfl,.cons rfl (.cons rfl .nil),a5,b9,b3,by omega⟩
 ·rw[List.nodup_append]
  exact⟨F,by simp,fun a ha b hb=>by
   obtain rfl:b=i:=by simpa using hb
   rintro rfl;exact X ha⟩
 ·intro j D
  rcases List.mem_append.1 D with D|D
  ·exact y j D
  ·obtain rfl:j=i:=by simpa using D
   exact R
theorem zxg {P:Program}{f:FuncId}{xf:XF}(h:cFn P f=some xf):∃ fd,fnOf P f=some fd:=by
 unfold cFn at h
 split at h
 ·cases h
 ·rename_i fd d;exact⟨fd,d⟩
theorem zl4 {m:Nat}{k:Ky}{M':Mem}(g:New M m (.cells true [I k.1,I k.2] ty) M'):zz 2 1 (.slice (some (m,0)) 1 true 2) M'=some ([k].flatMap kyc) :=
 z1g (enc:=kyc) (l:=[k]) (fun _ _=>rfl) (fun h d=>z18 (enc:=kyc) (l:=[k]) (At.new_same g) (fun _ _=>rfl) d)
def kAt (L:Mk)(i:Nat):Ky:=((L[i]?).map (·.1)).getD (0,0)
abbrev kseq (pb:Nat):LV:=.func (.func 195) [] [.ptr (some (pb,0))]
set_option maxHeartbeats 8000000 in
theorem zf1 {L:Mk}(c1:At M pb (.cells true [.map (some r)] ty))(hm:At M r (.map (encK L) bs clk))(c0:StOk bs clk L.length)(hL:L.length<=1000) :
  CallN Tryz.prog 246 [zsl,kseq pb] M (fun w M'=>∃ is:List Nat,is.Nodup/\(∀ i,i<L.length↔i∈is)/\Vec M.next 2 281 kyc M' w (is.map (kAt L))/\Grow M M'):=by
 refine z1z Y246.2 rfl ?_
 delta Y246;refine un ?_
 refine Wh ?_;intro B M2 P e2 d5
 have b7:At M2 B (.cells true [zsl] 279):=xm
 have E:=P.grow
 have a2:=At.grow E c1
 have a1:=At.grow E hm
 have e1:=hm.2
 clear P
 apply zmk
 exact rfl
 exact zxg Y195.2
 intro lb d0 t c8 j b5 U d2 c2 F d3 c3
 have m:Grow M2 j:=U.grow.trans F.grow
 have V:At j d0 .defr:=At.new_old F (At.new_same U)
 have G:=At.new_same F
 have a0:=At.grow m b7
 refine(zue (l:=t) (At.grow m a2) (At.grow m a1) c0 (fun i=>i=B∨i=t∨j.next<i) (fun(is:List Nat) M'=>∃ v,At M' B (.cells true [v] 279)/\Vec (j.next+1) 2 281 kyc M' v (is.map (kAt L))/\At M' t (lb .ready none)/\At M' d0 .defr/\Keep (fun i=>i=B∨i=t) j M') ?_ ?_ ?_ ⟨_,a0,.inl ⟨rfl,rfl⟩,G,V,Keep.refl _ _⟩).mono ?_
 ·intro i o;omega
 ·rintro is M3 M4 ⟨v,z,A,C,J,h5⟩ y X
  refine⟨v,z.same y (X _ z.2 (by omega)),A.imp id (fun⟨i,g1,K,g3⟩=>⟨i,g1,K.same y (X _ K.2 (by omega)),g3⟩),C.same y (X _ C.2 (by omega)),J.same y (X _ J.2 (by omega)),⟨Nat.le_trans h5.le y,fun i o hf=>?_⟩⟩
  rw[X i (by have:=h5.le;omega) (by omega)]
  exact h5.old i o hf
 ·rintro is i k v0 M3 H b6 b8 O b9 ⟨v,z,A,C,J,h5⟩
  have b4:kAt L i=k:=by unfold kAt;rw[O];rfl
  have c5:is.length+1<=L.length:=by
   have:=pig L.length (is++[i]) (by
    rw[List.nodup_append]
    exact⟨H,by simp,fun a ha b hb=>by
     obtain rfl:b=i:=by simpa using hb
     rintro rfl;exact b8 ha⟩) (fun x hx=>by
    rcases List.mem_append.1 hx with hx|hx
    ·exact b6 x hx
    ·obtain rfl:x=i:=by simpa using hx
     exact(List.getElem?_eq_some_iff.1 O).1)
   rw[List.length_append] at this
   exact this
  refine z5e b5 C rfl ?_
  dsimp only[zipP]
  refine Wh ?_;intro n4 M4 b1 e4 d6 M5 b2 e5 a9 M6 b3 e6 b0 n7 M7 Q e7 d7
  have k1:At M7 B (.cells true [v] 279):=xm
  have k4:At M7 d0 .defr:=xm
  have k3:At M7 t (lb .busy none):=xm
  have kk:Keep (fun i=>i=t) M3 M7:=xk
  have k2:=A.keep kk (fun i o=>by omega)
  have e0:=kk.le
  clear b1 b2 b3 a9 b0
  refine z36 (l':=[k]) (by exact gd) k2 rfl rfl rfl (by simp) (by simp;omega) rfl (zl4 Q) (fun _=>rfl) (fun _=>rfl) (by omega) ?_
  intro v8 M8 a3 e8 s
  have g1:=k1.keep s (fun h=>by have:=h.1;omega)
  have g3:=k3.keep s (fun h=>by have:=h.1;omega)
  have g4:=k4.keep s (fun h=>by have:=h.1;omega)
  have gk:Keep (fun i=>i=B∨i=t∨j.next<i) M3 M8:=(kk.weaken (fun i o=>.inr (.inl o))).trans s (fun i o=>.inl (.inr (.inr (by have:=o.1;omega))))
  have a7:Keep (fun i=>i=B∨i=t) j M8:=(h5.trans kk (fun i o=>.inl (.inr o))).trans s (fun i o=>.inr (by have:=o.1;omega))
  clear Q kk k1 k2 k3 k4 s
  obtain⟨a8,f8,d8,rfl⟩:=a3.shape
  refine Wh ?_;intro M9 D e9 d9 c7 u d1 N
  refine⟨rfl,⟨_,xm,?_,N,xm,(a7.upd D (.inl (.inl rfl))).upd u (.inl (.inr rfl))⟩,(gk.upd D (.inl (.inl rfl))).upd u (.inl (.inr (.inl rfl)))⟩
  rw[List.map_append]
  show Vec _ _ _ _ _ _ (is.map (kAt L)++[kAt L i])
  rw[b4]
  exact a3.keep (((Keep.refl (fun i=>i=B∨i=t) _).upd D (.inl (.inl rfl))).upd u (.inl (.inr rfl))) (fun i o=>by omega)
 rintro w a4 ⟨is,H,R,⟨v,z,A,C,J,h5⟩,b9⟩
 have Y:Grow M a4:=Keep.to_grow' (E.trans m) h5 (fun i o=>by omega)
 have c4:=h5.le
 clear h5
 refine z9c C (by simp) fun a5 g d4 a6=>?_
 have g1:=At.upd_ne g (show B≠t by omega) z
 have g4:=At.upd_ne g (show d0≠t by omega) J
 have Z:Grow M a5:=Y.upd g (by omega)
 have K:=A.keep ((Keep.refl (fun i=>i=t) _).upd g (.inl rfl)) (fun i o=>by omega)
 clear g z A J a6 C
 obtain⟨a8,f8,e8,rfl⟩:=K.shape
 refine Wh ?_
 refine z1y (.inr rfl) (by simp[dnat]) (fun d S=>by simp[dnat] at S;subst S;exact g4) fun c9 hm=>⟨_,.tmp rfl .nil,is,H,R,?_,?_⟩
 ·rcases K with⟨z,A⟩|⟨i,z,A,C⟩
  ·exact .inl ⟨z,A⟩
  ·exact .inr ⟨i,z,A.unmark hm (by simp[dnat];omega),by omega⟩
 ·exact Z.unmark hm (fun d S=>by simp[dnat] at S;subst S;omega)
theorem Sw.mem {n:Nat}{G G':Nat->Ky}(h:Sw 0 n G G')(k:Ky):(∃ t,t<n/\G' t=k) ↔ ∃ t,t<n/\G t=k:=by
 constructor
 ·rintro⟨t,g,d⟩
  have:=h.all (p:=fun k=>∃ t,t<n/\G t=k) (fun t _ g=>⟨t,g,rfl⟩) t (Nat.zero_le _) g
  rw[d] at this;exact this
 ·induction h with
  | refl=>exact id
  | @step G' i j _ h1 h2 h3 h4 s=>
   intro d
   obtain⟨t,g,d⟩:=s d
   by_cases m:t=i
   ·subst m;exact⟨j,h4,by rw[sw_j];exact d⟩
   ·by_cases o:t=j
    ·subst o;exact⟨i,h2,by rw[sw_i];exact d⟩
    ·exact⟨t,g,by rw[z5i m o];exact d⟩
theorem zj4 {d:List Ky}:(List.range d.length).map (fun i=>d.getD i (0,0))=d:=by
 refine List.ext_getElem (by simp) fun i h g=>?_
 simp only[List.getElem_map,List.getElem_range]
 rw[List.getD_eq_getElem?_getD,List.getElem?_eq_getElem g];rfl
theorem zud {f:Bool}:zc Tryz.prog 308 [.slice a 0 f e,I 0,I 0,cf] M (fun w M'=>M'=M):=by
 refine zd Y308.2 rfl ?_
 delta Y308;refine un ?_
 repeat' first|with_reducible intro _|refine sv ?_|refine su ?_|refine ss ?_ ?_<;>(intro h;first|exact sz h|refine sy h ?_)|exact sq|fail
 refine kf ?_
 rfl
theorem zuh {f:Bool}{d:Int}:zc Tryz.prog 247 [.slice a 0 f e,I 0,I 0,I d,cf] M (fun w M'=>M'=M):=by
 refine zd Y247.2 rfl ?_
 delta Y247;refine un ?_
 repeat' first|with_reducible intro _|refine sv ?_|refine su ?_|((with_reducible first|apply zk|apply zp|apply zh);exact gd;exact rfl;exact rfl;(first|exact zud))|refine ss ?_ ?_<;>(intro h;first|exact sz h|refine sy h ?_)|exact sq|fail
 rename_i g
 subst g
 refine Wh ?_
 refine kf ?_
 rfl
set_option maxHeartbeats 4000000 in
theorem zi2 {b:Nat}{v:LV}{d:List Ky}(U:Vec b 2 281 kyc M v d)(Y:d.length<=200)(E:d.Nodup) :
  zc Tryz.prog 194 [v,cf] M (fun _ M'=>∃ o,Vec b 2 281 kyc M' v o/\o.Pairwise klt/\(∀ k,k∈o↔k∈d)/\o.length=d.length/\Keep (fun i=>b<=i) M M'):=by
 have P:=zu0 (M:=M) (n:=d.length) (by omega)
 have V:=z3s (z:=(d.length:Int)) (by omega)
 rcases U with⟨rfl,rfl⟩|⟨i,rfl,Q,H⟩
 ·refine zd Y194.2 rfl ?_
  delta Y194;refine un ?_
  refine Wlh @P ?_;intro _ _ s
  obtain⟨k,rfl,J,K,rfl⟩:=s
  refine Wlh @zuh ?_;intro _ _ s
  subst s
  refine kf ?_
  exact⟨[],.inl ⟨rfl,rfl⟩,List.Pairwise.nil,fun _=>Iff.rfl,rfl,Keep.refl _ _⟩
 ·have R:KT M i d.length (apE 281) (fun i=>d.getD i (0,0)):=by
   show At M i (.cells true (tabL kyc (fun i=>d.getD i (0,0)) d.length) (apE 281))
   unfold tabL
   rw[zj4];exact Q
  have A:Inj d.length (fun i=>d.getD i (0,0)):=fun x y w u g=>by
   simp only[List.getD_eq_getElem?_getD,List.getElem?_eq_getElem w,List.getElem?_eq_getElem u,Option.getD_some] at g
   unfold List.Nodup at E
   rw[List.pairwise_iff_getElem] at E
   rcases Nat.lt_trichotomy x y with h|h|h
   ·exact absurd g (E x y w u h)
   ·exact h
   ·exact absurd g.symm (E y x u w h)
  have C:∀ k,(∃ t,t<d.length/\d.getD t (0,0)=k)↔k∈d:=fun k=>by
   rw[List.mem_iff_getElem]
   constructor
   ·rintro⟨t,m,h⟩;exact⟨t,m,by rw[List.getD_eq_getElem?_getD,List.getElem?_eq_getElem m] at h;exact h⟩
   ·rintro⟨t,m,h⟩;exact⟨t,m,by rw[List.getD_eq_getElem?_getD,List.getElem?_eq_getElem m];exact h⟩
  refine zd Y194.2 rfl ?_
  delta Y194;refine un ?_
  refine Wh ?_
  rw[V]
  refine Wlh @P ?_;intro _ _ s
  obtain⟨k,rfl,J,K,rfl⟩:=s
  repeat' first|with_reducible intro _|refine sv ?_|((with_reducible first|apply zk|apply zp|apply zh);exact gd;exact rfl;exact rfl;(first|exact zx4 (p:=i) (n:=d.length) (f:=false) (e:=2) (by omega) (d.length+1) (a:=0) (by omega) R (Nat.le_refl _) (Nat.zero_le _) A (.inl rfl) (by omega)))|refine ss ?_ ?_<;>(intro h;first|exact sz h|refine sy h ?_)|exact sq|fail
  rename_i s
  obtain⟨F,D,O,G,L⟩:=s
  have N:=Sw.mem D
  have B:=D.inj (Nat.le_refl _) A
  refine kf ?_
  refine⟨(List.range d.length).map F,.inr ⟨i,by simp,G,H⟩,?_,fun k=>?_,by simp,L.weaken (fun j X=>by omega)⟩
  ·rw[List.pairwise_iff_getElem]
   intro x y w u g
   simp only[List.length_map,List.length_range] at w u
   simp only[List.getElem_map,List.getElem_range]
   rcases zl7 (a:=F x) (b:=F y) (fun S=>by have:=B x y w u S;omega) with h|h
   ·exact h
   ·exact absurd h (O x y (Nat.zero_le _) g u)
  ·rw[List.mem_map,<- C,<- N]
   constructor
   ·rintro⟨t,m,h⟩;exact⟨t,List.mem_range.1 m,h⟩
   ·rintro⟨t,m,h⟩;exact⟨t,List.mem_range.2 m,h⟩
end Go.Proofs.YtpgalhbplcanhaaGreatDoor.C
end
section
open Go PvL
namespace Go.Proofs.YtpgalhbplcanhaaGreatDoor.C
def gdF(d:Int)(sm:Nat)(x:Fr):Bool:=decide (x.2.1<d)&&(decide (sm<=x.2.2.length)&&(x.2.2.take sm).all knB)
def gq(L:List Fr)(d:Int)(sm:Nat):Nat->Int->Option Int
 | 0,_=>none
 | k+1,s=>if gdF d sm (fe L k)=true/\s=(fe L k).1 then some ((gq L d sm k s).getD 0+1) else gq L d sm k s
theorem zvl{L:List Fr}{n:Nat}(h:rlK L n=true):∀ {i j:Nat},i<j->j<n->keyI (fe L i)<keyI (fe L j):=by
 have hstep:∀ {k:Nat},k+1<n->keyI (fe L k)<keyI (fe L (k+1)):=fun {k} u=>by
  have g:rlK L (k+2)=true:=by
   cases d:rlK L (k+2) with
   | true=>rfl
   | false=>rw[zm8 (by omega:k+2<=n) d] at h;cases h
  rw[zfs,zfs] at g
  simp only[Bool.and_eq_true,Bool.or_eq_true,decide_eq_true_eq] at g
  rcases g.2.2 with d|d
  ·omega
  ·exact d
 intro i j s
 induction j with
 | zero=>omega
 | succ j t=>
  intro o
  rcases Nat.lt_or_ge i j with m|m
  ·exact Int.lt_trans (t m (by omega)) (hstep o)
  ·obtain rfl:i=j:=by omega
   exact hstep o
def FsV1(M:Mem)(a:Option (Nat×Nat))(L:List Fr):Prop:=L=[] ∨ ∃ i o,a=some (i,o) /\ ∀ k (d:k<L.length),∃ b g,Rd M i (o+k*3) 3 [I L[k].1,I L[k].2.1,.slice b L[k].2.2.length g 1]/\SlI M b L[k].2.2
theorem FsV1.to{M:Mem}{a:Option (Nat×Nat)}{L:List Fr}(h:FsV1 M a L):FsV M a L :=
 h.imp id fun⟨i,o,d,j⟩=>⟨i,o,d,fun k t=>by
  obtain⟨b,g,m,s⟩:=j k t
  exact⟨b,g,1,m,s⟩⟩
end Go.Proofs.YtpgalhbplcanhaaGreatDoor.C
end
section
open Go PvL Go.Proofs
variable {μ:Md}
namespace Go.Proofs.YtpgalhbplcanhaaGreatDoor.C
theorem ztz{M:Mem}{r:Nat}:zc Tryz.prog 140 [.map (some r)] M (MkAt kseq (.cells true [.map (some r)] 173) M):=by
 refine zd Y140.2 rfl ?_
 delta Y140;refine un ?_
 refine Wh ?_;intro j m d o g
 refine kf ?_
 exact⟨j,rfl,At.new_same d,by omega,by omega,d.grow⟩
theorem zh1{L:Mk}{i:Nat}(h:i<L.length):kAt L i=L[i].1:=by unfold kAt;rw[List.getElem?_eq_getElem h];rfl
theorem zsb{L:Mk}{is:List Nat}(t:(L.map (·.1)).Nodup)(s:is.Nodup)(d:∀ i,i<L.length↔i∈is):(is.map (kAt L)).Nodup/\(∀ k,k∈is.map (kAt L)↔k∈L.map (·.1))/\(is.map (kAt L)).length<=L.length:=by
 refine⟨?_,fun k=>?_,?_⟩
 ·unfold List.Nodup at s t ⊢
  rw[List.pairwise_map]
  refine s.imp_of_mem fun {i j} o w v u=>?_
  have g:=(d i).2 o
  have m:=(d j).2 w
  rw[zh1 g,zh1 m] at u
  refine v (ze1 (bs:=(List.range L.length)) List.nodup_range (by simpa using g) (by simpa using m) ?_)
  simp only[List.getElem_range]
  rw[List.pairwise_iff_getElem] at t
  rcases Nat.lt_trichotomy i j with h|h|h
  ·exact absurd (by rw[List.getElem_map,List.getElem_map];exact u) (t i j (by simpa using g) (by simpa using m) h)
  ·exact h
  ·exact absurd (by rw[List.getElem_map,List.getElem_map];exact u.symm) (t j i (by simpa using m) (by simpa using g) h)
 ·rw[List.mem_map,List.mem_map]
  constructor
  ·rintro⟨i,o,rfl⟩
   have g:=(d i).2 o
   exact⟨L[i],List.getElem_mem g,(zh1 g).symm⟩
  ·rintro⟨p,x,rfl⟩
   obtain⟨i,o,rfl⟩:=List.mem_iff_getElem.1 x
   exact⟨i,(d i).1 o,zh1 o⟩
 ·rw[List.length_map]
  exact pig L.length is s fun i o=>(d i).2 o
theorem zjs{M:Mem}{pb r clk:Nat}{ty:TypeId}{L:Mk}{bs:List Nat}(o:At M pb (.cells true [.map (some r)] ty))(A:At M r (.map (encK L) bs clk))(m:StOk bs clk L.length)(x:L.length<=1000)(y:(L.map (·.1)).Nodup) :
  CallN Tryz.prog 193 [kseq pb] M (fun w M'=>∃ g:List Ky,g.Nodup/\(∀ k,k∈g↔k∈L.map (·.1))/\g.length<=L.length/\Vec M.next 2 281 kyc M' w g/\Grow M M'):=by
 refine z1z Y193.2 rfl ?_
 delta Y193;refine un ?_
 refine Wh ?_
 refine z55 (by exact gd) rfl rfl (zf1 o A m x) ?_
 rintro w M' ⟨is,j,d,s,z⟩
 obtain⟨t,u,v⟩:=zsb y j d
 obtain⟨a,f,e,rfl⟩:=s.shape
 refine Wh ?_
 refine kf ?_
 exact⟨_,t,u,v,s,z⟩
theorem zd8{M:Mem}{pb r clk:Nat}{ty:TypeId}{L:Mk}{bs:List Nat}(m:At M pb (.cells true [.map (some r)] ty))(C:At M r (.map (encK L) bs clk))(j:StOk bs clk L.length)(G:L.length<=200)(y:(L.map (·.1)).Nodup) :
  CallN Tryz.prog 139 [kseq pb,cf] M (fun w M'=>∃ d:List Ky,d.Pairwise klt/\(∀ k,k∈d↔k∈L.map (·.1))/\d.length<=L.length/\Vec M.next 2 281 kyc M' w d/\Grow M M'):=by
 refine z1z Y139.2 rfl ?_
 delta Y139;refine un ?_
 refine Wh ?_
 refine z55 (by exact gd) rfl rfl (zjs m C j (by omega) y) ?_
 rintro w M' ⟨d,u,v,E,t,z⟩
 obtain⟨a,f,e,rfl⟩:=t.shape
 repeat' first|with_reducible intro _|refine sv ?_|((with_reducible first|apply zk|apply zp|apply zh);exact gd;exact rfl;exact rfl;(first|exact zi2 t (by omega) u))|refine ss ?_ ?_<;>(intro h;first|exact sz h|refine sy h ?_)|exact sq|fail
 rename_i D
 obtain⟨s,o,x,h5,F,B⟩:=D
 have g:=Keep.to_grow' z B (fun i A=>A)
 refine Wh ?_
 refine kf ?_
 exact⟨s,x,fun k=>(h5 k).trans (v k),by omega,o,g⟩
abbrev FW:=Ky×Option (Nat×Nat)×Nat×Bool×Nat
abbrev fwc(x:FW):List LV:=[I x.1.1,I x.1.2,.slice x.2.1 x.2.2.1 x.2.2.2.1 x.2.2.2.2]
def FwV(M:Mem)(x:FW)(f:Fr):Prop:=x.1=fky f/\x.2.2.1=f.2.2.length/\SlI M x.2.1 f.2.2
inductive FwL (M:Mem):List FW->List Fr->Prop
 | nil:FwL M [] []
 | cons {x:FW} {f:Fr} {xs:List FW} {fs:List Fr} (h:FwV M x f) (h':FwL M xs fs):FwL M (x :: xs) (f :: fs)
theorem FwL.len{M:Mem}{xs:List FW}{fs:List Fr}(h:FwL M xs fs):xs.length=fs.length:=by
 induction h with
 | nil=>rfl
 | cons _ _ d=>simp[d]
theorem FwL.snoc{M:Mem}{xs:List FW}{fs:List Fr}{x:FW}{f:Fr}(h:FwL M xs fs)(d:FwV M x f):FwL M (xs++[x]) (fs++[f]):=by
 induction h with
 | nil=>exact .cons d .nil
 | cons h _ g=>exact .cons h g
theorem FwL.at{M:Mem}{xs:List FW}{fs:List Fr}(h:FwL M xs fs):∀ {k:Nat} (h1:k<xs.length) (d:k<fs.length),FwV M xs[k] fs[k]:=by
 induction h with
 | nil=>intro k h1;simp at h1
 | cons h _ g=>
  intro k h1 d
  cases k with
  | zero=>exact h
  | succ k=>exact g (by simpa using h1) (by simpa using d)
theorem FwV.grow{M M':Mem}{x:FW}{f:Fr}(h:FwV M x f)(d:Grow M M'):FwV M' x f:=⟨h.1,h.2.1,h.2.2.grow d⟩
theorem zux{b:Nat}{ty:TypeId}{M:Mem}{v:LV}{xs:List FW}{fs:List Fr}(A:Vec b 3 ty fwc M v xs)(g:FwL M xs fs):∃ a f e,v=.slice a fs.length f e/\FsV M a fs:=by
 obtain⟨a,f,e,w,x⟩:=A.rd (fun _ _=>rfl)
 refine⟨a,f,e,by rw[<-g.len];exact w,?_⟩
 rcases x with rfl|⟨i,o,rfl,y⟩
 ·left
  have:=g.len
  exact List.length_eq_zero_iff.1 (by rw[<-this];rfl)
 ·refine .inr ⟨i,o,rfl,fun k j=>?_⟩
  have d:k<xs.length:=by rw[g.len];exact j
  have z:=y k d
  obtain⟨h,t,u⟩:=g.at d j
  refine⟨xs[k].2.1,xs[k].2.2.2.1,xs[k].2.2.2.2,?_,u⟩
  have m:xs[k].1.1=fs[k].1:=congrArg Prod.fst h
  have s:xs[k].1.2=fs[k].2.1:=congrArg Prod.snd h
  rw[<-m,<- s,<- t]
  exact z
inductive FwL1 (M:Mem):List FW->List Fr->Prop
 | nil:FwL1 M [] []
 | cons {x:FW} {f:Fr} {xs:List FW} {fs:List Fr} (h:FwV M x f) (h1:f.2.2 ≠ []->x.2.2.2.2=1) (h':FwL1 M xs fs):FwL1 M (x :: xs) (f :: fs)
theorem FwL1.l{M:Mem}{xs:List FW}{fs:List Fr}(h:FwL1 M xs fs):FwL M xs fs:=by
 induction h with
 | nil=>exact .nil
 | cons h _ _ d=>exact .cons h d
theorem FwL1.snoc{M:Mem}{xs:List FW}{fs:List Fr}{x:FW}{f:Fr}(h:FwL1 M xs fs)(d:FwV M x f)(h1:f.2.2≠[]->x.2.2.2.2=1):FwL1 M (xs++[x]) (fs++[f]):=by
 induction h with
 | nil=>exact .cons d h1 .nil
 | cons h g _ j=>exact .cons h g j
theorem FwL1.grow{M M':Mem}{xs:List FW}{fs:List Fr}(h:FwL1 M xs fs)(g:Grow M M'):FwL1 M' xs fs:=by
 induction h with
 | nil=>exact .nil
 | cons h d _ j=>exact .cons (h.grow g) d j
theorem FwL1.one{M:Mem}{xs:List FW}{fs:List Fr}(h:FwL1 M xs fs):∀ {k:Nat} (h1:k<xs.length) (d:k<fs.length),fs[k].2.2≠[]->xs[k].2.2.2.2=1:=by
 induction h with
 | nil=>intro k h1;simp at h1
 | cons h d _ m=>
  intro k g j
  cases k with
  | zero=>exact d
  | succ k=>exact m (by simpa using g) (by simpa using j)
theorem zs7{b:Nat}{ty:TypeId}{M:Mem}{v:LV}{xs:List FW}{fs:List Fr}(D:Vec b 3 ty fwc M v xs)(g:FwL1 M xs fs)(m:∀ x∈fs,x.2.2≠[]):∃ a f e,v=.slice a fs.length f e/\FsV1 M a fs:=by
 have j:=g.l
 obtain⟨a,f,e,z,A⟩:=D.rd (fun _ _=>rfl)
 refine⟨a,f,e,by rw[<-j.len];exact z,?_⟩
 rcases A with rfl|⟨i,o,rfl,B⟩
 ·left
  have:=j.len
  exact List.length_eq_zero_iff.1 (by rw[<-this];rfl)
 ·refine .inr ⟨i,o,rfl,fun k h=>?_⟩
  have d:k<xs.length:=by rw[j.len];exact h
  have C:=B k d
  obtain⟨s,w,y⟩:=j.at d h
  have g4:=g.one d h (m _ (List.getElem_mem h))
  refine⟨xs[k].2.1,xs[k].2.2.2.1,?_,y⟩
  have t:xs[k].1.1=fs[k].1:=congrArg Prod.fst s
  have u:xs[k].1.2=fs[k].2.1:=congrArg Prod.snd s
  rw[<-t,<- u,<- w,<- g4]
  exact C
theorem zgw{m:Nat}{x:FW}{M M':Mem}{ty:TypeId}(g:New M m (.cells true (fwc x) ty) M'):zz 3 1 (.slice (some (m,0)) 1 true 3) M'=some ([x].flatMap fwc) :=
 z1g (enc:=fwc) (l:=[x]) (fun _ _=>rfl) (fun h d=>z18 (enc:=fwc) (l:=[x]) (At.new_same g) (fun _ _=>rfl) d)
set_option maxHeartbeats 8000000 in
theorem zne{M:Mem}{r:Nat}{R:Rk}{J:List Fr}(hR:RkM M r R)(hJ:RJ R J)(b6:∀ x∈J,x.2.2≠[])(c4:R.length<=1000000) :
  CallN Tryz.prog 64 [.map (some r)] M (fun w M'=>((J.length<=128 /\ ∃ a f e,w=.tup [.slice a J.length f e,.bool true]/\FsV1 M' a J) ∨(128<J.length/\w=.tup [zsl,.bool false]))/\Grow M M'):=by
 obtain⟨L,bs,clk,t,b7,hL⟩:=hR
 have d2:=hL.len
 have s:=hL.keys
 have d1:=hJ.len
 have hN:(L.map (·.1)).Nodup:=by rw[s];exact hJ.n
 refine z1z Y64.2 rfl ?_
 delta Y64;refine un ?_
 have d5:(encK L).length=L.length:=by simp[encK]
 by_cases c3:128<R.length
 ·refine Wh ?_
  refine z35 (by exact gd) (zmt rfl t) ?_
  refine Wg ?_;intro h
  refine kf ?_
  exact⟨.inr ⟨by omega,rfl⟩,Grow.refl _⟩
 refine Wh ?_
 refine z35 (by exact gd) (zmt rfl t) ?_
 repeat' first|with_reducible intro _|refine sv ?_|((with_reducible first|apply za8|apply z8u);exact gd;exact rfl;exact rfl;(first|exact ztz))|refine ss ?_ ?_<;>(intro h;first|exact sz h|refine sy h ?_)|exact sq|fail
 all_goals try(exfalso;omega)
 rename_i pb M1 b8 q1 e6 Q c8
 refine z55 (by exact gd) rfl rfl (zd8 b8 (At.grow Q t) b7 (by omega) hN) ?_
 rintro w u ⟨d,V,U,d6,hv,a9⟩
 have b4:=hJ.frames V (fun k=>by rw[U,s])
 have g:=Q.trans a9
 obtain⟨a2,f2,e2,rfl,H⟩:=hv.rd (fun _ _=>rfl)
 refine Wh ?_
 have d4:u.next=u.next:=rfl
 refine zg (fun z E ms M'=>∃(k:Nat) (N:List FW) (v:LV),z=d.length-k/\k<=d.length/\ms=[]/\Has E [(0,.map (some r)),(12,.slice a2 d.length f2 e2),(13,I d.length),(14,I k),(4,v)]/\Vec u.next 3 72 fwc M' v N/\FwL1 M N ((d.take k).map (frK R))/\Grow u M')
  ?_ (d.length-0) _ _ _ ⟨0,[],_,rfl,Nat.zero_le _,rfl,hz,Vec.nil,.nil,Grow.refl _⟩
 rintro z E ms M3 ⟨k,N,v,rfl,hk,rfl,hE,K,A,j⟩
 refine z06 hE ?_
 obtain⟨a3,f3,e3,rfl⟩:=K.shape
 by_cases G:k=d.length
 ·subst G
  rw[List.take_length,b4] at A
  have O:=A.grow (g.trans j)
  refine Wh ?_;intro h
  refine kf ?_
  obtain⟨a,f,e,he,a8⟩:=zs7 K O b6
  exact⟨.inl ⟨by omega,a,f,e,by rw[he];rfl,a8⟩,g.trans j⟩
 have B:k<d.length:=by omega
 rcases H with h0|⟨i2,o2,rfl,H⟩
 ·rw[h0] at B;exact absurd B (Nat.not_lt_zero _)
 have b9:=(H k B).grow j
 have b3:=hL.look d[k]
 have a6:frK R d[k]=(d[k].1,d[k].2,(lkK R d[k]).getD []):=rfl
 have c0:(d.take (k+1)).map (frK R)=(d.take k).map (frK R)++[frK R d[k]]:=by rw[List.take_succ_eq_append_getElem B,List.map_append];rfl
 obtain⟨av,fv,ev,Y,c1,c2⟩:=b3
 generalize (lkK R d[k]).getD []=C at *
 have e0:=At.grow (g.trans j) t
 have c5:=Y
 generalize d[k]=kk at *
 have e5:N.length=k:=by rw[A.l.len];simp;omega
 have c7:=b9;refine Wh ?_;intro h n4 M4 a4 q4 e8 M5 a5 q5 d0
 have b5:At M5 r (.map (encK L) bs clk):=by have:=t.2;have:=g.le;have:=j.le;exact xm
 have a1:∀ {E:Env} {x y:XO} (m:Mem),At m r (.map (encK L) bs clk)->xval E x=some (.map (some r))->xval E y=some (kyv kk)->zl Tryz.prog (.lkp 281 zsl false x y) E m=some (.val (.slice av C.length fv ev) m):=fun m t hx hy=>by
  have:=zle t hx hy
  rw[Y] at this;exact this
 have D:Keep (fun _=>False) M3 M5:=xk
 have d8:=D.le
 have Z:=K.keep D (fun i hi=>hi.elim)
 have d7:=j.le
 have b0:Grow u M5:=xg
 have e4:=t.2
 have d3:=g.le
 clear a5 a4
 refine Wh ?_
 refine z63 (by exact gd) (a1 _ b5 rfl rfl) (fun m=>At m r (.map (encK L) bs clk)) (fun m t=>a1 m t rfl rfl) ?_
 refine Wh ?_;intro n6 M6 F q6 e9
 have a0:=Z.grow F.grow
 have S:Grow u M6:=b0.trans F.grow
 have P:FwL1 M (N++[(kk,av,C.length,fv,ev)]) ((d.take (k+1)).map (frK R)):=by
  rw[c0,a6]
  exact A.snoc ⟨rfl,rfl,c2⟩ c1
 have d9:=S.le
 refine z4l (l':=[(kk,av,C.length,fv,ev)]) (by exact gd) a0 rfl rfl rfl (by simp) (by simp;omega) rfl (zgw (x:=(kk,av,C.length,fv,ev)) F) (fun _=>rfl) (fun _=>rfl) (by omega) ?_
 intro v7 M7 X e7 b2
 have b1:Grow u M7:=Keep.to_grow' S b2 (fun i hi=>hi.1)
 obtain⟨a7,f7,c9,rfl⟩:=X.shape
 have e1:∀ i,i<u.next->¬(u.next<=i /\ ∃ o n f e,LV.slice a3 N.length f3 e3=.slice (some (i,o)) n f e):=fun i hi h=>by omega
 refine Wh ?_
 exact zi (d.length-(k+1)) (by omega) ⟨k+1,_,_,rfl,by omega,rfl,hz,X,P,b1⟩
