/-
 Part of the proof of TapePlaces. No condition beyond those in each theorem.
-/
import Derived.Test.YtegiepfebnaebaaGreatDoorSC
section
open Go PvL Go.Proofs
set_option linter.unusedSimpArgs false
set_option linter.unusedVariables false
namespace Go.Proofs.YtegiepfebnaebaaGreatDoor.C
def NotIn (v w:LV):Prop:=∀ i,(∃ o n f e,v=.slice (some (i,o)) n f e)->¬ ∃ o n f e,w=.slice (some (i,o)) n f e
theorem Vec.keepQ {α:Type} {b sz:Nat} {ty:TypeId} {enc:α->List LV} {M M':Mem} {v w:LV} {l:List α} (h:Vec b sz ty enc M v l) {c:Nat} (hk:Keep (fun i=>c<=i /\ ∃ o n f e,w=.slice (some (i,o)) n f e) M M') (hd:NotIn w v):Vec b sz ty enc M' v l:=by
 rcases h with h|⟨i,h1,h2,h3⟩
 ·exact .inl h
 ·exact .inr ⟨i,h1,h2.keep hk (fun hf=>hd i hf.2 ⟨_,_,_,_,h1⟩),h3⟩
theorem zjf {M:Mem} {i o:Nat} {a b c d:LV} (h:Rd M i o 4 [a,b,c,d]):Rd M i (o+1) 2 [b,c]:=by
 obtain ⟨h1,h2⟩:=h
 refine ⟨?_,h2⟩
 unfold loadN atCells at *
 obtain ⟨lb,h3,h4⟩:=za.1 h1
 rw [h3,z0]
 cases lb with
 | cells own cs ty =>
  have h4:take' 4 (drop' o cs)=some [a,b,c,d]:=h4
  obtain ⟨h5,h6⟩:=z0s.1 h4
  show take' 2 (drop' (o+1) cs)=some [b,c]
  rw [z0b] at h5 h6 ⊢
  rw [z0s]
  have h7:cs.drop (o+1)=(cs.drop o).drop 1:=by rw [List.drop_drop]
  rw [h7]
  generalize cs.drop o=D at *
  match D,h5,h6 with
  | p :: q :: r :: t :: D,_,h6 =>
   have h6:[a,b,c,d]=[p,q,r,t]:=h6
   cases h6
   exact ⟨by simp,rfl⟩
 | _=>cases h4
theorem zf9 {a b c a' b' c' e e':Nat} {d d':Bool} (h:LV.slice (some (a,b)) c d e=.slice (some (a',b')) c' d' e'):a=a':=by
 injection h with h
 injection h with h
 injection h with h
theorem Vec.updN {α:Type} {b sz j:Nat} {ty:TypeId} {enc:α->List LV} {M M':Mem} {v:LV} {l:List α} {lb:LB} (h:Vec b sz ty enc M v l) (hu:Upd M j lb M') (hd:∀ o n f e,v ≠ .slice (some (j,o)) n f e):Vec b sz ty enc M' v l:=by
 rcases h with h|⟨i,h1,h2,h3⟩
 ·exact .inl h
 ·exact .inr ⟨i,h1,At.upd_ne hu (fun he=>hd _ _ _ _ (by rw [<-he];exact h1)) h2,h3⟩
theorem zbz {M M':Mem} {n:Nat} {ty:TypeId} {p:Pt} (h:New M n (.cells true (ptc p) ty) M'):firstL 2 1 (.slice (some (n,0)) 1 true 2) M'=some ([p].flatMap ptc):=by
 have ha:=At.new_same h
 show loadN M' n 0 (1*2)=_
 exact (Rd.of_at (l:=ptc p) ha rfl).1
set_option maxHeartbeats 16000000 in
theorem z95 {M:Mem} {a:Option (Nat × Nat)} {L:List Mk} {f:Bool} {px py:Int} (hs:SlM M a L) (hl:L.length<=1000000000000000) (hin:∀ m ∈ L,I64 m.2.1 /\ I64 m.2.2.1) (hpx:I64 px) (hpy:I64 py) (hE:ES M) (hP:P10 M) (hD:D64 M) (hB:Base M) (hp:preOk M tabs=true) :
  CallOk Tryz.prog 5 [.slice a L.length f 4,.agg [I px,I py]] M (fun q _=>q=.bool true):=by
 refine zg k5 rfl ?_
 dsimp only [x5,zipE,Nat.reduceAdd]
 have hpM:∀ M',Grow M M'->preOk M' tabs=true:=fun M' hg=>z6j (Ext.of_grow hg hB) hp
 obtain ⟨N1,hh⟩:∃ N1:Nat,N1=min L.length 200:=⟨_,rfl⟩
 have hmin:iMin (L.length:Int) 200=(N1:Int):=by unfold iMin;omega
 obtain ⟨a1,f1,e1,hsc,hs1⟩:=zh2 (f:=f) hs (show N1<=L.length by omega)
 have hll:(L.take N1).length=N1:=by rw [List.length_take];omega
 have hin1:∀ m ∈ L.take N1,I64 m.2.1 /\ I64 m.2.2.1:=fun m hm=>hin m (List.mem_of_mem_take hm)
 have hN2:N1<=200:=by omega
 (repeat' (first|(with_reducible intro _)|refine sv ?_|(refine sc ?_ ?_<;>(intro h;try first|exact h.elim|exact absurd rfl h|(exfalso;omega)))|(refine sg ?_ ?_<;>(intro h;(fail_if_success (have:True:=h));try first|exact h.elim|exact absurd rfl h|(exfalso;omega)))|assumption|exact xm|exact rfl))
 rw [hmin]
 refine zl (by exact gd) (zk6 hsc rfl rfl) ?_
 rename_i nb M1 u1 u2 u3
 have hab:At M1 nb (.cells true [I px,I py] _):=At.new_same u1
 have g1:Grow M M1:=u1.grow
 clear hsc hmin hh hs u1 u2 u3 hin
 generalize L.take N1=l at *
 subst hll
 have hs1:=hs1.grow g1
 generalize hrx:rstM px 2001=du at *
 generalize hry:rstM py 2001=dw at *
 have hrxb:=zf8 px
 have hryb:=zf8 py
 rw [hrx] at hrxb
 rw [hry] at hryb
 have cr1:=zdo px 2001 hpx (by omega)
 have cr2:=zdo py 2001 hpy (by omega)
 rw [hrx] at cr1
 rw [hry] at cr2
 (repeat' (first|(with_reducible intro _)|refine sv ?_|(refine sc ?_ ?_<;>(intro h;try first|exact h.elim|exact absurd rfl h|(exfalso;omega)))|(refine sg ?_ ?_<;>(intro h;(fail_if_success (have:True:=h));try first|exact h.elim|exact absurd rfl h|(exfalso;omega)))|assumption|exact xm|exact rfl))
 have hb0n:nb < M1.next:=hab.2
 refine zx (fun m E ms M'=>∃ (k:Nat) (v w:LV),m=l.length - k /\ k<=l.length /\ ms=[] /\ Has E [(0,.slice a1 l.length f1 e1),(3,.ptr (some (nb,0))),(5,v),(6,.slice none 0 true 0),(7,w),(8,I k)] /\ Grow M1 M' /\ Vec M1.next 2 33 ptc M' v ((l.take k).map plc) /\ Vec M1.next 4 36 mkc M' w ((l.take k).map (mvM du dw)) /\ NotIn v w)
  ?_ l.length _ _ _ ⟨0,_,_,by omega,by omega,rfl,.cons rfl (.cons rfl (.cons rfl (.cons rfl (.cons rfl (.cons rfl .nil))))),Grow.refl _,Vec.nil,Vec.nil,fun i hi=>by obtain ⟨_,_,_,_,h1⟩:=hi;cases h1⟩
 rintro m E ms M2 ⟨k,v,w,rfl,hk,rfl,hE2,hg2,hv2,hw2,hd2⟩
 refine z3l hE2 ?_
 by_cases hlast:k=l.length
 case neg =>
  have hlt:k < l.length:=by omega
  obtain ⟨i,o,rfl,hr⟩:=(hs1.grow hg2).rd hlt
  have hrk:=hr k hlt
  have hmi:=hin1 _ (List.getElem_mem hlt)
  have htv:(l.take (k+1)).map plc=(l.take k).map plc ++ [plc (me l k)]:=by rw [List.take_succ_eq_append_getElem hlt,List.map_append,z8a hlt];rfl
  have htw:(l.take (k+1)).map (mvM du dw)=(l.take k).map (mvM du dw) ++ [mvM du dw (me l k)]:=by rw [List.take_succ_eq_append_getElem hlt,List.map_append,z8a hlt];rfl
  have hlen1:((l.take k).map plc).length=k:=by rw [List.length_map,List.length_take];omega
  have hlen2:((l.take k).map (mvM du dw)).length=k:=by rw [List.length_map,List.length_take];omega
  rw [<-z8a hlt] at hmi
  generalize me l k=m at *
  obtain ⟨s,x,y,t⟩:=m
  dsimp only at hmi
  have hrk:Rd M2 i (o+k*4) 4 [I s,I x,I y,I t]:=hrk
  have hl2:=hg2.le
  (have hrd0:=hrk;repeat' (first|(with_reducible intro _)|refine sv ?_|(refine sc ?_ ?_<;>(intro h;try first|exact h.elim|exact absurd rfl h|(exfalso;omega)))|(refine sg ?_ ?_<;>(intro h;(fail_if_success (have:True:=h));try first|exact h.elim|exact absurd rfl h|(exfalso;omega)))|assumption|exact xm|exact rfl))
  all_goals try (exfalso;omega)
  rename_i n3 M3 z1 z2 z3 M4 z4 z5 z6 n5 M5 z7 z8 z9
  have g25:Grow M2 M5:=(z1.grow.upd z4 (by omega)).trans z7.grow
  have a5:=At.grow z7.grow z6
  have hv5:=hv2.grow g25
  have hw5:=hw2.grow g25
  have l25:=g25.le
  have hn3:n3=M2.next:=z2
  have hn3b:n3 < M5.next:=a5.2
  have g15:=hg2.trans g25
  clear z1 z4 z6 z2 z3 z5 z8
  refine z2z (by exact gd) (l':=[((x,y):Pt)]) hv5 rfl rfl rfl (by simp) (by rw [List.length_singleton,hlen1];omega) rfl (zbz (p:=(x,y)) z7) (fun _=>rfl) (fun _=>rfl) (by omega) ?_
  rintro v6 M6 hv6 hn6 hk6 ⟨q1,q2,q3,rfl⟩
  have hw6:=Vec.keepQ hw5 hk6 hd2
  have g6:Grow M1 M6:=Keep.to_grow' g15 hk6 (fun i hi=>hi.1)
  have a6:=hk6.at a5 (fun hf=>by
   obtain ⟨_,o1,o2,o3,o4,h5⟩:=hf
   have:=Vec.blt hv2 h5
   omega)
  have b6:=hab.grow g6
  have hd6:NotIn (.slice (some (M5.next,0)) q1 q2 q3) w:=fun i hi hj=>by
   obtain ⟨_,_,_,_,h1⟩:=hi
   obtain ⟨_,_,_,_,h2⟩:=hj
   cases h1
   have:=Vec.blt hw5 h2
   omega
  rw [show [((x,y):Pt)]=[plc (s,x,y,t)] from rfl,<- htv] at hv6
  have hnb6:nb < M6.next:=b6.2
  have hn36:n3 < M6.next:=a6.2
  have hm5:M5.next < M6.next:=by omega
  clear z7 hk6 hv5 hw5 a5 hg2 g25
  have hgl:=g6.le
  (repeat' (first|(with_reducible intro _)|refine sv ?_|(refine sc ?_ ?_<;>(intro h;try first|exact h.elim|exact absurd rfl h|(exfalso;omega)))|(refine sg ?_ ?_<;>(intro h;(fail_if_success (have:True:=h));try first|exact h.elim|exact absurd rfl h|(exfalso;omega)))|assumption|exact xm|exact rfl))
  (repeat' (first|(with_reducible intro _)|refine sv ?_|(refine sc ?_ ?_<;>(intro h;try first|exact h.elim|exact absurd rfl h|(exfalso;omega)))|((with_reducible first|apply z05|apply z04|apply zt);exact gd;exact rfl;exact rfl;(first|exact cr1 _|exact cr2 _))|(refine sg ?_ ?_<;>(intro h;(fail_if_success (have:True:=h));try first|exact h.elim|exact absurd rfl h|(exfalso;omega)))|assumption|exact xm|exact rfl))
  rename_i M7 y1 y2 y3 n8 M8 y4 y5 y6
  have hv7:=Vec.updN hv6 y1 (fun o1 o2 o3 o4 h1=>by have:=zf9 h1;omega)
  have hw7:=Vec.updN hw6 y1 (fun _ _ _ _ h1=>by have:=Vec.blt hw2 h1;omega)
  have g8:Grow M1 M8:=(g6.upd y1 (by omega)).trans y4.grow
  have hv8:=hv7.grow y4.grow
  have hw8:=hw7.grow y4.grow
  have hl8:=g8.le
  clear hv7 hw7 y1 y3 hv6 hw6
  refine z2z (by exact gd) (l':=[mvM du dw (s,x,y,t)]) hw8 rfl rfl rfl (by simp) (by rw [List.length_singleton,hlen2];omega) rfl (zbu (m:=mvM du dw (s,x,y,t)) y4) (fun _=>rfl) (fun _=>rfl) (by omega) ?_
  rintro v9 M9 hw9 hn9 hk9 ⟨r1,r2,r3,rfl⟩
  have hv9:=Vec.keepQ hv8 hk9 (fun i hi hj=>hd6 i hj hi)
  have g9:Grow M1 M9:=Keep.to_grow' g8 hk9 (fun i hi=>hi.1)
  rw [<-htw] at hw9
  have hd9:NotIn (.slice (some (M5.next,0)) q1 q2 q3) (.slice (some (M8.next,0)) r1 r2 r3):=fun i hi hj=>by
   obtain ⟨_,_,_,_,h1⟩:=hi
   obtain ⟨_,_,_,_,h2⟩:=hj
   have:=zf9 h1
   have:=zf9 h2
   omega
  clear y4
  (repeat' (first|(with_reducible intro _)|refine sv ?_|(refine sc ?_ ?_<;>(intro h;try first|exact h.elim|exact absurd rfl h|(exfalso;omega)))|(refine sg ?_ ?_<;>(intro h;(fail_if_success (have:True:=h));try first|exact h.elim|exact absurd rfl h|(exfalso;omega)))|assumption|exact xm|exact rfl))
  exact z1h (l.length - (k+1)) (by omega) ⟨k+1,_,_,rfl,by omega,rfl,.cons rfl (.cons rfl (.cons rfl (.cons rfl (.cons rfl (.cons rfl .nil))))),g9,hv9,hw9,hd9⟩
 rw [hlast,List.take_length] at hv2 hw2
 have hl2:=hg2.le
 obtain ⟨a5,f5,e5,rfl,hr5⟩:=hv2.rd (fun _ _=>rfl)
 obtain ⟨a7,f7,e7,rfl,hr7⟩:=hw2.rd (fun _ _=>rfl)
 have hq5:SlQ M2 a5 (l.map plc):=hr5
 have hq7:SlM M2 a7 (l.map (mvM du dw)):=hr7
 have hg02:=g1.trans hg2
 have hab2:=hab.grow hg2
 clear hv2 hw2 hr5 hr7 hd2 hs1 hE2
 rw [hlast]
 have hlp:(l.map plc).length=l.length:=List.length_map ..
 have hlm:(l.map (mvM du dw)).length=l.length:=List.length_map ..
 have hpl:(l.map (mvM du dw)).map plc=(l.map plc).map (fun p=>(wr p.1 du,wr p.2 dw)):=by rw [List.map_map,List.map_map];rfl
 have hpi:∀ p ∈ l.map plc,I64 p.1 /\ I64 p.2:=fun p hp2=>by
  obtain ⟨m,hm,rfl⟩:=List.mem_map.1 hp2
  exact hin1 m hm
 have c1:=fun M' (hg:Grow M2 M')=>z94 (f:=f7) (e:=e7) (hq7.grow hg) (by omega) (hP.grow (hg02.trans hg)) (hD.grow (hg02.trans hg))
 have hnm:(l.map (mvM du dw)).map plc=[] ↔ l=[]:=by simp
 generalize hLm:l.map (mvM du dw)=Lm at *
 generalize hLp:l.map plc=Lp at *
 cases hm:mksB Lm with
 | false =>
  have ht:mpF Lm=([],82):=by unfold mpF;rw [hm];rfl
  rw [ht] at c1
  dsimp only at c1
  (repeat' (first|(with_reducible intro _)|refine sv ?_|(refine sc ?_ ?_<;>(intro h;try first|exact h.elim|exact absurd rfl h|(exfalso;omega)))|((with_reducible first|apply zn|apply zm|apply zi);exact gd;exact rfl;exact rfl;(first|exact c1 _ (xg)))|(refine sg ?_ ?_<;>(intro h;(fail_if_success (have:True:=h));try first|exact h.elim|exact absurd rfl h|(exfalso;omega)))|assumption|exact xm|exact rfl))
  all_goals try (exfalso;omega)
  rename_i _ M3 g3 _
  (repeat' (first|(with_reducible intro _)|refine sv ?_|(refine sc ?_ ?_<;>(intro h;try first|exact h.elim|exact absurd rfl h|(exfalso;omega)))|((with_reducible first|apply z05|apply z04|apply zt);exact gd;exact rfl;exact rfl;(first|exact z81 (hpM _ (hg02.trans g3))))|(refine sg ?_ ?_<;>(intro h;(fail_if_success (have:True:=h));try first|exact h.elim|exact absurd rfl h|(exfalso;omega)))|assumption|exact xm|exact rfl))
  ((with_reducible first|apply zh|apply zc);exact rx)
  rfl
 | true =>
 have ht:mpF Lm=(mxL Lm,0):=by unfold mpF;rw [hm];rfl
 have hpo:=zni znk hm (zen hm)
 have hmxl:=z6d Lm
 rw [ht] at c1
 dsimp only at c1
 by_cases hl0:l.length=0
 ·(repeat' (first|(with_reducible intro _)|refine sv ?_|(refine sc ?_ ?_<;>(intro h;try first|exact h.elim|exact absurd rfl h|(exfalso;omega)))|((with_reducible first|apply zn|apply zm|apply zi);exact gd;exact rfl;exact rfl;(first|exact c1 _ (xg)))|(refine sg ?_ ?_<;>(intro h;(fail_if_success (have:True:=h));try first|exact h.elim|exact absurd rfl h|(exfalso;omega)))|assumption|exact xm|exact rfl))
  all_goals try (exfalso;omega)
  rename_i _ M3 g3 _
  (repeat' (first|(with_reducible intro _)|refine sv ?_|(refine sc ?_ ?_<;>(intro h;try first|exact h.elim|exact absurd rfl h|(exfalso;omega)))|((with_reducible first|apply z05|apply z04|apply zt);exact gd;exact rfl;exact rfl;(first|exact z81 (hpM _ (hg02.trans g3))))|(refine sg ?_ ?_<;>(intro h;(fail_if_success (have:True:=h));try first|exact h.elim|exact absurd rfl h|(exfalso;omega)))|assumption|exact xm|exact rfl))
  ((with_reducible first|apply zh|apply zc);exact rx)
  rfl
 (repeat' (first|(with_reducible intro _)|refine sv ?_|(refine sc ?_ ?_<;>(intro h;try first|exact h.elim|exact absurd rfl h|(exfalso;omega)))|((with_reducible first|apply zn|apply zm|apply zi);exact gd;exact rfl;exact rfl;(first|exact c1 _ (xg)))|(refine sg ?_ ?_<;>(intro h;(fail_if_success (have:True:=h));try first|exact h.elim|exact absurd rfl h|(exfalso;omega)))|assumption|exact xm|exact rfl))
 all_goals try (exfalso;omega)
 rename_i _ M3 g3 _
 have hg03:=hg02.trans g3
 have c2:=z93 (mxL Lm) (by omega) (hE.grow hg03) (hP.grow hg03) (hD.grow hg03)
 rw [hpo] at c2
 dsimp only at c2
 (repeat' (first|(with_reducible intro _)|refine sv ?_|(refine sc ?_ ?_<;>(intro h;try first|exact h.elim|exact absurd rfl h|(exfalso;omega)))|((with_reducible first|apply z0t|apply z1q|apply z1e);exact gd;exact rfl;exact rfl;(first|exact c2))|(refine sg ?_ ?_<;>(intro h;(fail_if_success (have:True:=h));try first|exact h.elim|exact absurd rfl h|(exfalso;omega)))|assumption|exact xm|exact rfl))
 rename_i w4 M4 hq
 obtain ⟨⟨a4,f4,e4,rfl,hs4⟩,hg4⟩:=hq
 have g4:=g3.trans hg4
 have hg04:=hg03.trans hg4
 clear c1 c2
 (repeat' (first|(with_reducible intro _)|refine sv ?_|(refine sc ?_ ?_<;>(intro h;try first|exact h.elim|exact absurd rfl h|(exfalso;omega)))|(refine sg ?_ ?_<;>(intro h;(fail_if_success (have:True:=h));try first|exact h.elim|exact absurd rfl h|(exfalso;omega)))|assumption|exact xm|exact rfl))
 all_goals try (exfalso;omega)
 have hm4:=hg04.le
 refine zx (fun m E ms M'=>∃ (k:Nat) (v:LV),m=Lm.length - k /\ k<=Lm.length /\ ms=[] /\ Has E [(3,.ptr (some (nb,0))),(5,.slice a5 Lp.length f5 e5),(6,v),(12,.slice a4 Lm.length f4 e4),(13,I k)] /\ Grow M4 M' /\ Vec M4.next 2 33 ptc M' v ((Lm.take k).map plc))
  ?_ Lm.length _ _ _ ⟨0,_,by omega,by omega,rfl,.cons rfl (.cons rfl (.cons rfl (.cons rfl (.cons rfl .nil)))),Grow.refl _,Vec.nil⟩
 rintro m E ms M5 ⟨j,v,rfl,hj,rfl,hE5,hg5,hv5⟩
 refine z3l hE5 ?_
 by_cases hlast2:j=Lm.length
 case neg =>
  have hlt:j < Lm.length:=by omega
  obtain ⟨i,o,rfl,hr⟩:=(hs4.grow hg5).rd hlt
  have hrk:=hr j hlt
  have htv:(Lm.take (j+1)).map plc=(Lm.take j).map plc ++ [plc (me Lm j)]:=by rw [List.take_succ_eq_append_getElem hlt,List.map_append,z8a hlt];rfl
  have hlen1:((Lm.take j).map plc).length=j:=by rw [List.length_map,List.length_take];omega
  generalize me Lm j=m at *
  obtain ⟨s,x,y,t⟩:=m
  have hrk2:Rd M5 i (o+j*4+1) 2 [I x,I y]:=zjf hrk
  have hl5:=hg5.le
  (have hrd0:=hrk2;repeat' (first|(with_reducible intro _)|refine sv ?_|(refine sc ?_ ?_<;>(intro h;try first|exact h.elim|exact absurd rfl h|(exfalso;omega)))|(refine sg ?_ ?_<;>(intro h;(fail_if_success (have:True:=h));try first|exact h.elim|exact absurd rfl h|(exfalso;omega)))|assumption|exact xm|exact rfl))
  all_goals try (exfalso;omega)
  rename_i n6 M6 z1 z2 z3
  have hv6:=hv5.grow z1.grow
  refine z2z (by exact gd) (l':=[((x,y):Pt)]) hv6 rfl rfl rfl (by simp) (by rw [List.length_singleton,hlen1];omega) rfl (zbz (p:=(x,y)) z1) (fun _=>rfl) (fun _=>rfl) (by omega) ?_
  rintro v7 M7 hv7 hn7 hk7 _
  rw [show [((x,y):Pt)]=[plc (s,x,y,t)] from rfl,<- htv] at hv7
  have g7:Grow M4 M7:=Keep.to_grow' (hg5.trans z1.grow) hk7 (fun i hi=>hi.1)
  (repeat' (first|(with_reducible intro _)|refine sv ?_|(refine sc ?_ ?_<;>(intro h;try first|exact h.elim|exact absurd rfl h|(exfalso;omega)))|(refine sg ?_ ?_<;>(intro h;(fail_if_success (have:True:=h));try first|exact h.elim|exact absurd rfl h|(exfalso;omega)))|assumption|exact xm|exact rfl))
  exact z1h (Lm.length - (j+1)) (by omega) ⟨j+1,_,rfl,by omega,rfl,.cons rfl (.cons rfl (.cons rfl (.cons rfl (.cons rfl .nil)))),g7,hv7⟩
 rw [hlast2,List.take_length] at hv5
 have hl5:=hg5.le
 obtain ⟨a6,f6,e6,rfl,hr6⟩:=hv5.rd (fun _ _=>rfl)
 have hq6:SlQ M5 a6 (Lm.map plc):=hr6
 have hlq:(Lm.map plc).length=l.length:=by rw [List.length_map];exact hlm
 have hg25:=g4.trans hg5
 have hab5:=hab2.grow hg25
 have hg05:=hg04.trans hg5
 have hq55:=hq5.grow hg25
 clear hv5 hr6 hE5 hs4 hq7 hab2 hab hq5
 have c3:=c_Of (f:=f5) (e:=e5) hq55 (by omega)
 have hLp0:Lp ≠ []:=fun h0=>by rw [h0] at hlp;exact hl0 hlp.symm
 have hLp2:¬ 256 < Lp.length:=by omega
 have hof:ofF Lp=if Lp.any badP then (zRg,10) else ((hullO none Lp).getD zRg,0):=by unfold ofF;rw [if_neg hLp0,if_neg hLp2]
 have hbm:∀ m ∈ Lm,(-32768<=m.2.1 /\ m.2.1<=32768) /\ -32768<=m.2.2.1 /\ m.2.2.1<=32768:=fun m hmm=>by
  have:=zhw (z8d hm m hmm)
  exact ⟨this.2.1,this.2.2.1⟩
 have hbad2:(Lm.map plc).any badP=false:=by
  cases hb:(Lm.map plc).any badP with
  | false=>rfl
  | true =>
   obtain ⟨p,hp1,hp2⟩:=List.any_eq_true.1 hb
   obtain ⟨m,hm1,rfl⟩:=List.mem_map.1 hp1
   have:=hbm m hm1
   unfold badP plc ptB btB at hp2
   simp only [Bool.not_eq_true',Bool.and_eq_false_iff,decide_eq_false_iff_not] at hp2
   omega
 have hshift:Lm.map plc=Lp.map (shP (du - 1000,dw - 1000)):=by
  rw [hpl]
  refine List.map_congr_left fun p hp1=>?_
  have hmem:(wr p.1 du,wr p.2 dw) ∈ Lm.map plc:=by rw [hpl];exact List.mem_map.2 ⟨p,hp1,rfl⟩
  obtain ⟨m,hm1,hm2⟩:=List.mem_map.1 hmem
  have hb2:=hbm m hm1
  have e1:m.2.1=wr p.1 du:=congrArg Prod.fst hm2
  have e2:m.2.2.1=wr p.2 dw:=congrArg Prod.snd hm2
  rw [e1,e2] at hb2
  unfold shP
  rw [zm5 (hpi p hp1).1 hrxb hb2.1,zm5 (hpi p hp1).2 hryb hb2.2]
 have hof2:ofF (Lm.map plc)=((hullO none (Lm.map plc)).getD zRg,0):=by
  unfold ofF
  rw [if_neg (fun h0=>by rw [h0] at hlq;exact hl0 hlq.symm),if_neg (by omega),hbad2];rfl
 have hmv:Lp.any badP=false->moveF ((hullO none Lp).getD zRg) (du - 1000,dw - 1000)=((hullO none (Lm.map plc)).getD zRg,0):=fun hb=>by
  rw [hshift]
  exact zeo hLp0 hb (by rw [<-hshift];exact hbad2) (by unfold SmP;dsimp only;omega)
 have c4:=fun M' (hg:Grow M5 M')=>c_Of (f:=f6) (e:=e6) (hq6.grow hg) (by omega)
 rw [hof2] at c4
 rw [hof] at c3
 clear hof hof2 hshift hbad2 hbm hpl hpi hnm
 generalize hullO none (Lm.map plc)=H2 at *
 generalize hullO none Lp=H1 at *
 cases hb:Lp.any badP with
 | true =>
  rw [hb,if_pos rfl] at c3
  (repeat' (first|(with_reducible intro _)|refine sv ?_|(refine sc ?_ ?_<;>(intro h;try first|exact h.elim|exact absurd rfl h|(exfalso;omega)))|((with_reducible first|apply zn|apply zm|apply zi);exact gd;exact rfl;exact rfl;(first|exact c3))|(refine sg ?_ ?_<;>(intro h;(fail_if_success (have:True:=h));try first|exact h.elim|exact absurd rfl h|(exfalso;omega)))|assumption|exact xm|exact rfl))
  all_goals try (exfalso;omega)
  rename_i _ M6 g6 _ n7 M7 z1 z2 z3 M8 z4 z5 z6 _
  have g8:Grow M5 M8:=(g6.trans z1.grow).upd z4 (by have:=g6.le;omega)
  (repeat' (first|(with_reducible intro _)|refine sv ?_|(refine sc ?_ ?_<;>(intro h;try first|exact h.elim|exact absurd rfl h|(exfalso;omega)))|((with_reducible first|apply z05|apply z04|apply zt);exact gd;exact rfl;exact rfl;(first|exact z81 (hpM _ (hg05.trans g8))))|(refine sg ?_ ?_<;>(intro h;(fail_if_success (have:True:=h));try first|exact h.elim|exact absurd rfl h|(exfalso;omega)))|assumption|exact xm|exact rfl))
  ((with_reducible first|apply zh|apply zc);exact rx)
  rfl
 | false =>
 rw [hb,if_neg (by simp)] at c3
 have hmv:=hmv hb
 generalize H1.getD zRg=Ra at *
 generalize H2.getD zRg=Rb at *
 have c3:CallOk Tryz.prog 15 [.slice a5 Lp.length f5 e5] M5 (fun w M'=>w=.tup [rgv Ra,I 0] /\ Grow M5 M'):=c3
 have c4:∀ M',Grow M5 M'->CallOk Tryz.prog 15 [.slice a6 (Lm.map plc).length f6 e6] M' (fun w M''=>w=.tup [rgv Rb,I 0] /\ Grow M' M''):=c4
 have cm:=zki Ra (du - 1000,dw - 1000)
 rw [hmv] at cm
 have cm:∀ M,CallOk Tryz.prog 16 [rgv Ra,.agg [I (du - 1000),I (dw - 1000)]] M (fun w M'=>w=.tup [rgv Rb,I 0] /\ Grow M M'):=cm
 (repeat' (first|(with_reducible intro _)|refine sv ?_|(refine sc ?_ ?_<;>(intro h;try first|exact h.elim|exact absurd rfl h|(exfalso;omega)))|((with_reducible first|apply zn|apply zm|apply zi);exact gd;exact rfl;exact rfl;(first|exact c3))|(refine sg ?_ ?_<;>(intro h;(fail_if_success (have:True:=h));try first|exact h.elim|exact absurd rfl h|(exfalso;omega)))|assumption|exact xm|exact rfl))
 all_goals try (exfalso;omega)
 rename_i M6 g6 _ n7 M7 z1 z2 z3 M8 z4 z5 z6
 have g8:Grow M5 M8:=(g6.trans z1.grow).upd z4 (by have:=g6.le;omega)
 have b8:=hab5.grow g8
 have hne:n7 ≠ nb:=by have:=hab5.2;have:=g6.le;omega
 have hl8:=g8.le
 clear z1 z4 g6 c3
 have r81:Rd1 M8 nb (0+0) (I px):=Rd1.of_at b8 rfl
 have r82:Rd1 M8 nb (0+1) (I py):=Rd1.of_at b8 rfl
 (have hrd0:=r81;have hrd1:=r82;repeat' (first|(with_reducible intro _)|refine sv ?_|(refine sc ?_ ?_<;>(intro h;try first|exact h.elim|exact absurd rfl h|(exfalso;omega)))|((with_reducible first|apply z05|apply z04|apply zt);exact gd;exact rfl;exact rfl;(first|exact cr1 _|exact cr2 _))|((with_reducible first|apply zn|apply zm|apply zi);exact gd;exact rfl;exact rfl;(first|exact cm _))|(refine sg ?_ ?_<;>(intro h;(fail_if_success (have:True:=h));try first|exact h.elim|exact absurd rfl h|(exfalso;omega)))|assumption|exact xm|exact rfl))
 all_goals try (exfalso;omega)
 rename_i M9 g9 _ n10 M10 y1 y2 y3 M11 y4 y5 y6
 have g11:Grow M5 M11:=(g8.trans (g9.trans y1.grow)).upd y4 (by have:=g9.le;omega)
 have c4:=c4 M11 g11
 have hl11:=g11.le
 clear y1 y4 g9 z6 b8 r81 r82 hrd0 hrd1 cm cr1 cr2
 (repeat' (first|(with_reducible intro _)|refine sv ?_|(refine sc ?_ ?_<;>(intro h;try first|exact h.elim|exact absurd rfl h|(exfalso;omega)))|((with_reducible first|apply zn|apply zm|apply zi);exact gd;exact rfl;exact rfl;(first|exact c4))|(refine sg ?_ ?_<;>(intro h;(fail_if_success (have:True:=h));try first|exact h.elim|exact absurd rfl h|(exfalso;omega)))|assumption|exact xm|exact rfl))
 all_goals try (exfalso;omega)
 rename_i M12 g12 _ n13 M13 x1 x2 x3 M14 x4 x5 x6
 have g14:Grow M5 M14:=(g11.trans (g12.trans x1.grow)).upd x4 (by have:=g12.le;omega)
 (repeat' (first|(with_reducible intro _)|refine sv ?_|(refine sc ?_ ?_<;>(intro h;try first|exact h.elim|exact absurd rfl h|(exfalso;omega)))|((with_reducible first|apply z05|apply z04|apply zt);exact gd;exact rfl;exact rfl;(first|exact z81 (hpM _ (hg05.trans g14))))|(refine sg ?_ ?_<;>(intro h;(fail_if_success (have:True:=h));try first|exact h.elim|exact absurd rfl h|(exfalso;omega)))|assumption|exact xm|exact rfl))
 ((with_reducible first|apply zh|apply zc);exact rx)
 rfl
theorem zga {m:Mem} {l:List mkSh.T} {cs:List LV} (h:Enc m (.sl mkSh 32) l cs):∀ x ∈ l.map toMk,I64 x.2.1 /\ I64 x.2.2.1:=fun x hx=>by
 obtain ⟨y,hy,rfl⟩:=List.mem_map.1 hx
 obtain ⟨a,f,h1,h2,h3⟩:=h
 have hl:l ≠ []:=fun h=>by rw [h] at hy;cases hy
 obtain ⟨i,o,g1,g2,_,g3⟩:=h3 hl
 obtain ⟨k,hk,rfl⟩:=List.getElem_of_mem hy
 obtain ⟨c,g4,c1,c2,rfl,⟨rfl,_⟩,c3,c4,rfl,⟨c5,c6,rfl,⟨rfl,b1⟩,⟨rfl,b2⟩⟩,⟨rfl,_⟩⟩:=g3 k hk
 exact ⟨b1,b2⟩
theorem zlc {m:Mem} {a:Option (Nat × Nat)} {l:List Mk} {f:Bool} {px py:Int} (hs:SlM m a l) (hl:l.length<=reachBytes) (hi:∀ x ∈ l,I64 x.2.1 /\ I64 x.2.2.1) (hx:I64 px) (hy:I64 py) (hB:Base m) (hp:preOk m tabs=true):CallOk Tryz.prog 5 [.slice a l.length f 4,.agg [I px,I py]] m (fun q _=>q=.bool true) :=
 z95 hs (Nat.le_trans hl (by decide)) hi hx hy (zn7 hB hp) (zlj hB hp) (zl1 hB hp) hB hp
end Go.Proofs.YtegiepfebnaebaaGreatDoor.C
end
