/-
 Part of the proof of TopAgain. No condition beyond those in each theorem.
-/
import Derived.Test.YtbmgeagllpganaaGreatDoorSD
import Derived.Test.YtbmgeagllpganaaGreatDoorSE
import Derived.Test.YtbmgeagllpganaaGreatDoorTX
import Derived.Test.YtbmgeagllpganaaGreatDoorTA
import Derived.Test.YtbmgeagllpganaaGreatDoorPvE
import Derived.Test.YtbmgeagllpganaaGreatDoorPvH
import Derived.Test.YtbmgeagllpganaaGreatDoorPvG
import Derived.Test.YtbmgeagllpganaaGreatDoorTW
section
open Go PvL Go.Proofs
set_option linter.unusedSimpArgs false
set_option linter.unusedVariables false
namespace Go.Proofs.YtbmgeagllpganaaGreatDoor.C
abbrev prc (p:Int × Int):List LV:=[I p.1,I p.2]
def SlP (M:Mem) (a:Option (Nat × Nat)) (L:List (Int × Int)):Prop:=L=[] ∨ ∃ i o,a=some (i,o) /\ ∀ k (hk:k < L.length),Rd M i (o+k*2) 2 (prc L[k])
theorem SlP.grow {M M':Mem} {a:Option (Nat × Nat)} {L:List (Int × Int)} (h:SlP M a L) (hg:Grow M M'):SlP M' a L :=
 h.imp id fun ⟨i,o,h1,h2⟩=>⟨i,o,h1,fun k hk=>(h2 k hk).grow hg⟩
theorem SlP.rd {M:Mem} {a:Option (Nat × Nat)} {L:List (Int × Int)} (h:SlP M a L) {k:Nat} (hk:k < L.length):∃ i o,a=some (i,o) /\ Rd M i (o+k*2) 2 [I L[k].1,I L[k].2]:=by
 rcases h with rfl|⟨i,o,h1,h2⟩
 ·exact absurd hk (Nat.not_lt_zero _)
 ·exact ⟨i,o,h1,h2 k hk⟩
def PrV (M:Mem) (v:LV) (L:List (Int × Int)):Prop:=∃ a f e,v=.slice a L.length f e /\ SlP M a L
theorem PrV.grow {M M':Mem} {v:LV} {L:List (Int × Int)} (h:PrV M v L) (hg:Grow M M'):PrV M' v L:=by
 obtain ⟨a,f,e,h1,h2⟩:=h
 exact ⟨a,f,e,h1,h2.grow hg⟩
theorem PrV.nil (M:Mem):PrV M (.slice none 0 true 0) []:=⟨none,true,0,rfl,.inl rfl⟩
theorem PrV.vec {M:Mem} {b:Nat} {ty:TypeId} {v:LV} {L:List (Int × Int)} (h:Vec b 2 ty prc M v L):PrV M v L:=by
 obtain ⟨a,f,e,h1,h2⟩:=h.rd (fun _ _=>rfl)
 exact ⟨a,f,e,h1,h2⟩
theorem zik {m:Nat} {x:Int × Int} {M M':Mem} {ty:TypeId} (hn:New M m (.cells true [I x.1,I x.2] ty) M'):firstL 2 1 (.slice (some (m,0)) 1 true 2) M'=some ([x].flatMap prc) :=
 z4g (enc:=prc) (l:=[x]) (fun _ _=>rfl) (fun k' hk'=>z1s (enc:=prc) (l:=[x]) (At.new_same hn) (fun _ _=>rfl) hk')
abbrev rsc (r:Rst):List LV:=[I r.1,I r.2.1,I r.2.2]
theorem zo4 {s:List Int} {a b:Int} (h:okS s a b=false):agF s a b=([],0,84):=by unfold agF;rw [h];rfl
theorem zfw {s:List Int} {a b:Int} (h:okS s a b=true):agF s a b=(plan s a b 0,(bs s a b 0).1,0):=by unfold agF;rw [h];rfl
def tt (s:List Int) (a b:Int) (m j t:Nat):Rst:=if t+(m+1)=s.length then pk s a b (tb s a b m) t j else tb s a b m t
theorem zlw {s:List Int} {a b:Int} {t:Nat}:∀ {m:Nat},t+m < s.length->tb s a b m t=(0,0,0)
 | 0,_=>rfl
 | m+1,h=>by
  show (if t+(m+1)=s.length then _ else tb s a b m t)=_
  rw [if_neg (by omega)]
  exact zlw (by omega)
theorem tt_0 {s:List Int} {a b:Int} {m t:Nat}:tt s a b m 0 t=tb s a b m t:=by
 unfold tt
 split
 ·rename_i hc
  rw [zlw (by omega)];rfl
 ·rfl
theorem pk_s {s:List Int} {a b:Int} {G:Nat->Rst} {i j:Nat}:pk s a b G i (j+1)=if spn s i (i+j)<=b /\ (j=0 ∨ a+spn s i (i+j)+(G (i+j+1)).1 < (pk s a b G i j).1 ∨ (a+spn s i (i+j)+(G (i+j+1)).1=(pk s a b G i j).1 /\ 1+(G (i+j+1)).2.1 < (pk s a b G i j).2.1))
  then (a+spn s i (i+j)+(G (i+j+1)).1,1+(G (i+j+1)).2.1,i+j) else pk s a b G i j:=rfl
set_option maxHeartbeats 16000000 in
theorem zmc {M:Mem} {a:Option (Nat × Nat)} {s:List Int} {f:Bool} {e:Nat} {x y:Int} (hs:SlI M a s) (hl:s.length<=1000000000000000) :
  CallOk Tryz.prog 7 [.slice a s.length f e,I x,I y] M (fun w M'=>∃ q,w=.tup [q,I (agF s x y).2.1,I (agF s x y).2.2] /\ PrV M' q (agF s x y).1 /\ Grow M M'):=by
 refine zj k7 rfl ?_
 dsimp only [x7,zipE,Nat.reduceAdd]
 have ca:=fun M' (hg:Grow M M')=>zaq (f:=f) (e:=e) (x:=x) (y:=y) (hs.grow hg) hl
 cases hok:okS s x y with
 | false =>
  rw [zo4 hok]
  rw [hok] at ca
  have ca:∀ M',Grow M M'->CallOk Tryz.prog 20 [.slice a s.length f e,I x,I y] M' (fun w M2=>w=.tup [.agg [.slice none 0 true 0,I 0,I 0],I 84] /\ Grow M' M2):=ca
  (repeat' (first|(with_reducible intro _)|refine sv ?_|(refine sc ?_ ?_<;>(intro h;try first|exact h.elim|exact absurd rfl h|(exfalso;omega)))|((with_reducible first|apply z07|apply z06|apply zp);exact gd;exact rfl;exact rfl;(first|exact ca _ (xg)))|(refine sg ?_ ?_<;>(intro h;(fail_if_success (have:True:=h));try first|exact h.elim|exact absurd rfl h|(exfalso;omega)))|assumption|exact xm|exact rfl))
  ((with_reducible first|apply zi|apply zc);exact rx)
  exact ⟨_,rfl,PrV.nil _,xg⟩
 | true =>
 rw [zfw hok]
 rw [hok] at ca
 have ca:∀ M',Grow M M'->CallOk Tryz.prog 20 [.slice a s.length f e,I x,I y] M' (fun w M2=>w=.tup [agV a s.length f e x y,I 0] /\ Grow M' M2):=ca
 have ok:=zhq hok
 have hL:=ok.len
 (repeat' (first|(with_reducible intro _)|refine sv ?_|(refine sc ?_ ?_<;>(intro h;try first|exact h.elim|exact absurd rfl h|(exfalso;omega)))|((with_reducible first|apply z07|apply z06|apply zp);exact gd;exact rfl;exact rfl;(first|exact ca _ (xg)))|(refine sg ?_ ?_<;>(intro h;(fail_if_success (have:True:=h));try first|exact h.elim|exact absurd rfl h|(exfalso;omega)))|assumption|exact xm|exact rfl))
 rename_i M1 hg1 hl1 n2 M2 hN2 q1 q2 M3 hU3 q3 hA3
 clear h ca
 have hg3:Grow M M3:=xg
 refine z7y (t:=29) (v':=I ((s.length+1:Nat):Int)) rfl rfl ?_
 refine znr (by exact gd) (zix rfl rfl (Nat.le_refl _) (by omega) (by omega)) ?_
 have hN4:New M3 M3.next (.cells true (rep (s.length+1) [I 0,I 0,I 0]) 77) (M3.push (.cells true (rep (s.length+1) [I 0,I 0,I 0]) 77)):=⟨rfl,rfl⟩
 generalize hM4:M3.push (.cells true (rep (s.length+1) [I 0,I 0,I 0]) 77)=M4 at hN4 ⊢
 generalize hnb:M3.next=nb at hN4
 have e4:=hN4.next
 have hA4:=At.new_same hN4
 have hA2:=At.grow hN4.grow hA3
 have hg4:Grow M M4:=hg3.trans hN4.grow
 have hnb0:M.next<=nb:=by have:=hg3.le;omega
 have hs4:=hs.grow hg4
 clear hN2 hU3 hg1 hN4 hg3
 rw [show rep (s.length+1) [I 0,I 0,I 0]=tabL8 rsc (tb s x y 0) (s.length+1) from zie rsc _ _ (0,0,0) fun _ _=>rfl] at hA4
 refine z7y (t:=30) (v':=.slice (some (nb,0)) (s.length+1) true 3) rfl (by simp) ?_
 (repeat' (first|(with_reducible intro _)|refine sv ?_|(refine sc ?_ ?_<;>(intro h;try first|exact h.elim|exact absurd rfl h|(exfalso;omega)))|(refine sg ?_ ?_<;>(intro h;(fail_if_success (have:True:=h));try first|exact h.elim|exact absurd rfl h|(exfalso;omega)))|assumption|exact xm|exact rfl))
 have hne:n2 < nb:=by omega
 have hT0:M.next<=n2:=by omega
 refine zg (fun z E ms M'=>∃ m:Nat,z=s.length - m /\ m<=s.length /\ ms=[] /\ Has E [(0,.slice a s.length f e),(6,.slice none 0 true 0),(9,.ptr (some (n2,0))),(10,.slice (some (nb,0)) (s.length+1) true 3),(11,I ((s.length:Int) - 1 - m))] /\ Grow M M' /\ M4.next<=M'.next /\ At M' n2 (.cells true [.slice a s.length f e,I x,I y] 70) /\ At M' nb (.cells true (tabL8 rsc (tb s x y m) (s.length+1)) 77))
  ?_ s.length _ _ _ ⟨0,by omega,by omega,rfl,.cons rfl (.cons rfl (.cons rfl (.cons rfl (.cons (by show some (LV.int .i64 _)=some (LV.int .i64 _);congr 2;omega) .nil)))),hg4,Nat.le_refl _,hA2,hA4⟩
 rintro z E ms M5 ⟨m,rfl,hm,rfl,hE,hg5,hle5,hB2,hB4⟩
 refine z02 hE ?_
 by_cases hlast:m=s.length
 ·subst hlast
  have hpl:=ze4 ok s.length 0 (by omega)
  have hb0:=(zih ok s.length 0).2.2
  have hpn:(plan s x y 0).length<=s.length:=by
   have:((plan s x y 0).length:Int)<=s.length:=by rw [hpl];exact hb0.2
   omega
  have hbs:tabL8 rsc (tb s x y s.length) (s.length+1)=tabL8 rsc (bs s x y) (s.length+1):=rfl
  rw [hbs] at hB4
  have hnM:=hB4.2
  (repeat' (first|(with_reducible intro _)|refine sv ?_|(refine sc ?_ ?_<;>(intro h;try first|exact h.elim|exact absurd rfl h|(exfalso;omega)))|(refine sg ?_ ?_<;>(intro h;(fail_if_success (have:True:=h));try first|exact h.elim|exact absurd rfl h|(exfalso;omega)))|assumption|exact xm|exact rfl))
  clear hE
  refine zg (fun z E ms M'=>∃ (i:Nat) (v:LV) (pre:List (Int × Int)),z=s.length - i /\ i<=s.length /\ ms=[] /\ Has E [(0,.slice a s.length f e),(6,v),(10,.slice (some (nb,0)) (s.length+1) true 3),(16,I i)] /\ Grow M M' /\ M5.next<=M'.next /\ Vec M5.next 2 27 prc M' v pre /\ plan s x y 0=pre ++ plan s x y i /\ At M' nb (.cells true (tabL8 rsc (bs s x y) (s.length+1)) 77))
   ?_ s.length _ _ _ ⟨0,_,[],by omega,by omega,rfl,.cons rfl (.cons rfl (.cons rfl (.cons rfl .nil))),hg5,Nat.le_refl _,Vec.nil,rfl,hB4⟩
  rintro z E ms M6 ⟨i,v,pre,rfl,hi,rfl,hE,hg6,hle6,hv,hpre,hC4⟩
  refine z02 hE ?_
  by_cases hlast2:i=s.length
  ·subst hlast2
   rw [z4r (Nat.le_refl _),List.append_nil] at hpre
   have hr0:=z6b (enc:=rsc) (sz:=3) (fun _=>rfl) hC4 (k:=0) (by omega)
   have r0:Rd1 M6 nb (0+0*3+0) (I (bs s x y 0).1):=hr0.nth rfl
   (have hrd0:=r0;repeat' (first|(with_reducible intro _)|refine sv ?_|(refine sc ?_ ?_<;>(intro h;try first|exact h.elim|exact absurd rfl h|(exfalso;omega)))|(refine sg ?_ ?_<;>(intro h;(fail_if_success (have:True:=h));try first|exact h.elim|exact absurd rfl h|(exfalso;omega)))|assumption|exact xm|exact rfl))
   ((with_reducible first|apply zi|apply zc);exact rx)
   exact ⟨_,rfl,by rw [hpre];exact PrV.vec hv,hg6⟩
  have hlt:i < s.length:=by omega
  have hs6:=hs.grow hg6
  have hto:=zj7 ok i hlt
  have hpl2:=z5f ok hlt
  obtain ⟨p,o,rfl,hr⟩:=hs6.rd hlt
  obtain ⟨p2,o2,he2,hr2⟩:=hs6.rd (k:=(bs s x y i).2.2) hto.2
  obtain ⟨rfl,rfl⟩:p2=p /\ o2=o:=by injection he2 with q;injection q with q1 q2;exact ⟨q1.symm,q2.symm⟩
  rw [<-z4e hlt] at hr
  rw [<-z4e hto.2] at hr2
  have hr3:=z6b (enc:=rsc) (sz:=3) (fun _=>rfl) hC4 (k:=i) (by omega)
  have r3:Rd1 M6 nb (0+i*3+2) (I (bs s x y i).2.2):=hr3.nth rfl
  have hprl:pre.length<=128:=by
   have:=congrArg List.length hpre
   rw [List.length_append] at this
   omega
  rw [hpl2] at hpre
  generalize el s (bs s x y i).2.2=T at *
  generalize el s i=t at *
  generalize (bs s x y i).2.2=g at *
  (have hrd0:=hr;have hrd1:=hr2;have hrd2:=r3;repeat' (first|(with_reducible intro _)|refine sv ?_|(refine sc ?_ ?_<;>(intro h;try first|exact h.elim|exact absurd rfl h|(exfalso;omega)))|(refine sg ?_ ?_<;>(intro h;(fail_if_success (have:True:=h));try first|exact h.elim|exact absurd rfl h|(exfalso;omega)))|assumption|exact xm|exact rfl))
  rename_i n9 M9 hn9 e9 e10
  have hp2:p2 < M5.next:=by
   obtain ⟨p3,o3,he3,hr9⟩:=hs.rd hlt
   obtain ⟨rfl,rfl⟩:p3=p2 /\ o3=o2:=by injection he3 with q;injection q with q1 q2;exact ⟨q1.symm,q2.symm⟩
   have:=hr9.2
   have:=hg5.le
   omega
  have hv9:=hv.grow hn9.grow
  refine zaw (by exact gd) (l':=[(t,T)]) hv9 rfl rfl rfl (by simp) (by rw [List.length_singleton];omega) rfl (zik (x:=(t,T)) hn9) (fun _=>rfl) (fun _=>rfl) (by omega) ?_
  intro v' M10 hv10 e11 hk10
  have hg10:Grow M M10:=Keep.to_grow' (hg6.trans hn9.grow) hk10 (fun i hi=>by have:=hi.1;have:=hg5.le;omega)
  have hC10:At M10 nb (.cells true (tabL8 rsc (bs s x y) (s.length+1)) 77):=(At.new_old hn9 hC4).keep hk10 (fun hh=>by have:=hh.1;omega)
  have r10:Rd1 M10 p2 (o2+i*1) (I t):=(hr.new_old hn9).keep hk10 (fun hh=>by have:=hh.1;omega)
  have r11:Rd1 M10 p2 (o2+g*1) (I T):=(hr2.new_old hn9).keep hk10 (fun hh=>by have:=hh.1;omega)
  have r12:Rd1 M10 nb (0+i*3+2) (I g):=(r3.new_old hn9).keep hk10 (fun hh=>by have:=hh.1;omega)
  (have hrd0:=r12;repeat' (first|(with_reducible intro _)|refine sv ?_|(refine sc ?_ ?_<;>(intro h;try first|exact h.elim|exact absurd rfl h|(exfalso;omega)))|(refine sg ?_ ?_<;>(intro h;(fail_if_success (have:True:=h));try first|exact h.elim|exact absurd rfl h|(exfalso;omega)))|assumption|exact xm|exact rfl))
  exact zk (s.length - (g+1)) (by omega) ⟨g+1,v',pre ++ [(t,T)],rfl,by omega,rfl,.cons rfl (.cons rfl (.cons rfl (.cons rfl .nil))),hg10,by omega,hv10,by rw [hpre,List.append_assoc];rfl,hC10⟩
 obtain ⟨i,hi⟩:∃ i:Nat,s.length=i+(m+1):=⟨s.length - (m+1),by omega⟩
 have hii:(s.length:Int) - 1 - m=(i:Int):=by omega
 rw [hii]
 (repeat' (first|(with_reducible intro _)|refine sv ?_|(refine sc ?_ ?_<;>(intro h;try first|exact h.elim|exact absurd rfl h|(exfalso;omega)))|(refine sg ?_ ?_<;>(intro h;(fail_if_success (have:True:=h));try first|exact h.elim|exact absurd rfl h|(exfalso;omega)))|assumption|exact xm|exact rfl))
 clear hE
 refine zg (fun z E ms M'=>∃ j:Nat,z=s.length - (i+j) /\ i+j<=s.length /\ ms=[] /\ Has E [(0,.slice a s.length f e),(6,.slice none 0 true 0),(9,.ptr (some (n2,0))),(10,.slice (some (nb,0)) (s.length+1) true 3),(11,I i),(12,I ((i+j:Nat):Int))] /\ Grow M M' /\ M4.next<=M'.next /\ At M' n2 (.cells true [.slice a s.length f e,I x,I y] 70) /\ At M' nb (.cells true (tabL8 rsc (tt s x y m j) (s.length+1)) 77))
  ?_ (s.length - i) _ _ _ ⟨0,by omega,by omega,rfl,.cons rfl (.cons rfl (.cons rfl (.cons rfl (.cons rfl (.cons rfl .nil))))),hg5,hle5,hB2,by rw [show tabL8 rsc (tt s x y m 0) (s.length+1)=tabL8 rsc (tb s x y m) (s.length+1) from z42 fun t _=>tt_0];exact hB4⟩
 rintro z E ms M6 ⟨j,rfl,hj,rfl,hE,hg6,hle6,hC2,hC4⟩
 refine z02 hE ?_
 by_cases hlast2:i+j=s.length
 ·obtain rfl:j=m+1:=by omega
  (repeat' (first|(with_reducible intro _)|refine sv ?_|(refine sc ?_ ?_<;>(intro h;try first|exact h.elim|exact absurd rfl h|(exfalso;omega)))|(refine sg ?_ ?_<;>(intro h;(fail_if_success (have:True:=h));try first|exact h.elim|exact absurd rfl h|(exfalso;omega)))|assumption|exact xm|exact rfl))
  exact zk (s.length - (m+1)) (by omega) ⟨m+1,rfl,by omega,rfl,.cons rfl (.cons rfl (.cons rfl (.cons rfl (.cons (by show some (LV.int .i64 _)=some (LV.int .i64 _);congr 2;omega) .nil)))),hg6,hle6,hC2,hC4⟩
 have hlt:i+j < s.length:=by omega
 have hs6:=hs.grow hg6
 have cp:=zla (f:=f) (e:=e) hs6 ok (i:=i) (k:=i+j) (by omega) hlt
 have hsp:=ok.spn (i:=i) (k:=i+j) (by omega) hlt
 have ha0:=ok.a0
 have hb0:=ok.b0
 have hr1:=z6b (enc:=rsc) (sz:=3) (fun _=>rfl) hC4 (k:=i+j+1) (by omega)
 have hr2:=z6b (enc:=rsc) (sz:=3) (fun _=>rfl) hC4 (k:=i) (by omega)
 have ht1:tt s x y m j (i+j+1)=tb s x y m (i+j+1):=by unfold tt;rw [if_neg (by omega)]
 have ht2:tt s x y m j i=pk s x y (tb s x y m) i j:=by unfold tt;rw [if_pos hi.symm]
 have hpk:=pk_s (s:=s) (a:=x) (b:=y) (G:=tb s x y m) (i:=i) (j:=j)
 have hset:∀ {X:Rst},pk s x y (tb s x y m) i (j+1)=X->setList (tabL8 rsc (tt s x y m j) (s.length+1)) (i*3) (rsc X)=some (tabL8 rsc (tt s x y m (j+1)) (s.length+1)):=fun {X} hX=>by
  have:=zif (enc:=rsc) (sz:=3) (G:=tt s x y m j) (G':=tt s x y m (j+1)) (n:=s.length+1) (k:=i) (fun _=>rfl) (by omega) (by omega) (fun t _ ht=>by unfold tt;rw [if_neg (by omega),if_neg (by omega)])
  rw [show tt s x y m (j+1) i=X from by unfold tt;rw [if_pos hi.symm];exact hX] at this
  exact this
 have hkeep:pk s x y (tb s x y m) i (j+1)=pk s x y (tb s x y m) i j->tabL8 rsc (tt s x y m (j+1)) (s.length+1)=tabL8 rsc (tt s x y m j) (s.length+1):=fun hX=>z42 fun t _=>by
  unfold tt
  split
  ·rename_i hc
   obtain rfl:t=i:=by omega
   exact hX
  ·rfl
 have hfar:=zlq (a:=x) (G:=tb s x y m) (i:=i) (k:=j) (n:=m+1) ok
 have hb1:=zih ok m (i+j+1)
 have hb2:=zn9 (i:=i) ok (zih ok m) (n:=j) (by omega)
 rw [ht1] at hr1
 rw [ht2] at hr2
 generalize pk s x y (tb s x y m) i (j+1)=Q at *
 generalize pk s x y (tb s x y m) i j=P at *
 generalize tb s x y m (i+j+1)=V at *
 generalize spn s i (i+j)=Sp at *
 obtain ⟨V1,V2,V3⟩:=V
 obtain ⟨P1,P2,P3⟩:=P
 have hk1:(((i+j:Nat):Int)+1).toNat=i+j+1:=by omega
 rw [<-hk1] at hr1
 dsimp only [rsc] at hr1 hr2 hb1 hb2 hpk
 have r10:Rd1 M6 nb (0+(((i+j:Nat):Int)+1).toNat*3+0) (I V1):=hr1.nth rfl
 have r11:Rd1 M6 nb (0+(((i+j:Nat):Int)+1).toNat*3+1) (I V2):=hr1.nth rfl
 have r20:Rd1 M6 nb (0+i*3+0) (I P1):=hr2.nth rfl
 have r21:Rd1 M6 nb (0+i*3+1) (I P2):=hr2.nth rfl
 (have hrd0:=r10;have hrd1:=r11;have hrd2:=r20;have hrd3:=r21;repeat' (first|(with_reducible intro _)|refine sv ?_|(refine sc ?_ ?_<;>(intro h;try first|exact h.elim|exact absurd rfl h|(exfalso;omega)))|((with_reducible first|apply z07|apply z06|apply zp);exact gd;exact rfl;exact rfl;(first|exact cp))|(refine sg ?_ ?_<;>(intro h;(fail_if_success (have:True:=h));try first|exact h.elim|exact absurd rfl h|(exfalso;omega)))|assumption|exact xm|exact rfl))
 ·refine zk (s.length - (m+1)) (by omega) ⟨m+1,rfl,by omega,rfl,.cons rfl (.cons rfl (.cons rfl (.cons rfl (.cons (by show some (LV.int .i64 _)=some (LV.int .i64 _);congr 2;omega) .nil)))),xg,by omega,xm,?_⟩
  rw [show tabL8 rsc (tb s x y (m+1)) (s.length+1)=tabL8 rsc (tt s x y m j) (s.length+1) from z42 fun t _=>by
   by_cases ht:t=i
   ·subst ht
    rw [ht2,<- hfar (by omega) (by omega) (by omega)]
    show (if t+(m+1)=s.length then _ else _)=_
    rw [if_pos hi.symm]
   ·show (if t+(m+1)=s.length then _ else _)=(if t+(m+1)=s.length then _ else _)
    rw [if_neg (by omega),if_neg (by omega)]]
  exact xm
 ·refine x_st (by exact gd) rfl rfl (show At _ nb _ from xm) rfl rfl (cs':=tabL8 rsc (tt s x y m (j+1)) (s.length+1)) (by rw [Nat.zero_add];exact hset (X:=(x+Sp+V1,1+V2,i+j)) (by rw [hpk];exact if_pos ⟨by omega,by omega⟩)) ?_
  intro M9 hu9 e9 a9
  (repeat' (first|(with_reducible intro _)|refine sv ?_|(refine sc ?_ ?_<;>(intro h;try first|exact h.elim|exact absurd rfl h|(exfalso;omega)))|(refine sg ?_ ?_<;>(intro h;(fail_if_success (have:True:=h));try first|exact h.elim|exact absurd rfl h|(exfalso;omega)))|assumption|exact xm|exact rfl))
  exact zk (s.length - (i+(j+1))) (by omega) ⟨j+1,rfl,by omega,rfl,.cons rfl (.cons rfl (.cons rfl (.cons rfl (.cons rfl (.cons rfl .nil))))),xg,by omega,xm,a9⟩
 ·refine x_st (by exact gd) rfl rfl (show At _ nb _ from xm) rfl rfl (cs':=tabL8 rsc (tt s x y m (j+1)) (s.length+1)) (by rw [Nat.zero_add];exact hset (X:=(x+Sp+V1,1+V2,i+j)) (by rw [hpk];exact if_pos ⟨by omega,by omega⟩)) ?_
  intro M9 hu9 e9 a9
  (repeat' (first|(with_reducible intro _)|refine sv ?_|(refine sc ?_ ?_<;>(intro h;try first|exact h.elim|exact absurd rfl h|(exfalso;omega)))|(refine sg ?_ ?_<;>(intro h;(fail_if_success (have:True:=h));try first|exact h.elim|exact absurd rfl h|(exfalso;omega)))|assumption|exact xm|exact rfl))
  exact zk (s.length - (i+(j+1))) (by omega) ⟨j+1,rfl,by omega,rfl,.cons rfl (.cons rfl (.cons rfl (.cons rfl (.cons rfl (.cons rfl .nil))))),xg,by omega,xm,a9⟩
 ·refine x_st (by exact gd) rfl rfl (show At _ nb _ from xm) rfl rfl (cs':=tabL8 rsc (tt s x y m (j+1)) (s.length+1)) (by rw [Nat.zero_add];exact hset (X:=(x+Sp+V1,1+V2,i+j)) (by rw [hpk];exact if_pos ⟨by omega,by omega⟩)) ?_
  intro M9 hu9 e9 a9
  (repeat' (first|(with_reducible intro _)|refine sv ?_|(refine sc ?_ ?_<;>(intro h;try first|exact h.elim|exact absurd rfl h|(exfalso;omega)))|(refine sg ?_ ?_<;>(intro h;(fail_if_success (have:True:=h));try first|exact h.elim|exact absurd rfl h|(exfalso;omega)))|assumption|exact xm|exact rfl))
  exact zk (s.length - (i+(j+1))) (by omega) ⟨j+1,rfl,by omega,rfl,.cons rfl (.cons rfl (.cons rfl (.cons rfl (.cons rfl (.cons rfl .nil))))),xg,by omega,xm,a9⟩
 ·refine zk (s.length - (i+(j+1))) (by omega) ⟨j+1,rfl,by omega,rfl,.cons rfl (.cons rfl (.cons rfl (.cons rfl (.cons rfl (.cons rfl .nil))))),xg,by omega,xm,?_⟩
  rw [hkeep (by rw [hpk];exact if_neg (fun hc=>by omega))]
  exact xm
 ·refine zk (s.length - (i+(j+1))) (by omega) ⟨j+1,rfl,by omega,rfl,.cons rfl (.cons rfl (.cons rfl (.cons rfl (.cons rfl (.cons rfl .nil))))),xg,by omega,xm,?_⟩
  rw [hkeep (by rw [hpk];exact if_neg (fun hc=>by omega))]
  exact xm
end Go.Proofs.YtbmgeagllpganaaGreatDoor.C
end
section

end
section
open Go PvL Go.Proofs
set_option linter.unusedSimpArgs false
set_option linter.unusedVariables false
namespace Go.Proofs.YtbmgeagllpganaaGreatDoor.C
def smlF (l:List (Int × Int)):Nat->Bool
 | 0=>true
 | k+1=>(smlF l k && btB (pe l k).1 0 60000) && btB (pe l k).2 0 60000
abbrev bidSh:Sh:=.pair (.sl (.pair (.int .i64) (.int .i64)) 16) (.sl (.int .i64) 8)
section
variable {α:Type} {b q:Nat} {ty:TypeId} {enc:α->List LV} {M:Mem} {v:LV} {l l':List α} {P:Program} [Orc P] {sz:Nat} {E:Env} {K:Env->Mem->Prop} {ll:List XG} {d:Nat} {g:Option (Nat × Bool)} {s x:XO} {st:List Mem} {k:Nat} {xs:List (Nat × Nat × (Mem->Prop))} {ld:List (XG × XK)} {by':Nat} {z:List LV} {xv:LV}
end
abbrev PlE:=LV × Int × Bool
abbrev plc (r:PlE):List LV:=[r.1,I r.2.1,.bool r.2.2]
abbrev nil0:LV:=.slice none 0 true 0
def ps (s:List Int) (a b:Int) (Q:Nat->LV) (m t:Nat):PlE:=(Q t,(tb s a b m t).1,decide (s.length<=t+m))
def blL (s:List Int) (a b:Int) (r:Rst) (i j:Nat):List (Int × Int):=if j=0 then [] else (el s i,el s r.2.2) :: plan s a b (r.2.2+1)
theorem zl9 (n m:Int) (hn:I64 n) (hm:1<=m /\ m<=1000000000) (M:Mem):CallOk Tryz.prog 6 [I n,I m] M (fun w M'=>w=I (rst8 n m) /\ M'=M):=by
 refine zj k6 rfl ?_
 dsimp only [x6,zipE,Nat.reduceAdd]
 obtain ⟨hn1,hn2⟩:=hn
 have h1:=Int.tmod_lt_of_pos n (show 0 < m by omega)
 have h2:=Int.lt_tmod_of_pos n (show 0 < m by omega)
 have hr:rst8 n m=if Int.tmod n m < 0 then Int.tmod n m+m else Int.tmod n m:=by unfold rst8;rw [if_neg (by omega)]
 (repeat' (first|(with_reducible intro _)|refine sv ?_|(refine sc ?_ ?_<;>(intro h;try first|exact h.elim|exact absurd rfl h|(exfalso;omega)))|(refine sg ?_ ?_<;>(intro h;(fail_if_success (have:True:=h));try first|exact h.elim|exact absurd rfl h|(exfalso;omega)))|assumption|exact xm|exact rfl))
 ·((with_reducible first|apply zi|apply zc);exact rx)
  rw [if_pos h] at hr
  exact ⟨by rw [hr];rfl,rfl⟩
 ·((with_reducible first|apply zi|apply zc);exact rx)
  rw [if_neg (by omega)] at hr
  exact ⟨by rw [hr];rfl,rfl⟩
end Go.Proofs.YtbmgeagllpganaaGreatDoor.C
end
section
open Go PvL Go.Proofs
set_option linter.unusedSimpArgs false
set_option linter.unusedVariables false
variable {μ:Md}
namespace Go.Proofs.YtbmgeagllpganaaGreatDoor.C
theorem zhw {s:List Int} {a b:Int} (h:OkS s a b):∀ (n i:Nat),s.length - i<=n->(plan s a b i).length<=s.length - i
 | n,i,hn=>by
  by_cases hi:i < s.length
  ·rw [z5f h hi,List.length_cons]
   have h1:=zj7 h i hi
   match n,hn with
   | 0,hn=>omega
   | n+1,hn =>
    have:=zhw h n ((bs s a b i).2.2+1) (by omega)
    omega
  ·rw [z4r (by omega)];exact Nat.zero_le _
theorem zjx {x y:Rl} (h:(mergeF x y).2=0):mgOk x y /\ (mergeF x y).1=(x.1,jnL x.2 y.2):=by
 by_cases hm:mgOk x y
 ·rw [zhg hm];exact ⟨hm,rfl⟩
 ·exact absurd h (zhf hm)
theorem mgX {M:Mem} {v w:LV} {x:Rl} {l:List Fr} (hv:RlV M v x) (hw:RlV M w (x.1,l)) (hx:RlIn x) (hy:RlIn (x.1,l)) (he:errRl x=0) :
  CallN Tryz.prog 10 [v,w] M (fun r M'=>∃ s a k f e n,r=.tup [.agg [.str s,.slice a k f e],I n] /\ ((n=0 /\ mgOk x (x.1,l) /\ s=x.1 /\ k=(jnL x.2 l).length /\ FsV1 M' a (jnL x.2 l)) ∨ n=6 ∨ n=81) /\ Grow M M'):=by
 refine (zmf hv hw hx hy).mono ?_
 rintro r M' ⟨q,rfl,⟨a,f,e,rfl,h1⟩,h2⟩
 refine ⟨_,a,_,f,e,_,rfl,?_,h2⟩
 by_cases h:(mergeF x (x.1,l)).2=0
 ·obtain ⟨h3,h4⟩:=zjx h
  rw [h4] at h1 ⊢
  exact .inl ⟨h,h3,rfl,rfl,h1⟩
 ·exact .inr (zhh he h)
theorem zr2 {x:Rl} {l:List (Int × Int)} {S C:Nat} (hx:RlIn x) (hk:∀ k,k < l.length->many (pe l k)<=1000) (hC:C<=24) (hS:1<=S /\ S<=64) (hsm:Sml l) (hl:l.length<=128):RlIn (x.1,paF x.2 l S C l.length):=by
 refine ⟨hx.1,?_,fun y hy=>?_⟩
 ·have h1:=zcv (L:=x.2) (S:=S) hk hC l.length (Nat.le_refl _)
  have h2:=Nat.mul_le_mul_right 24000 hl
  show (paF x.2 l S C l.length).length<=_
  omega
 ·obtain ⟨i,hi,j,hj,c,hc,rfl⟩:=zcw.1 hy
  have h1:=hsm _ (List.getElem_mem hi)
  rw [<-zk9 hi] at h1
  have h2:=hk i hi
  unfold many at hj h2
  refine ⟨by unfold I64;dsimp only;omega,by unfold I64;dsimp only;omega,by show (smI _ _ _ _ _).length<=_;rw [z2n];omega,fun n hn=>?_⟩
  obtain ⟨k,hk,rfl⟩:=List.mem_iff_getElem.1 hn
  have hk2:k < S:=by rw [z2n] at hk;exact hk
  have h3:=z35.1 (zbx x.2 ((pe l i).1+j) c S x.2.length) k hk2
  rw [z11 hk] at h3
  unfold knB at h3
  have h4:=of_decide_eq_true h3
  unfold I64;omega
def Tg (N8:Mem) (m b:Nat) (nm:ByteArray) (M':Mem) (fs:List Fr):Prop:=∃ v xs,At M' m (.cells true [.str nm,v] 24) /\ Vec b 3 43 fwc M' v xs /\ FwLN (fun j=>j=m ∨ NV v j) M' xs fs /\ Grow N8 M' /\ b<=M'.next
set_option maxHeartbeats 16000000 in
theorem zes {M:Mem} {v:LV} {x:Rl} {F La Ch Sm Mo n0 n1:Int} {pa:Option (Nat × Nat)} {p:List Int} {f':Bool} {e':Nat} (hv1:RlV1 M v x) (hx:RlIn x) (hpv:SlI M pa p) (hpl:p.length<=1000000000000000) (hpi:∀ n ∈ p,I64 n) (hn0:I64 n0) (hn1:I64 n1) (hB:Base M) (hp:preOk M tabs=true) :
  CallN Tryz.prog 3 [v,.agg [I F,I La,I Ch,I Sm,I Mo],.agg [I n0,I n1,.slice pa p.length f' e']] M (fun r _=>r=.bool true):=by
 have hv0:=hv1.to
 have hv10:=hv1
 obtain ⟨a,f,e,rfl,hs⟩:=hv1
 have hpM:∀ M',Grow M M'->preOk M' tabs=true:=fun M' hg=>z7h (Ext.of_grow hg hB) hp
 refine z2b k3 rfl ?_
 dsimp only [x3,zipE,Nat.reduceAdd]
 (repeat' (first|(with_reducible intro _)|refine sv ?_|(refine sc ?_ ?_<;>(intro h;try first|exact h.elim|exact absurd rfl h|(exfalso;omega)))|(refine sg ?_ ?_<;>(intro h;(fail_if_success (have:True:=h));try first|exact h.elim|exact absurd rfl h|(exfalso;omega)))|assumption|exact xm|exact rfl))
 rename_i i1 N1 z1 z2 z3 i2 N2 z4 z5 z6 i3 N3 z7 z8 z9 i4 N4 y1 y2 y3 N5 y4 y5 y6
 have g5:Grow M N5:=xg
 have a1:At N5 i1 (.cells true [.str x.1,.slice a x.2.length f e] 24):=xm
 have a2:At N5 i2 (.cells true [I F,I La,I Ch,I Sm,I Mo] 26):=xm
 have l1:M.next<=i1:=by omega
 have l2:i1 < i2:=by omega
 have l4:i2 < i4:=by omega
 have l5:i4 < N5.next:=y6.2
 clear z1 z2 z3 z4 z5 z6 z7 z8 z9 y1 y2 y3 y4 y5
 have cp:=fun M' (hg:Grow M M')=>zl8 (M:=M') (F:=F) (La:=La) (Ch:=Ch) (Sm:=Sm) (Mo:=Mo) (hv10.grow hg) hx
 have hpo:=z9w (x:=x) (w:=(F,La,Ch,Sm,Mo))
 have hpl1:=zbn x (F,La,Ch,Sm,Mo)
 have hok8:=fun a b=>zbo (x:=x) (w:=(F,La,Ch,Sm,Mo)) (a:=a) (b:=b)
 have hlaw:=fun a b=>zfx (x:=x) (w:=(F,La,Ch,Sm,Mo)) (a:=a) (b:=b)
 generalize hPF:poorF x (F,La,Ch,Sm,Mo)=PF at *
 (repeat' (first|(with_reducible intro _)|refine sv ?_|(refine sc ?_ ?_<;>(intro h;try first|exact h.elim|exact absurd rfl h|(exfalso;omega)))|((with_reducible first|apply zw|apply zy|apply zn);exact gd;exact rfl;exact rfl;(first|exact cp _ (xg)))|(refine sg ?_ ?_<;>(intro h;(fail_if_success (have:True:=h));try first|exact h.elim|exact absurd rfl h|(exfalso;omega)))|assumption|exact xm|exact rfl))
 rename_i w6 N6 hq
 obtain ⟨a7,f7,e7,rfl,hs7,hg7⟩:=hq
 have a1:=At.grow hg7 a1
 have a2:=At.grow hg7 a2
 have a4:=At.grow hg7 y6
 have g6:=g5.trans hg7
 have l6:i4 < N6.next:=a4.2
 clear hg7 y6 g5 l5 cp
 by_cases hz:PF.2=0
 case neg =>
  (repeat' (first|(with_reducible intro _)|refine sv ?_|(refine sc ?_ ?_<;>(intro h;try first|exact h.elim|exact absurd rfl h|(exfalso;omega)))|((with_reducible first|apply zx|apply zu|apply zm);exact gd;exact rfl;exact rfl;(first|exact z56 (hpM _ (xg))))|(refine sg ?_ ?_<;>(intro h;(fail_if_success (have:True:=h));try first|exact h.elim|exact absurd rfl h|(exfalso;omega)))|assumption|exact xm|exact rfl))
  all_goals try (exfalso;omega)
  ((with_reducible first|apply zi|apply zc);exact rx)
  rfl
 obtain ⟨he1,hwB⟩:=hpo hz
 have hwb:=zc1 hwB
 dsimp only at hwb
 have hCS1:0<=Ch*Sm:=Int.mul_nonneg (by omega) (by omega)
 have hCS2:Ch*Sm<=24*64:=Int.mul_le_mul (by omega) (by omega) (by omega) (by omega)
 have ra:=zi7 (n:=n0) (m:=1001) (by omega)
 have rb:=zi7 (n:=n1) (m:=1000) (by omega)
 have ca:=zl9 n0 1001 hn0 (by omega)
 have cb:=zl9 n1 1000 hn1 (by omega)
 generalize rst8 n0 1001=A at *
 generalize rst8 n1 1000=B at *
 (repeat' (first|(with_reducible intro _)|refine sv ?_|(refine sc ?_ ?_<;>(intro h;try first|exact h.elim|exact absurd rfl h|(exfalso;omega)))|((with_reducible first|apply zx|apply zu|apply zm);exact gd;exact rfl;exact rfl;(first|exact z56 (hpM _ (xg))|exact ca _|exact cb _))|(refine sg ?_ ?_<;>(intro h;(fail_if_success (have:True:=h));try first|exact h.elim|exact absurd rfl h|(exfalso;omega)))|assumption|exact xm|exact rfl))
 ·((with_reducible first|apply zi|apply zc);exact rx)
  rfl
 ·((with_reducible first|apply zi|apply zc);exact rx)
  rfl
 rename_i q1 q2 q3
 clear q1
 have hok:okS PF.1 A (1+B)=true:=hok8 _ _ hz (by omega) (by omega) (by omega)
 have hO:=zhq hok
 have cag:=fun M' (hg:Grow N6 M')=>zmc (f:=f7) (e:=e7) (x:=A) (y:=1+B) (hs7.grow hg) (by omega)
 simp only [zfw hok] at cag
 have cpr:=fun M' (hg:Grow N6 M')=>zja (f:=f7) (e:=e7) (f':=f') (e':=e') (x:=A) (y:=1+B) (hs7.grow hg) (by omega) (hpv.grow (g6.trans hg)) hpl hpi
 have hpr:=zpc (y:=p) hok
 have hsm:=z9v hO _ 0 (Nat.le_refl _)
 have hpk:=(zlr.1 (zhx hO PF.1.length 0 (-1) (by omega) (fun h0=>by have:=hO.at h0;omega))).1
 have hple:=zhw hO _ 0 (Nat.le_refl _)
 have hlw:=hlaw A (1+B) hz (by omega) (by omega) (by omega)
 dsimp only at hlw
 clear hlaw
 generalize plan PF.1 A (1+B) 0=PL at *
 generalize (bs PF.1 A (1+B) 0).1=Co at *
 generalize prF PF.1 p A (1+B)=PR at *
 clear hok8 hok hO hPF hpo ca cb
 (repeat' (first|(with_reducible intro _)|refine sv ?_|(refine sc ?_ ?_<;>(intro h;try first|exact h.elim|exact absurd rfl h|(exfalso;omega)))|((with_reducible first|apply zw|apply zy|apply zn);exact gd;exact rfl;exact rfl;(first|exact cag _ (xg)))|(refine sg ?_ ?_<;>(intro h;(fail_if_success (have:True:=h));try first|exact h.elim|exact absurd rfl h|(exfalso;omega)))|assumption|exact xm|exact rfl))
 rename_i w7 N7 hq
 obtain ⟨q,rfl,hqv,hg7⟩:=hq
 obtain ⟨ql,qf,qe,rfl,hsp⟩:=hqv
 have a1:=At.grow hg7 a1
 have a2:=At.grow hg7 a2
 have g7:=g6.trans hg7
 have l7:=hg7.le
 (repeat' (first|(with_reducible intro _)|refine sv ?_|(refine sc ?_ ?_<;>(intro h;try first|exact h.elim|exact absurd rfl h|(exfalso;omega)))|((with_reducible first|apply zw|apply zy|apply zn);exact gd;exact rfl;exact rfl;(first|exact cpr _ (xg)))|(refine sg ?_ ?_<;>(intro h;(fail_if_success (have:True:=h));try first|exact h.elim|exact absurd rfl h|(exfalso;omega)))|assumption|exact xm|exact rfl))
 rename_i w8 N8 hq
 obtain ⟨rfl,hg8⟩:=hq
 have a1:=At.grow hg8 a1
 have a2:=At.grow hg8 a2
 have hsp:=hsp.grow hg8
 have g8:=g7.trans hg8
 have hpv:=hpv.grow g8
 have l8:=hg8.le
 clear hg7 hg8 a4 g6 g7 cag cpr hs7
 (repeat' (first|(with_reducible intro _)|refine sv ?_|(refine sc ?_ ?_<;>(intro h;try first|exact h.elim|exact absurd rfl h|(exfalso;omega)))|(refine sg ?_ ?_<;>(intro h;(fail_if_success (have:True:=h));try first|exact h.elim|exact absurd rfl h|(exfalso;omega)))|assumption|exact xm|exact rfl))
 all_goals try (exfalso;omega)
 all_goals
  rename_i m1 M1 y1 y2 y3 M2 y4 y5 y6
  have hg2:Grow N8 M2:=xg
  obtain ⟨S,rfl⟩:∃ S:Nat,Sm=S:=⟨Sm.toNat,by omega⟩
  obtain ⟨C,rfl⟩:∃ C:Nat,Ch=C:=⟨Ch.toNat,by omega⟩
  rw [Int.toNat_natCast,Int.toNat_natCast] at hlw
  have hm1:N8.next<=m1:=by omega
  have hm2:m1 < M2.next:=y6.2
  have ht0:Tg N8 m1 M2.next x.1 M2 (paF x.2 PL S C 0):=⟨_,[],y6,Vec.nil,.nil,hg2,Nat.le_refl _⟩
  generalize hb0:M2.next=b0 at *
  clear y1 y2 y3 y4 y5 y6
  refine zg (fun z E ms M'=>∃ i:Nat,z=PL.length - i /\ i<=PL.length /\ ms=[] /\ Has E [(3,.ptr (some (i1,0))),(4,.ptr (some (i2,0))),(13,.slice ql PL.length qf qe),(17,.ptr (some (m1,0))),(18,I i)] /\ Tg N8 m1 b0 x.1 M' (paF x.2 PL S C i))
   ?_ PL.length _ _ _ ⟨0,by omega,by omega,rfl,.cons rfl (.cons rfl (.cons rfl (.cons rfl (.cons rfl .nil)))),ht0⟩
  rintro z E ms M3 ⟨i,rfl,hi,rfl,hE,ht⟩
  refine z02 hE ?_
  by_cases hlast:i=PL.length
  ·subst hlast
   obtain ⟨v3,xs3,t1,t2,t3,t4,t5⟩:=ht
   obtain ⟨va,vf,ve,rfl,hfs⟩:=zor t2 t3.l
   have hri:=zr2 (x:=x) (l:=PL) (S:=S) (C:=C) hx (fun k hk=>by have:=hpk k hk;omega) (by omega) (by omega) hsm (by omega)
   generalize paF x.2 PL S C PL.length=MO at *
   have a13:=At.grow t4 a1
   have a23:=At.grow t4 a2
   have g3:=g8.trans t4
   have hmo:RlV M3 (.agg [.str x.1,.slice va MO.length vf ve]) (x.1,MO):=⟨va,vf,ve,rfl,hfs⟩
   have l3:=t4.le
   clear t2 t3 t4 ht0
   (repeat' (first|(with_reducible intro _)|refine sv ?_|(refine sc ?_ ?_<;>(intro h;try first|exact h.elim|exact absurd rfl h|(exfalso;omega)))|(refine sg ?_ ?_<;>(intro h;(fail_if_success (have:True:=h));try first|exact h.elim|exact absurd rfl h|(exfalso;omega)))|assumption|exact xm|exact rfl))
   refine z7s (by exact gd) rfl rfl (mgX (hv0.grow g3) hmo hx hri he1) ?_
   rintro w4 M4 ⟨s4,k4,k5,f4,e4,nA,rfl,hA4,hg4⟩
   have a14:=At.grow hg4 a13
   have a24:=At.grow hg4 a23
   have g4:=g3.trans hg4
   have l4':=hg4.le
   clear hg4 a13 a23 t1 hE hmo hfs
   rcases hA4 with ⟨rfl,hok,rfl,rfl,hfs⟩|rfl|rfl
   ·have hp0:=zka (w:=(F,La,(C:Int),(S:Int),Mo)) (zdw hok) hwB
    have hlw:=hlw hok
    have cpx:=fun M' (hg:Grow M4 M')=>zl8 (M:=M') (r:=(x.1,jnL x.2 MO)) (v:=.agg [.str x.1,.slice k4 (jnL x.2 MO).length f4 e4]) (F:=F) (La:=La) (Ch:=C) (Sm:=S) (Mo:=Mo) ⟨_,_,_,rfl,hfs.grow hg⟩ (znd (zdw hok))
    have hqx:=zbn (x.1,jnL x.2 MO) (F,La,(C:Int),(S:Int),Mo)
    dsimp only at hp0
    generalize poorF (x.1,jnL x.2 MO) (F,La,(C:Int),(S:Int),Mo)=PX at *
    generalize jnL x.2 MO=J at *
    clear hfs hok
    (repeat' (first|(with_reducible intro _)|refine sv ?_|(refine sc ?_ ?_<;>(intro h;try first|exact h.elim|exact absurd rfl h|(exfalso;omega)))|((with_reducible first|apply zw|apply zy|apply zn);exact gd;exact rfl;exact rfl;(first|exact cpx _ (xg)))|(refine sg ?_ ?_<;>(intro h;(fail_if_success (have:True:=h));try first|exact h.elim|exact absurd rfl h|(exfalso;omega)))|assumption|exact xm|exact rfl))
    rename_i m5 M5 y1 y2 y3 M6 y4 y5 y6 w7 M7 hq
    obtain ⟨k7,f7',e7',rfl,-,hg7⟩:=hq
    have g6:Grow M M6:=xg
    have g7:=g6.trans hg7
    have a17:At M7 i1 (.cells true [.str x.1,.slice a x.2.length f e] 24):=At.grow hg7 (xm)
    have l7':=hg7.le
    clear y1 y4 y6 hg7 cpx a14 a24
    have ct:=fun M' (hg:Grow M7 M')=>zok (hv0.grow (g7.trans hg)) he1
    by_cases hPX:PX.1.length=0
    ·(repeat' (first|(with_reducible intro _)|refine sv ?_|(refine sc ?_ ?_<;>(intro h;try first|exact h.elim|exact absurd rfl h|(exfalso;omega)))|((with_reducible first|apply zx|apply zu|apply zm);exact gd;exact rfl;exact rfl;(first|exact z56 (hpM _ (xg))))|(refine sg ?_ ?_<;>(intro h;(fail_if_success (have:True:=h));try first|exact h.elim|exact absurd rfl h|(exfalso;omega)))|assumption|exact xm|exact rfl))
     all_goals try (exfalso;omega)
     all_goals ((with_reducible first|apply zi|apply zc);exact rx)
     all_goals rfl
    ·(repeat' (first|(with_reducible intro _)|refine sv ?_|(refine sc ?_ ?_<;>(intro h;try first|exact h.elim|exact absurd rfl h|(exfalso;omega)))|((with_reducible first|apply zw|apply zy|apply zn);exact gd;exact rfl;exact rfl;(first|exact ct _ (xg)))|(refine sg ?_ ?_<;>(intro h;(fail_if_success (have:True:=h));try first|exact h.elim|exact absurd rfl h|(exfalso;omega)))|assumption|exact xm|exact rfl))
     all_goals try (exfalso;omega)
     rename_i w8 M8 hq
     obtain ⟨b,rfl,hb,hg8⟩:=hq
     cases b with
     | false =>
      have:=hlw (hb rfl)
      rw [this] at hPX
      exact absurd rfl hPX
     | true =>
      (repeat' (first|(with_reducible intro _)|refine sv ?_|(refine sc ?_ ?_<;>(intro h;try first|exact h.elim|exact absurd rfl h|(exfalso;omega)))|((with_reducible first|apply zx|apply zu|apply zm);exact gd;exact rfl;exact rfl;(first|exact z56 (hpM _ (g7.trans hg8))))|(refine sg ?_ ?_<;>(intro h;(fail_if_success (have:True:=h));try first|exact h.elim|exact absurd rfl h|(exfalso;omega)))|assumption|exact xm|exact rfl))
      all_goals try (exfalso;omega)
      ((with_reducible first|apply zi|apply zc);exact rx)
      rfl
   ·(repeat' (first|(with_reducible intro _)|refine sv ?_|(refine sc ?_ ?_<;>(intro h;try first|exact h.elim|exact absurd rfl h|(exfalso;omega)))|((with_reducible first|apply zx|apply zu|apply zm);exact gd;exact rfl;exact rfl;(first|exact z56 (hpM _ (xg))))|(refine sg ?_ ?_<;>(intro h;(fail_if_success (have:True:=h));try first|exact h.elim|exact absurd rfl h|(exfalso;omega)))|assumption|exact xm|exact rfl))
    all_goals try (exfalso;omega)
    all_goals ((with_reducible first|apply zi|apply zc);exact rx)
    all_goals rfl
   ·(repeat' (first|(with_reducible intro _)|refine sv ?_|(refine sc ?_ ?_<;>(intro h;try first|exact h.elim|exact absurd rfl h|(exfalso;omega)))|((with_reducible first|apply zx|apply zu|apply zm);exact gd;exact rfl;exact rfl;(first|exact z56 (hpM _ (xg))))|(refine sg ?_ ?_<;>(intro h;(fail_if_success (have:True:=h));try first|exact h.elim|exact absurd rfl h|(exfalso;omega)))|assumption|exact xm|exact rfl))
    all_goals try (exfalso;omega)
    all_goals ((with_reducible first|apply zi|apply zc);exact rx)
    all_goals rfl
  have hlt:i < PL.length:=by omega
  obtain ⟨pi,po,rfl,hrp⟩:=hsp.rd hlt
  rw [<-zk9 hlt] at hrp
  obtain ⟨v3,xs3,t1,t2,t3,t4,t5⟩:=id ht
  have hrp3:=hrp.grow t4
  have hpb:=hsm _ (List.getElem_mem hlt)
  rw [<-zk9 hlt] at hpb
  have hmb:=hpk i hlt
  have hps:=zp8 x.2 PL S C i
  have hpn:=zcv (L:=x.2) (l:=PL) (S:=S) (Ch:=C) (fun k hk=>by have:=hpk k hk;omega) (by omega) i hi
  unfold many at hmb hps
  generalize pe PL i=PI at *
  obtain ⟨lo,up⟩:=PI
  dsimp only at *
  clear t1 t2 t3 t5
  have rr0:Rd1 M3 pi (po+i*2+0) (I lo):=Rd.nth (j:=0) hrp3 rfl
  (have hrd0:=rr0;repeat' (first|(with_reducible intro _)|refine sv ?_|(refine sc ?_ ?_<;>(intro h;try first|exact h.elim|exact absurd rfl h|(exfalso;omega)))|(refine sg ?_ ?_<;>(intro h;(fail_if_success (have:True:=h));try first|exact h.elim|exact absurd rfl h|(exfalso;omega)))|assumption|exact xm|exact rfl))
  obtain ⟨mn,hmn⟩:∃ mn:Nat,up - lo+1=(mn:Int):=⟨(up - lo+1).toNat,by omega⟩
  rw [hmn,Int.toNat_natCast] at hps
  have hs0:paF x.2 PL S C i=paF x.2 PL S C i ++ shF x.2 lo S C 0:=by unfold shF;simp
  rw [hs0] at ht
  have hl0:lo+((0:Nat):Int)=lo:=by omega
  have hpn:(paF x.2 PL S C i).length<=128*24000:=Nat.le_trans hpn (Nat.mul_le_mul_right _ (by omega))
  refine zg (fun z E ms M'=>∃ j:Nat,z=mn - j /\ j<=mn /\ ms=[] /\ Has E [(3,.ptr (some (i1,0))),(4,.ptr (some (i2,0))),(13,.slice (some (pi,po)) PL.length qf qe),(17,.ptr (some (m1,0))),(18,I i),(19,I (lo+j))] /\ Tg N8 m1 b0 x.1 M' (paF x.2 PL S C i ++ shF x.2 lo S C j))
   ?_ mn _ _ _ ⟨0,by omega,by omega,rfl,.cons rfl (.cons rfl (.cons rfl (.cons rfl (.cons rfl (.cons (by rw [hl0];rfl) .nil))))),ht⟩
  clear ht hE
  rintro z E ms M4 ⟨j,rfl,hj,rfl,hE,ht⟩
  refine z02 hE ?_
  have hrp4:Rd M4 pi (po+i*2) 2 [I lo,I up]:=by
   obtain ⟨_,_,_,_,_,t4,_⟩:=id ht
   exact hrp.grow t4
  have rr1:Rd1 M4 pi (po+i*2+1) (I up):=Rd.nth (j:=1) hrp4 rfl
  by_cases hlj:j=mn
  ·subst hlj
   (have hrd0:=rr1;repeat' (first|(with_reducible intro _)|refine sv ?_|(refine sc ?_ ?_<;>(intro h;try first|exact h.elim|exact absurd rfl h|(exfalso;omega)))|(refine sg ?_ ?_<;>(intro h;(fail_if_success (have:True:=h));try first|exact h.elim|exact absurd rfl h|(exfalso;omega)))|assumption|exact xm|exact rfl))
   all_goals try (exfalso;omega)
   rw [<-hps] at ht
   exact zk (PL.length - (i+1)) (by omega) ⟨i+1,rfl,by omega,rfl,.cons rfl (.cons rfl (.cons rfl (.cons rfl (.cons rfl .nil)))),ht⟩
  have hjl:j < mn:=by omega
  have hss:=zpj x.2 lo S C j
  have hsl:=zd1 x.2 lo S C j
  (have hrd0:=rr1;repeat' (first|(with_reducible intro _)|refine sv ?_|(refine sc ?_ ?_<;>(intro h;try first|exact h.elim|exact absurd rfl h|(exfalso;omega)))|(refine sg ?_ ?_<;>(intro h;(fail_if_success (have:True:=h));try first|exact h.elim|exact absurd rfl h|(exfalso;omega)))|assumption|exact xm|exact rfl))
  all_goals try (exfalso;omega)
  have hc0:shF x.2 lo S C j=shF x.2 lo S C j ++ chF x.2 (lo+j) S 0:=by unfold chF;simp
  rw [hc0] at ht
  have hjC:j*C<=1000*24:=Nat.mul_le_mul (by omega) (by omega)
  refine zg (fun z E ms M'=>∃ c:Nat,z=C - c /\ c<=C /\ ms=[] /\ Has E [(3,.ptr (some (i1,0))),(4,.ptr (some (i2,0))),(13,.slice (some (pi,po)) PL.length qf qe),(17,.ptr (some (m1,0))),(18,I i),(19,I (lo+j)),(20,I c)] /\ Tg N8 m1 b0 x.1 M' (paF x.2 PL S C i ++ (shF x.2 lo S C j ++ chF x.2 (lo+j) S c)))
   ?_ C _ _ _ ⟨0,by omega,by omega,rfl,.cons rfl (.cons rfl (.cons rfl (.cons rfl (.cons rfl (.cons rfl (.cons rfl .nil)))))),ht⟩
  clear ht hE
  rintro z E ms M5 ⟨c,rfl,hc,rfl,hE,ht⟩
  refine z02 hE ?_
  obtain ⟨v5,xs5,t1,t2,t3,t4,t5⟩:=ht
  have a15:=At.grow t4 a1
  have a25:=At.grow t4 a2
  by_cases hlc:c=C
  ·subst hlc
   (repeat' (first|(with_reducible intro _)|refine sv ?_|(refine sc ?_ ?_<;>(intro h;try first|exact h.elim|exact absurd rfl h|(exfalso;omega)))|(refine sg ?_ ?_<;>(intro h;(fail_if_success (have:True:=h));try first|exact h.elim|exact absurd rfl h|(exfalso;omega)))|assumption|exact xm|exact rfl))
   all_goals try (exfalso;omega)
   rw [<-hss] at t3
   refine zk (mn - (j+1)) (by omega) ⟨j+1,rfl,by omega,rfl,.cons rfl (.cons rfl (.cons rfl (.cons rfl (.cons rfl (.cons ?_ .nil))))),_,_,t1,t2,t3,t4,t5⟩
   exact congrArg some (congrArg (LV.int .i64) (by omega))
  have hcs:=zqn x.2 (lo+j) S c
  have hcl:=zgg x.2 (lo+j) S c
  obtain ⟨va,vf,ve,rfl⟩:=t2.shape
  have hxl:=t3.l.len
  rw [List.length_append,List.length_append] at hxl
  have csm:=fun M' (hg:Grow N8 M')=>zgd (s:=lo+j) (c:=c) (S:=S) (hv0.grow (g8.trans hg)) he1 (by omega) (by unfold I64;omega) (by unfold I64;omega)
  have rd5:Rd1 M5 m1 1 (.slice va xs5.length vf ve):=Rd1.of_at t1 rfl
  (have hrd0:=rd5;repeat' (first|(with_reducible intro _)|refine sv ?_|(refine sc ?_ ?_<;>(intro h;try first|exact h.elim|exact absurd rfl h|(exfalso;omega)))|((with_reducible first|apply zw|apply zy|apply zn);exact gd;exact rfl;exact rfl;(first|exact csm _ (xg)))|(refine sg ?_ ?_<;>(intro h;(fail_if_success (have:True:=h));try first|exact h.elim|exact absurd rfl h|(exfalso;omega)))|assumption|exact xm|exact rfl))
  all_goals try (exfalso;omega)
  rename_i w6 M6 hq
  obtain ⟨nb,rfl,hnb,hA6,hg56⟩:=hq
  have hsml:=z2n x.2 (lo+j) c S x.2.length
  have hfn:FwN (fun j=>j=m1 ∨ NV (.slice va xs5.length vf ve) j) M6 ((lo+j,(c:Int)),some (nb,0),S,true,1) (lo+j,(c:Int),smI x.2 (lo+j) c S x.2.length):=by
   refine ⟨rfl,hsml.symm,.inr ⟨nb,0,rfl,?_,fun k hk=>z7j (z1s (enc:=intc) hA6 (fun _ _=>rfl) hk)⟩⟩
   rintro (h|h)
   ·omega
   ·have:=NV.lt t2 h;omega
  generalize hfr:((lo+j,(c:Int),smI x.2 (lo+j) c S x.2.length):Fr)=fr at *
  have t3:=(t3.keep (hg56.to_keep (fun _=>False)) (fun _ h=>h.elim)).snoc hfn
  have t1:=At.grow hg56 t1
  have t2:=t2.grow hg56
  have t4:=t4.trans hg56
  have hl6:=hg56.le
  clear hg56 hfn hA6 a15 a25
  (repeat' (first|(with_reducible intro _)|refine sv ?_|(refine sc ?_ ?_<;>(intro h;try first|exact h.elim|exact absurd rfl h|(exfalso;omega)))|(refine sg ?_ ?_<;>(intro h;(fail_if_success (have:True:=h));try first|exact h.elim|exact absurd rfl h|(exfalso;omega)))|assumption|exact xm|exact rfl))
  rename_i n7 M7 C1 C2 C3
  have hg67:=C1.grow
  have t1:=At.grow hg67 t1
  have t2:=t2.grow hg67
  have t3:=t3.keep (hg67.to_keep (fun _=>False)) (fun _ h=>h.elim)
  have t4:=t4.trans hg67
  have hfw:=zdl (x:=((lo+j,(c:Int)),some (nb,0),S,true,1)) C1
  have rd7:Rd1 M7 m1 1 (.slice va xs5.length vf ve):=Rd1.of_at t1 rfl
  clear C1 hg67 hrd0 rd5
  refine zey (by exact gd) (l':=[(((lo+j,(c:Int)),some (nb,0),S,true,1):FW)]) t2 rfl rfl rfl (by simp) (by rw [hxl];simp only [List.length_singleton];omega) rfl hfw (fun _=>rfl) (fun _=>rfl) (by omega) ?_
  rintro v8 M8 hv8 e8 k8 ⟨n8,f8,q8,rfl⟩
  have u1:=k8.at t1 (fun hi=>by have:=hi.1;omega)
  (repeat' (first|(with_reducible intro _)|refine sv ?_|(refine sc ?_ ?_<;>(intro h;try first|exact h.elim|exact absurd rfl h|(exfalso;omega)))|(refine sg ?_ ?_<;>(intro h;(fail_if_success (have:True:=h));try first|exact h.elim|exact absurd rfl h|(exfalso;omega)))|assumption|exact xm|exact rfl))
  rename_i M9 D1 D2 D3
  have hu9:Keep (fun i=>i=m1) M8 M9:=(Keep.refl (fun i=>i=m1) M8).upd D1 (.inl rfl)
  have t3:=((t3.ge (N':=fun i=>(i=m1 ∨ NV (.slice va xs5.length vf ve) i) ∨ i=M7.next) (fun i hi=>hi.imp id (fun h=>by omega))).keep k8 (fun i hi=>.inl (.inr hi.2))).keep hu9 (fun i hi=>.inl (.inl hi))
  have t3:=t3.ge (N':=fun j=>j=m1 ∨ NV (.slice (some (M7.next,0)) n8 f8 q8) j) (fun i hi=>.inl (by
   rcases hi with h|h
   ·exact .inl (.inl h)
   ·exact .inr (NV.some h)))
  have t4:Grow N8 M9:=(t4.keep k8 (fun i hi=>by have:=hi.1;have:=hg2.le;omega)).upd D1 hm1
  rw [List.append_assoc,List.append_assoc,<- hcs] at t3
  exact zk (C - (c+1)) (by omega) ⟨c+1,rfl,by omega,rfl,.cons rfl (.cons rfl (.cons rfl (.cons rfl (.cons rfl (.cons rfl (.cons rfl .nil)))))),_,_,D3,hv8.keep hu9 (fun i hi=>by subst hi;omega),t3,t4,by omega⟩
end Go.Proofs.YtbmgeagllpganaaGreatDoor.C
end
section
open Go PvL Go.Proofs
set_option linter.unusedSimpArgs false
set_option linter.unusedVariables false
namespace Go.Proofs.YtbmgeagllpganaaGreatDoor.C
def e36:Entry:=⟨36,[(.agg [(.int .i64 (.ofNat 5)),(.int .i64 (.ofNat 2)),(.int .i64 (.ofNat 3)),(.int .i64 (.ofNat 1)),(.int .i64 (.ofNat 0)),(.int .i64 (.ofNat 1)),(.int .i64 (.ofNat 0))]),(.agg [(.slice (some (104,0)) 3 true 8),(.slice (some (105,0)) 3 true 8),(.slice (some (106,0)) 3 true 1),(.slice (some (107,0)) 3 true 1),(.slice none 0 true 0)])],109,(tabs ++ [(104,[(.int .i64 (.ofNat 0)),(.int .i64 (.ofNat 0)),(.int .i64 (.ofNat 0)),(.int .i64 (.ofNat 0)),(.int .i64 (.ofNat 0)),(.int .i64 (.ofNat 0)),(.int .i64 (.ofNat 0)),(.int .i64 (.ofNat 0)),(.int .i64 (.ofNat 0)),(.int .i64 (.ofNat 0)),(.int .i64 (.ofNat 0)),(.int .i64 (.ofNat 0)),(.int .i64 (.ofNat 0)),(.int .i64 (.ofNat 0)),(.int .i64 (.ofNat 0)),(.int .i64 (.ofNat 0)),(.int .i64 (.ofNat 0)),(.int .i64 (.ofNat 0)),(.int .i64 (.ofNat 0)),(.int .i64 (.ofNat 0)),(.int .i64 (.ofNat 0)),(.int .i64 (.ofNat 0)),(.int .i64 (.ofNat 0)),(.int .i64 (.ofNat 0))],162),(105,[(.int .i64 (.ofNat 0)),(.int .i64 (.ofNat 0)),(.int .i64 (.ofNat 0)),(.int .i64 (.ofNat 0)),(.int .i64 (.ofNat 0)),(.int .i64 (.ofNat 0)),(.int .i64 (.ofNat 0)),(.int .i64 (.ofNat 0)),(.int .i64 (.ofNat 0)),(.int .i64 (.ofNat 0)),(.int .i64 (.ofNat 0)),(.int .i64 (.ofNat 0)),(.int .i64 (.ofNat 0)),(.int .i64 (.ofNat 0)),(.int .i64 (.ofNat 0)),(.int .i64 (.ofNat 0)),(.int .i64 (.ofNat 0)),(.int .i64 (.ofNat 0)),(.int .i64 (.ofNat 0)),(.int .i64 (.ofNat 0)),(.int .i64 (.ofNat 0)),(.int .i64 (.ofNat 0)),(.int .i64 (.ofNat 0)),(.int .i64 (.ofNat 0))],162),(106,[(.bool true),(.bool true),(.bool true)],4),(107,[(.bool false),(.bool false),(.bool false)],4)]),(.tup [(.slice (some (735,0)) 3 false 1),(.int .i64 (.ofNat 1)),(.int .i64 (.ofNat 0))]),741,[(735,[(.int .i64 (.ofNat 0)),(.int .i64 (.ofNat 1)),(.int .i64 (.ofNat 2))],1000003)]⟩
set_option maxRecDepth 100000 in
theorem c36:chk Tryz.prog [] 100000 e36=true:=by kernel_rfl
theorem k36e:e36.Ok Tryz.prog:=z68 mix (fun e h=>by cases h) c36
def e69:Entry:=⟨69,[(.agg [(.slice (some (753,0)) 1 true 4),(.slice none 0 true 0),(.slice none 0 true 0),(.int .i64 (.ofNat 0)),(.int .i64 (.ofNat 0)),(.int .i64 (.ofNat 0)),(.int .i64 (.ofNat 0)),(.int .i64 (.ofNat 0)),(.int .i64 (.ofNat 0)),(.int .i64 (.ofNat 0)),(.int .i64 (.ofNat 0)),(.int .i64 (.ofNat 0)),(.int .i64 (.ofNat 0)),(.int .i64 (.ofNat 0)),(.int .i64 (.ofNat 2)),(.int .i64 (.ofNat 3)),(.slice (some (755,0)) 1 true 1)])],757,(tabs ++ [(753,[(.int .i64 (.ofNat 0)),(.int .i64 (.ofNat 0)),(.int .i64 (.ofNat 10)),(.int .i64 (.ofNat 0))],156),(755,[(.slice (some (754,0)) 1 true 2)],66),(754,[(.int .i64 (.ofNat 7)),(.int .i64 (.ofNat 100))],65)]),(.tup [(.slice (some (1592,0)) 1 false 2),(.int .i64 (.ofNat 12)),(.int .i64 (.ofNat 0))]),1610,[(1592,[(.int .i64 (.ofNat 0)),(.int .i64 (.ofNat 0))],1000209)]⟩
set_option maxRecDepth 100000 in
theorem c69:chk Tryz.prog [] 100000 e69=true:=by kernel_rfl
theorem k69e:e69.Ok Tryz.prog:=z68 mix (fun e h=>by cases h) c69
def e70:Entry:=⟨70,[(.agg [(.slice (some (1610,0)) 2 true 8),(.slice (some (1611,0)) 1 true 14)])],1612,(tabs ++ [(1610,[(.int .i64 (.ofNat 0)),(.int .i64 (.ofNat 0)),(.int .i64 (.ofNat 0)),(.int .i64 (.ofNat 0)),(.int .i64 (.ofNat 0)),(.int .i64 (.ofNat 0)),(.int .i64 (.ofNat 0)),(.int .i64 (.ofNat 0)),(.int .i64 (.ofNat 0)),(.int .i64 (.ofNat 9)),(.int .i64 (.ofNat 0)),(.int .i64 (.ofNat 9)),(.int .i64 (.ofNat 0)),(.int .i64 (.ofNat 18)),(.int .i64 (.negSucc 8)),(.int .i64 (.ofNat 9))],162),(1611,[(.int .i64 (.ofNat 1)),(.int .i64 (.ofNat 0)),(.int .i64 (.ofNat 1)),(.int .i64 (.ofNat 0)),(.int .i64 (.ofNat 2)),(.int .i64 (.ofNat 0)),(.int .i64 (.ofNat 0)),(.int .i64 (.ofNat 0)),(.int .i64 (.ofNat 0)),(.int .i64 (.ofNat 0)),(.int .i64 (.ofNat 0)),(.int .i64 (.ofNat 0)),(.int .i64 (.ofNat 0)),(.int .i64 (.ofNat 0))],173)]),(.tup [(.slice (some (2154,0)) 2 false 8),(.int .i64 (.ofNat 0))]),3254,[(2154,[(.int .i64 (.ofNat 0)),(.int .i64 (.ofNat 0)),(.int .i64 (.ofNat 0)),(.int .i64 (.ofNat 0)),(.int .i64 (.ofNat 0)),(.int .i64 (.ofNat 0)),(.int .i64 (.ofNat 0)),(.int .i64 (.ofNat 0)),(.int .i64 (.ofNat 0)),(.int .i64 (.ofNat 1)),(.int .i64 (.ofNat 0)),(.int .i64 (.ofNat 1)),(.int .i64 (.ofNat 0)),(.int .i64 (.ofNat 2)),(.int .i64 (.negSucc 0)),(.int .i64 (.ofNat 1))],1000162)]⟩
set_option maxRecDepth 100000 in
theorem c70:chk Tryz.prog [] 100000 e70=true:=by kernel_rfl
theorem k70e:e70.Ok Tryz.prog:=z68 mix (fun e h=>by cases h) c70
theorem zo5:∀ e ∈ [e36,e69,e70],e.Ok Tryz.prog:=fun e h=>by
 rcases List.mem_cons.1 h with rfl|h
 ·exact k36e
 rcases List.mem_cons.1 h with rfl|h
 ·exact k69e
 rcases List.mem_cons.1 h with rfl|h
 ·exact k70e
 cases h
def e0:Entry:=⟨5,[],64,tabs,.bool true,3271,[]⟩
set_option maxRecDepth 100000 in
theorem c0:chk Tryz.prog [e36,e69,e70] 100000 e0=true:=by kernel_rfl
theorem k0:e0.Ok Tryz.prog:=z68 mix zo5 c0
theorem orcOk:OrcOk Tryz.prog where
 fn f l m v h:=by obtain ⟨rfl,rfl,rfl,_⟩:=z6d h;exact k0.fn
 imp f l m v h:=by obtain ⟨rfl,rfl,rfl,_⟩:=z6d h;exact k0.imp
 sim f l m v h:=by obtain ⟨rfl,rfl,rfl,hp⟩:=z6d h;exact zn8 k0 zig z91 rfl rfl rfl rfl m hp
end Go.Proofs.YtbmgeagllpganaaGreatDoor.C
end
