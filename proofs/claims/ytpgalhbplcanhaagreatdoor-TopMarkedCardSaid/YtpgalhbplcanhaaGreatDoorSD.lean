/-
 Part of the proof of TopMarked. No condition beyond those in each theorem.
-/
import Derived.Test.YtpgalhbplcanhaaGreatDoorSC
import Derived.Test.YtpgalhbplcanhaaGreatDoorSB
import Derived.Test.YtpgalhbplcanhaaGreatDoorPvG
section
open Go PvL Go.Proofs
set_option linter.unusedSimpArgs false
set_option linter.unusedVariables false
namespace Go.Proofs.YtpgalhbplcanhaaGreatDoor.C
abbrev Row:=Int × Int × Int
def rowPs(t:Row):List Pt:=(List.range (t.2.2+1 - t.2.1).toNat).map fun j:Nat=>(t.1,t.2.1+(j:Int))
def plsO(l:List Row):List Pt:=l.flatMap rowPs
def plsL(r:Rg):List Pt:=plsO (rowsL r)
theorem zcm{t:Row}(h:t.2.1<=t.2.2):((rowPs t).length:Int)=t.2.2 - t.2.1+1:=by
 unfold rowPs
 rw[List.length_map,List.length_range]
 omega
theorem ziz(l:List Row){k:Nat}{t:Row}(h:l[k]?=some t):plsO (l.take (k+1))=plsO (l.take k) ++ rowPs t:=by
 obtain⟨hk,rfl⟩:=List.getElem?_eq_some_iff.1 h
 unfold plsO
 rw[List.take_succ_eq_append_getElem hk,List.flatMap_append]
 simp
theorem zni{r:Rg}(hr:RgOk r){t:Row}(ht:t ∈ rowsL r):PlP (t.1,t.2.1) /\ t.2.1<=t.2.2 /\ t.2.2<=32768:=by
 obtain⟨x,h1,h2,rfl,h3⟩:=zax ht
 unfold RgOk fitsP at hr
 refine⟨?_,h3,?_⟩
 ·show Pl _ _
  unfold rowOf at *
  unfold iMax iMin at *
  dsimp only at *
  omega
 ·unfold rowOf at *
  unfold iMax iMin at *
  dsimp only at *
  omega
theorem zdv{r:Rg}(hr:RgOk r):∀(l:List Row),(∀ t ∈ l,t ∈ rowsL r)->(plsO l).length<=65537*l.length
 | [],_=>Nat.le_refl _
 | t :: l,h=>by
  have ih:=zdv hr l fun u hu=>h u (List.mem_cons_of_mem _ hu)
  obtain⟨h1,h2,h3⟩:=zni hr (h t (List.mem_cons_self ..))
  have h4:=zcm h2
  have e:(plsO (t :: l)).length=(rowPs t).length+(plsO l).length:=by unfold plsO;rw[List.flatMap_cons,List.length_append]
  have h5:Pl t.1 t.2.1:=h1
  rw[e,List.length_cons]
  omega
theorem zjf{r:Rg}(hr:RgOk r):(rowsL r).length<=65537:=by
 have h1:(rowsL r).length<=rowsN r:=by
  unfold rowsL rowsK rowsFrom
  refine Nat.le_trans (List.length_filter_le _ _) ?_
  rw[List.length_map,List.length_range]
  exact Nat.le_refl _
 unfold RgOk fitsP at hr
 unfold rowsN at h1
 omega
theorem zj0{r:Rg}{p:Pt}:p ∈ plsL r ↔(r.1.1<=p.1 /\ p.1<=r.1.2) /\ (rowOf r p.1).2.1<=p.2 /\ p.2<=(rowOf r p.1).2.2:=by
 unfold plsL plsO
 rw[List.mem_flatMap]
 constructor
 ·rintro⟨t,ht,hp⟩
  obtain⟨x,h1,h2,rfl,h3⟩:=zax ht
  unfold rowPs at hp
  obtain⟨j,hj,rfl⟩:=List.mem_map.1 hp
  have hj:=List.mem_range.1 hj
  have hx:(rowOf r x).1=x:=rfl
  dsimp only
  rw[hx]
  omega
 ·rintro⟨h1,h2,h3⟩
  refine⟨rowOf r p.1,zlu h1.1 h1.2 (by omega),?_⟩
  unfold rowPs
  refine List.mem_map.2 ⟨(p.2 - (rowOf r p.1).2.1).toNat,List.mem_range.2 (by omega),?_⟩
  refine Prod.ext rfl ?_
  dsimp only
  omega
theorem zrm{r:Rg}(hr:RgOk r){p:Pt}(h:p ∈ plsL r):PlP p:=by
 obtain⟨h1,h2,h3⟩:=zj0.1 h
 unfold RgOk fitsP at hr
 show Pl _ _
 unfold rowOf iMax iMin at *
 dsimp only at *
 omega
set_option maxHeartbeats 4000000 in
theorem zo0(r:Rg)(M:Mem):ze Tryz.prog 201 [rgv r] M (fun w M'=>w=.tup [I (if RgOk r then((plsL r).length:Int) else 0),I (eRg r)] /\ Grow M M'):=by
 by_cases hr:RgOk r
 ·have he:eRg r=0:=if_pos hr
  rw[if_pos hr,he]
  have cc:=fun M'=>zd0 r M'
  rw[he] at cc
  have hlen:=zjf hr
  refine zf k201 rfl ?_
  delta x201;refine un ?_
  repeat' first|with_reducible intro _|refine sv ?_|((with_reducible first|apply zp|apply zo|apply zj);exact gd;exact rfl;exact rfl;(first|exact cc _|exact zag r _))|((with_reducible first|apply zjr|apply d_mkat);exact gd;exact rfl;exact rfl;(first|exact zmz r _))|refine ss ?_ ?_<;>(intro h;first|exact sz h|refine sy h ?_)|exact sq|fail
  rename_i n1 M1 u1 u2 u3 M2 u4 u5 n5 M3 u6 u7 u8 M4 u9 u10 u11 M5 u12 u13 pr M6 u14 u15 u16 u17 u18
  have g26:Grow M M6:=(((u1.grow.trans u4).trans u6.grow).upd u9 (by omega)).trans (u12.trans u17)
  have A5:At M6 n5 (.cells true [I 0] 3):=At.grow (u12.trans u17) u11
  have hy:=fun M' (hg:Grow M6 M')=>znp r (hr.sm.mono (by omega)) (At.grow hg u14)
  have hn5:n5=M2.next:=u7
  have gM2:Grow M M2:=u1.grow.trans u4
  have g2M6:Grow M2 M6:=(u6.grow.upd u9 (by omega)).trans (u12.trans u17)
  clear u1 u4 u6 u9 u12 u17
  apply zjq
  exact rfl
  intro lb d l M7 M8 hlb hd e5 e6 hl e7 e8
  have g68:Grow M6 M8:=hd.grow.trans hl.grow
  have hl68:=g68.le
  have q5:=A5.2
  have bd:At M8 d .defr:=At.new_old hl (At.new_same hd)
  refine(hy M8 g68 l (fun i=>i=n5 ∨ i=l) (fun q M'=>At M' n5 (.cells true [I ((plsO ((rowsL r).take q)).length:Nat)] 3) /\ At M' l (lb .ready none) /\ At M' d .defr) (fun _=>False) ?_ ?_ ?_ ?_ ?_ ⟨A5.grow g68,At.new_same hl,bd⟩).mono ?_
  ·rintro i (rfl|rfl)
   ·omega
   ·exact(At.new_same hl).2
  ·rintro i rfl (rfl|rfl)
   ·omega
   ·omega
  ·rintro q Ma Mb ⟨h1,h2,h3⟩ hle' hA'
   exact⟨h1.same hle' (hA' _ (by omega)),h2.same hle' (hA' _ (At.new_same hl).2),h3.same hle' (hA' _ bd.2)⟩
  ·intro Ma Mb h;exact h.elim
  ·rintro q x hx M' hle' ⟨h1,h2,h3⟩
   rw[List.getElem?_map] at hx
   obtain⟨t,htq,rfl⟩:=Option.map_eq_some_iff.1 hx
   have htm:=List.mem_of_getElem? htq
   obtain⟨k1,k2,k3⟩:=zni hr htm
   have hsu:=ziz (rowsL r) htq
   have hrl:=zcm k2
   have hb:=zdv hr ((rowsL r).take q) (fun u hu=>List.mem_of_mem_take hu)
   have hb2:((rowsL r).take q).length<=65537:=by rw[List.length_take];omega
   rw[hsu,List.length_append]
   obtain⟨tx,ta,tb⟩:=t
   have k1:Pl tx ta:=k1
   dsimp only at k2 k3 hrl
   generalize (rowPs (tx,ta,tb)).length=rl at *
   generalize (plsO ((rowsL r).take q)).length=pn at *
   clear hsu htq
   refine z7i hlb h2 rfl ?_
   dsimp only[zipP,rowv]
   repeat' first|with_reducible intro _|refine sv ?_|refine ss ?_ ?_<;>(intro h;first|exact sz h|refine sy h ?_)|exact sq|fail
   rename_i n6 M9 v0 va vb Ma v1 v2 v3 Mb v4 v5 v6 Mc v7 v8 v9 Md v10 v11 v12
   have q7:=h1.2
   have q8:=h2.2
   have q9:=h3.2
   have hl8:=(At.new_same hl).2
   have hbd:=bd.2
   have hdl:d ≠ l:=by omega
   have hln:l ≠ n5:=by omega
   have hA:At Md n5 (.cells true [I ((pn+rl:Nat):Int)] 3):=by
    have e:(((pn+rl:Nat):Int))=(pn:Int)+(tb - ta+1):=by omega
    rw[e]
    exact At.upd_ne v10 (by omega) v9
   have hD:At Md d .defr:=At.upd_ne v10 (by omega) (At.upd_ne v7 (by omega) (At.upd_ne v4 (by omega) (At.upd_ne v1 (by omega) (At.new_old v0 h3))))
   exact⟨xk,.inl ⟨rfl,hA,v12,hD⟩⟩
  ·rintro v M9 ⟨hk9,⟨h1,h2,h3⟩|h⟩
   ·rw[List.length_map,List.take_length] at h1
    have hle9:=hk9.le
    refine zen h2 (by simp) fun M10 hu e9 a10=>?_
    have hln:l ≠ n5:=by omega
    have h1':=At.upd_ne hu (show n5 ≠ l by omega) h1
    have h3':=At.upd_ne hu (show d ≠ l by omega) h3
    have q10:=h1'.2
    have q11:=h3'.2
    have g210:Grow M2 M10:=Keep.to_grow' (Grow.refl _) ((((Grow.to_keep (g2M6.trans g68) (fun i=>i=n5 ∨ i=l)).trans hk9 (fun i hi=>.inl hi))).upd hu (.inl (.inr rfl))) (fun i hi=>by omega)
    repeat' first|with_reducible intro _|refine sv ?_|refine ss ?_ ?_<;>(intro h;first|exact sz h|refine sy h ?_)|exact sq|fail
    refine z42 (.inr rfl) (by simp) (fun d' hd'=>by obtain rfl:=List.mem_singleton.1 hd';exact h3') fun M11 hm=>?_
    have hk11:Keep (fun i=>i=d) M10 M11:=(Keep.refl _ M10).unmark hm (fun d' hd'=>by obtain rfl:=List.mem_singleton.1 hd';exact .inl rfl)
    have hl26:=g2M6.le
    have g2f:Grow M2 M11:=Keep.to_grow' g210 hk11 (fun i hi=>by omega)
    exact⟨_,.tmp rfl (.tmp rfl .nil),rfl,gM2.trans g2f⟩
   ·exact h.elim
 ·have he:eRg r=11:=if_neg hr
  rw[if_neg hr,he]
  have cc:=fun M'=>zd0 r M'
  rw[he] at cc
  refine zf k201 rfl ?_
  delta x201;refine un ?_
  repeat' first|with_reducible intro _|refine sv ?_|((with_reducible first|apply zp|apply zo|apply zj);exact gd;exact rfl;exact rfl;(first|exact cc _))|refine ss ?_ ?_<;>(intro h;first|exact sz h|refine sy h ?_)|exact sq|fail
  refine kf ?_
  exact⟨rfl,xg⟩
def rowP'(t:Row)(j:Nat):List Pt:=(List.range j).map fun j:Nat=>(t.1,t.2.1+(j:Int))
theorem zpb(t:Row)(j:Nat):rowP' t (j+1)=rowP' t j ++ [(t.1,t.2.1+(j:Int))]:=by unfold rowP';rw[List.range_succ,List.map_append];rfl
theorem zjc(t:Row)(j:Nat):(rowP' t j).length=j:=by unfold rowP';simp
theorem zrl(r:Rg)(k:Nat):plsO (rowsK r (k+1))=plsO (rowsK r k) ++ rowPs (rowOf r (r.1.1+(k:Int))):=by
 rw[z4k]
 unfold plsO
 rw[List.flatMap_append]
 congr 1
 split
 ·simp
 ·rename_i h
  have h:¬(rowOf r (r.1.1+(k:Int))).2.1<=(rowOf r (r.1.1+(k:Int))).2.2:=by simpa using h
  unfold rowPs
  rw[show((rowOf r (r.1.1+(k:Int))).2.2+1 - (rowOf r (r.1.1+(k:Int))).2.1).toNat=0 by omega]
  rfl
theorem zlt(r:Rg)(k:Nat):(rowsK r k).length<=k:=by
 unfold rowsK rowsFrom
 refine Nat.le_trans (List.length_filter_le _ _) ?_
 rw[List.length_map,List.length_range]
 exact Nat.le_refl _
theorem zje{r:Rg}{k:Nat}(hk:k<=rowsN r){t:Row}(h:t ∈ rowsK r k):t ∈ rowsL r:=by
 obtain⟨n,hn⟩:∃ n,rowsN r=k+n:=⟨rowsN r - k,by omega⟩
 unfold rowsL
 rw[hn,z58]
 exact List.mem_append.2 (.inl h)
theorem zcj{M M':Mem}{n:Nat}{ty:TypeId}{p:Pt}(h:New M n (.cells true (ptc p) ty) M'):z0l 2 1 (.slice (some (n,0)) 1 true 2) M'=some ([p].flatMap ptc):=by
 have ha:=At.new_same h
 show loadN M' n 0 (1*2)=_
 exact(Rd.of_at (l:=ptc p) ha rfl).1
set_option maxHeartbeats 16000000 in
theorem zhb{a b c d e f dl dh:Int}(hr:RgOk ((a,b),(c,d),(e,f),(dl,dh)))(M:Mem):ze Tryz.prog 202 [.agg [I a,I b,I c,I d,I e,I f,I dl,I dh]] M (fun w M'=>Vec M.next 2 30 ptc M' w (plsL ((a,b),(c,d),(e,f),(dl,dh))) /\ Grow M M'):=by
 generalize hR:(((a,b),(c,d),(e,f),(dl,dh)):Rg)=r at *
 have hrN:=rowsN r
 have hN:rowsN r=(b+1 - a).toNat:=by rw[<-hR];rfl
 have hrow:∀ x,rowOf r x=(x,iMax (iMax c (e - x)) (x - dh),iMin (iMin d (f - x)) (x - dl)):=fun x=>by rw[<-hR];rfl
 have h1:r.1.1=a:=by rw[<-hR]
 have hb:=hr
 rw[<-hR] at hb
 unfold RgOk fitsP at hb
 dsimp only at hb
 have hk1:=fun k hk=>zdv hr (rowsK r k) (fun t ht=>zje (k:=k) hk ht)
 have hk2:=zlt r
 refine zf k202 rfl ?_
 delta x202;refine un ?_
 repeat' first|with_reducible intro _|refine sv ?_|refine ss ?_ ?_<;>(intro h;first|exact sz h|refine sy h ?_)|exact sq|fail
 rename_i n1 M1 u1 u2 u3
 have A1:At M1 n1 (.cells true [I a,I b,I c,I d,I e,I f,I dl,I dh] 28):=At.new_same u1
 have g1:=u1.grow
 have hl1:=g1.le
 have q1:=A1.2
 clear u1 hrN
 refine zi (fun m E ms M'=>∃(k:Nat) (v:LV),m=rowsN r - k /\ k<=rowsN r /\ ms=[] /\ Has E [(1,.ptr (some (n1,0))),(3,v),(4,I (a+(k:Int)))] /\ Grow M1 M' /\ Vec M1.next 2 30 ptc M' v (plsO (rowsK r k)))
  ?_ (rowsN r) _ _ _ ⟨0,_,by omega,by omega,rfl,.cons rfl (.cons rfl (.cons (by show some (I _)=some (I _);rw[show a+((0:Nat):Int)=a by omega]) .nil)),Grow.refl _,Vec.nil⟩
 rintro m E ms M2 ⟨k,v,rfl,hk,rfl,hE2,hg2,hv2⟩
 refine z02 hE2 ?_
 have A2:=A1.grow hg2
 have hl2:=hg2.le
 by_cases hlast:k=rowsN r
 ·subst hlast
  repeat' first|with_reducible intro _|refine sv ?_|refine ss ?_ ?_<;>(intro h;first|exact sz h|refine sy h ?_)|exact sq|fail
  all_goals try(exfalso;omega)
  refine kf ?_
  exact⟨hv2.imp id fun⟨i,z1,z2,z3⟩=>⟨i,z1,z2,by omega⟩,g1.trans hg2⟩
 have hlt:k < rowsN r:=by omega
 have hks:=zrl r k
 rw[h1,hrow] at hks
 have hb1:=hk1 k hk
 have hb2:=hk2 k
 have hx:-32768<=a+(k:Int) /\ a+(k:Int)<=32768:=by omega
 have hL:-200000<=iMax (iMax c (e - (a+(k:Int)))) (a+(k:Int) - dh) /\ iMax (iMax c (e - (a+(k:Int)))) (a+(k:Int) - dh)<=200000:=by unfold iMax;omega
 have hH:-200000<=iMin (iMin d (f - (a+(k:Int)))) (a+(k:Int) - dl) /\ iMin (iMin d (f - (a+(k:Int)))) (a+(k:Int) - dl)<=200000:=by unfold iMin;omega
 have hv2':=hv2
 rw[show plsO (rowsK r k)=plsO (rowsK r k) ++ rowP' (a+(k:Int),iMax (iMax c (e - (a+(k:Int)))) (a+(k:Int) - dh),iMin (iMin d (f - (a+(k:Int)))) (a+(k:Int) - dl)) 0 by unfold rowP';simp] at hv2'
 repeat' first|with_reducible intro _|refine sv ?_|refine ss ?_ ?_<;>(intro h;first|exact sz h|refine sy h ?_)|exact sq|fail
 all_goals try(exfalso;omega)
 refine zi (fun m E ms M'=>∃(j:Nat) (v:LV),m=(iMin (iMin d (f - (a+(k:Int)))) (a+(k:Int) - dl)+1 - iMax (iMax c (e - (a+(k:Int)))) (a+(k:Int) - dh)).toNat - j /\ j<=(iMin (iMin d (f - (a+(k:Int)))) (a+(k:Int) - dl)+1 - iMax (iMax c (e - (a+(k:Int)))) (a+(k:Int) - dh)).toNat /\ ms=[] /\ Has E [(1,.ptr (some (n1,0))),(3,v),(4,I (a+(k:Int))),(5,I (iMax (iMax c (e - (a+(k:Int)))) (a+(k:Int) - dh)+(j:Int)))] /\ Grow M1 M' /\ Vec M1.next 2 30 ptc M' v (plsO (rowsK r k) ++ rowP' (a+(k:Int),iMax (iMax c (e - (a+(k:Int)))) (a+(k:Int) - dh),iMin (iMin d (f - (a+(k:Int)))) (a+(k:Int) - dl)) j))
  ?_ (iMin (iMin d (f - (a+(k:Int)))) (a+(k:Int) - dl)+1 - iMax (iMax c (e - (a+(k:Int)))) (a+(k:Int) - dh)).toNat _ _ _ ⟨0,_,by omega,by omega,rfl,.cons rfl (.cons rfl (.cons rfl (.cons (by show some (I _)=some (I _);rw[show iMax (iMax c (e - (a+(k:Int)))) (a+(k:Int) - dh)+((0:Nat):Int)=iMax (iMax c (e - (a+(k:Int)))) (a+(k:Int) - dh) by omega]) .nil))),hg2,hv2'⟩
 clear hv2 hv2' hE2
 rintro m E ms M3 ⟨j,v3,rfl,hj,rfl,hE3,hg3,hv3⟩
 refine z02 hE3 ?_
 have A3:=A1.grow hg3
 have hl3:=hg3.le
 by_cases hlast2:j=(iMin (iMin d (f - (a+(k:Int)))) (a+(k:Int) - dl)+1 - iMax (iMax c (e - (a+(k:Int)))) (a+(k:Int) - dh)).toNat
 ·have hv4:Vec M1.next 2 30 ptc M3 v3 (plsO (rowsK r (k+1))):=by
   rw[hks]
   rw[hlast2] at hv3
   exact hv3
  repeat' first|with_reducible intro _|refine sv ?_|refine ss ?_ ?_<;>(intro h;first|exact sz h|refine sy h ?_)|exact sq|fail
  all_goals try(exfalso;omega)
  refine zq (rowsN r - (k+1)) (by omega) ⟨k+1,v3,rfl,by omega,rfl,.cons rfl (.cons rfl (.cons (by show some (I _)=some (I _);rw[show a+((k+1:Nat):Int)=a+(k:Int)+1 by omega]) .nil)),hg3,hv4⟩
 ·have hps:=zpb (a+(k:Int),iMax (iMax c (e - (a+(k:Int)))) (a+(k:Int) - dh),iMin (iMin d (f - (a+(k:Int)))) (a+(k:Int) - dl)) j
  have hpl:=zjc (a+(k:Int),iMax (iMax c (e - (a+(k:Int)))) (a+(k:Int) - dh),iMin (iMin d (f - (a+(k:Int)))) (a+(k:Int) - dl)) j
  have hbig:(2*((plsO (rowsK r k) ++ rowP' (a+(k:Int),iMax (iMax c (e - (a+(k:Int)))) (a+(k:Int) - dh),iMin (iMin d (f - (a+(k:Int)))) (a+(k:Int) - dl)) j).length+1)+2048)*16<=140737488355328:=by
   rw[List.length_append,hpl]
   omega
  repeat' first|with_reducible intro _|refine sv ?_|refine ss ?_ ?_<;>(intro h;first|exact sz h|refine sy h ?_)|exact sq|fail
  all_goals try(exfalso;omega)
  rename_i n4 M4 z1 z2 z3
  refine z4b (by exact gd) (l':=[(a+(k:Int),iMax (iMax c (e - (a+(k:Int)))) (a+(k:Int) - dh)+(j:Int))]) (hv3.grow z1.grow) rfl rfl rfl (by simp) hbig rfl (zcj (p:=(a+(k:Int),iMax (iMax c (e - (a+(k:Int)))) (a+(k:Int) - dh)+(j:Int))) z1) (fun _=>rfl) (fun _=>rfl) (by omega) ?_
  intro v5 M5 hv5 hn5 hk5
  rw[List.append_assoc,<- hps] at hv5
  have g5:Grow M1 M5:=Keep.to_grow' (hg3.trans z1.grow) hk5 (fun i hi=>hi.1)
  repeat' first|with_reducible intro _|refine sv ?_|refine ss ?_ ?_<;>(intro h;first|exact sz h|refine sy h ?_)|exact sq|fail
  all_goals try(exfalso;omega)
  refine zq ((iMin (iMin d (f - (a+(k:Int)))) (a+(k:Int) - dl)+1 - iMax (iMax c (e - (a+(k:Int)))) (a+(k:Int) - dh)).toNat - (j+1)) (by omega) ⟨j+1,v5,rfl,by omega,rfl,.cons rfl (.cons rfl (.cons rfl (.cons (by show some (I _)=some (I _);rw[show((j+1:Nat):Int)=(j:Int)+1 by omega,Int.add_assoc]) .nil))),g5,hv5⟩
theorem zki{r:Rg}(hr:RgOk r)(M:Mem):ze Tryz.prog 202 [rgv r] M (fun w M'=>Vec M.next 2 30 ptc M' w (plsL r) /\ Grow M M'):=zhb hr M
abbrev trc(t:Int × Int):List LV:=[I t.1,I t.2]
structure LyOk (ns:List Rg) (ts:List (Int × Int)):Prop where
 n16:ns.length<=16
 t64:ts.length<=64
 nsO:∀ r ∈ ns,RgOk r /\ 1<=(plsL r).length /\ (plsL r).length<=64
 tsO:∀ t ∈ ts,(0<=t.1 /\ t.1 < ns.length) /\ (0<=t.2 /\ t.2 < ns.length) /\ t.1 ≠ t.2
abbrev lyc(an:Option (Nat × Nat))(ns:List Rg)(fn:Bool)(en:Nat)(at':Option (Nat × Nat))(ts:List (Int × Int))(ft:Bool)(et:Nat):List LV:=[.slice an ns.length fn en,.slice at' ts.length ft et]
set_option maxHeartbeats 8000000 in
theorem zad{ns:List Rg}{ts:List (Int × Int)}{an at':Option (Nat × Nat)}{fn ft:Bool}{en et:Nat}{M:Mem}(hn:SlA 8 rgc M an ns)(ht:SlA 2 trc M at' ts)(hln:ns.length<=1000000000000000)(hlt:ts.length<=1000000000000000) :
  ze Tryz.prog 154 [.agg (lyc an ns fn en at' ts ft et)] M (fun w M'=>((w=I 0 /\ LyOk ns ts) ∨ w=I 71) /\ Grow M M'):=by
 refine zf k154 rfl ?_
 delta x154;refine un ?_
 by_cases h16:16 < ns.length ∨ 64 < ts.length
 ·repeat' first|with_reducible intro _|refine sv ?_|refine ss ?_ ?_<;>(intro h;first|exact sz h|refine sy h ?_)|exact sq|fail
  all_goals try(exfalso;omega)
  all_goals ((refine kf ?_);exact⟨.inr rfl,xg⟩)
 repeat' first|with_reducible intro _|refine sv ?_|refine ss ?_ ?_<;>(intro h;first|exact sz h|refine sy h ?_)|exact sq|fail
 all_goals try(exfalso;omega)
 rename_i n1 M1 u1 u2 u3 _
 have A1:At M1 n1 (.cells true (lyc an ns fn en at' ts ft et) 111):=At.new_same u1
 have g1:=u1.grow
 have hl1:=g1.le
 have q1:=A1.2
 clear u1
 refine zi (fun m E ms M'=>∃(k:Nat),m=ns.length - k /\ k<=ns.length /\ ms=[] /\ Has E [(1,.ptr (some (n1,0))),(20,.slice an ns.length fn en),(21,I ns.length),(22,I k)] /\ Grow M1 M' /\ ∀ j (hj:j < ns.length),j < k->RgOk ns[j] /\ 1<=(plsL ns[j]).length /\ (plsL ns[j]).length<=64)
  ?_ ns.length _ _ _ ⟨0,by omega,by omega,rfl,.cons rfl (.cons rfl (.cons rfl (.cons rfl .nil))),Grow.refl _,fun j hj h=>by omega⟩
 rintro m E ms M2 ⟨k,rfl,hk,rfl,hE2,hg2,hall⟩
 refine z02 hE2 ?_
 have A2:=A1.grow hg2
 have hl2:=hg2.le
 by_cases hlast:k=ns.length
 ·subst hlast
  clear hE2
  repeat' first|with_reducible intro _|refine sv ?_|refine ss ?_ ?_<;>(intro h;first|exact sz h|refine sy h ?_)|exact sq|fail
  all_goals try(exfalso;omega)
  refine zi (fun m E ms M'=>∃(k:Nat),m=ts.length - k /\ k<=ts.length /\ ms=[] /\ Has E [(1,.ptr (some (n1,0))),(40,.slice at' ts.length ft et),(41,I ts.length),(42,I k)] /\ Grow M1 M' /\ ∀ j (hj:j < ts.length),j < k->(0<=ts[j].1 /\ ts[j].1 < ns.length) /\ (0<=ts[j].2 /\ ts[j].2 < ns.length) /\ ts[j].1 ≠ ts[j].2)
   ?_ ts.length _ _ _ ⟨0,by omega,by omega,rfl,.cons rfl (.cons rfl (.cons rfl (.cons rfl .nil))),hg2,fun j hj h=>by omega⟩
  rintro m E ms M3 ⟨k,rfl,hk3,rfl,hE3,hg3,hall3⟩
  refine z02 hE3 ?_
  have A3:=A1.grow hg3
  have hl3:=hg3.le
  by_cases hlast:k=ts.length
  ·subst hlast
   repeat' first|with_reducible intro _|refine sv ?_|refine ss ?_ ?_<;>(intro h;first|exact sz h|refine sy h ?_)|exact sq|fail
   all_goals try(exfalso;omega)
   refine kf ?_
   refine⟨.inl ⟨rfl,⟨by omega,by omega,fun r hr=>?_,fun t ht=>?_⟩⟩,g1.trans hg3⟩
   ·obtain⟨j,hj,rfl⟩:=List.getElem_of_mem hr
    exact hall j hj hj
   ·obtain⟨j,hj,rfl⟩:=List.getElem_of_mem ht
    exact hall3 j hj hj
  ·have hlt3:k < ts.length:=by omega
   obtain⟨i,o,rfl,hr⟩:=ht.resolve_left (fun h=>by rw[h] at hlt3;exact absurd hlt3 (Nat.not_lt_zero _))
   have rk:=(hr k hlt3).grow (g1.trans hg3)
   have hallk:∀ j (hj:j < ts.length),j < k+1->((0<=ts[k].1 /\ ts[k].1 < ns.length) /\ (0<=ts[k].2 /\ ts[k].2 < ns.length) /\ ts[k].1 ≠ ts[k].2)->(0<=ts[j].1 /\ ts[j].1 < ns.length) /\ (0<=ts[j].2 /\ ts[j].2 < ns.length) /\ ts[j].1 ≠ ts[j].2:=fun j hj h1 h2=>by
    rcases Nat.lt_or_ge j k with h3|h3
    ·exact hall3 j hj h3
    ·obtain rfl:j=k:=by omega
     exact h2
   generalize ts[k]=tk at *
   obtain⟨t1,t2⟩:=tk
   have rk:Rd M3 i (o+k*2) 2 [I t1,I t2]:=rk
   dsimp only at hallk
   (have hrd0:=rk;repeat' (first|(with_reducible intro _)|refine sv ?_|((with_reducible first|apply z0c|apply z0a|apply zx);exact gd;exact rfl;exact rfl;(first|exact z36 _ _ _ _))|refine ss ?_ ?_<;>(intro h;first|exact sz h|refine sy h ?_)|exact sq|fail))
   all_goals first
    |((refine kf ?_);exact⟨.inr rfl,xg⟩)
    | skip
   rename_i n5 M4 z1 z2 z3 M5 z4 z5 z6 y1 y2
   have hne:=h
   refine zq (ts.length - (k+1)) (by omega) ⟨k+1,rfl,by omega,rfl,.cons rfl (.cons rfl (.cons rfl (.cons rfl .nil))),hg3.trans (z1.grow.upd z4 (by omega)),fun j hj h1=>hallk j hj h1 ⟨⟨y1.1,by omega⟩,⟨y2.1,by omega⟩,hne⟩⟩
 ·have hltk:k < ns.length:=by omega
  obtain⟨i,o,rfl,hr⟩:=hn.resolve_left (fun h=>by rw[h] at hltk;exact absurd hltk (Nat.not_lt_zero _))
  have rk:=(hr k hltk).grow (g1.trans hg2)
  have cc:=fun M'=>zo0 ns[k] M'
  have hck:∀ j (hj:j < ns.length),j < k+1->(RgOk ns[k] /\ 1<=(plsL ns[k]).length /\ (plsL ns[k]).length<=64)->RgOk ns[j] /\ 1<=(plsL ns[j]).length /\ (plsL ns[j]).length<=64:=fun j hj h1 h2=>by
   rcases Nat.lt_or_ge j k with h3|h3
   ·exact hall j hj h3
   ·obtain rfl:j=k:=by omega
    exact h2
  generalize ns[k]=rg at *
  by_cases hrg:RgOk rg
  ·have he:eRg rg=0:=if_pos hrg
   rw[if_pos hrg,he] at cc
   (have hrd0:=rk;repeat' (first|(with_reducible intro _)|refine sv ?_|((with_reducible first|apply z0c|apply z0a|apply zx);exact gd;exact rfl;exact rfl;(first|exact z36 _ _ _ _))|((with_reducible first|apply zp|apply zo|apply zj);exact gd;exact rfl;exact rfl;(first|exact cc _))|refine ss ?_ ?_<;>(intro h;first|exact sz h|refine sy h ?_)|exact sq|fail))
   all_goals first
    |((refine kf ?_);exact⟨.inr rfl,xg⟩)
    | skip
   rename_i n5 M4 z1 z2 z3 M5 z4 z5 z6 M6 z7 z8
   have hne:=h
   refine zq (ns.length - (k+1)) (by omega) ⟨k+1,rfl,by omega,rfl,.cons rfl (.cons rfl (.cons rfl (.cons rfl .nil))),hg2.trans ((z1.grow.upd z4 (by omega)).trans z7),fun j hj h1=>hck j hj h1 ⟨hrg,by omega,by omega⟩⟩
  ·have he:eRg rg=11:=if_neg hrg
   rw[if_neg hrg,he] at cc
   (have hrd0:=rk;repeat' (first|(with_reducible intro _)|refine sv ?_|((with_reducible first|apply zp|apply zo|apply zj);exact gd;exact rfl;exact rfl;(first|exact cc _))|refine ss ?_ ?_<;>(intro h;first|exact sz h|refine sy h ?_)|exact sq|fail))
   all_goals try(exfalso;omega)
   refine kf ?_
   exact⟨.inr rfl,xg⟩
end Go.Proofs.YtpgalhbplcanhaaGreatDoor.C
end
section
open Go PvL
set_option linter.unusedSimpArgs false
set_option linter.unusedVariables false
variable {μ:Md}
namespace Go.Proofs.YtpgalhbplcanhaaGreatDoor.C
theorem zfx{α:Type}{b sz:Nat}{ty:TypeId}{enc:α->List LV}{M:Mem}{v:LV}{l:List α}{P:Program}[Orc P]{s0:Nat}{E:Env}{K:Env->Mem->Prop}{ld:List (XG × XK)}{d:Nat}{g:Option (Nat × Bool)}{s x:XO}{by':Nat}{z:List LV}{l':List α}{xv:LV}{st:List Mem}{k:Nat}{xs:List (Nat × Nat × (Mem->Prop))}(hg:GOn E g)(hv:Vec b sz ty enc M v l)(hs:xval E s=some v)(hx:xval E x=some xv)(hn:z1k xv=some l'.length)(h0:0 < l'.length)(hb:(2*(l.length+l'.length)+2048)*by'<=140737488355328)(hz:(Nat.ble 1 sz && (Nat.ble 1 by' && Nat.beq z.length sz))=true)(hw:z0l sz l'.length xv M=some (l'.flatMap enc))
  (henc:∀ x,(enc x).length=sz) (hfl:∀ x,zl (enc x)=true) (hbM:b<=M.next) (hk:∀ v' M',Vec b sz ty enc M' v' (l ++ l')->M'.next=M.next+1->Keep (fun i=>b<=i /\ ∃ o n f e,v=.slice (some (i,o)) n f e) M M'->(∃ n f e,v'=.slice (some (M.next,0)) n f e)->XD P s0 ld ((d,v') :: E) M' (M' :: st) (k+1) xs K):XD P s0 ((⟨some d,.app ty sz by' z s x,g⟩,.anchor) :: ld) E M st k xs K:=by
 obtain⟨v',M',h1,h2,h3,h4,h5⟩:=Vec.appx (P:=P) hv hs hx hn h0 hb hz hw henc hfl hbM
 exact zbv hg h1 (hk v' M' h2 h3 h4 h5)
def NV(v:LV)(i:Nat):Prop:=∃ o n f e,v=.slice (some (i,o)) n f e
theorem Vec.keepN{α:Type}{b sz:Nat}{ty:TypeId}{enc:α->List LV}{M M':Mem}{v:LV}{l:List α}{F:Nat->Prop}(h:Vec b sz ty enc M v l)(hk:Keep F M M')(hF:∀ i,F i->¬ NV v i):Vec b sz ty enc M' v l :=
 h.imp id fun⟨i,h1,h2,h3⟩=>⟨i,h1,hk.at h2 (fun hf=>hF i hf ⟨_,_,_,_,h1⟩),h3⟩
theorem NV.lt{α:Type}{b sz:Nat}{ty:TypeId}{enc:α->List LV}{M:Mem}{v:LV}{l:List α}(h:Vec b sz ty enc M v l){i:Nat}(hi:NV v i):i < M.next:=by
 obtain⟨o,n,f,e,h1⟩:=hi
 exact Vec.blt h h1
theorem NV.nil{n:Nat}{f:Bool}{e i:Nat}:¬ NV (.slice none n f e) i:=fun⟨o,n,f,e,h⟩=>by cases h
theorem NV.some{j o n:Nat}{f:Bool}{e i:Nat}(h:NV (.slice (some (j,o)) n f e) i):i=j:=by
 obtain⟨_,_,_,_,h⟩:=h
 cases h;rfl
end Go.Proofs.YtpgalhbplcanhaaGreatDoor.C
end
section
open PvL
set_option linter.unusedSimpArgs false
set_option linter.unusedVariables false
namespace Go.Proofs.YtpgalhbplcanhaaGreatDoor.C
def SlL{α:Type}(sz:Nat)(enc:α->List LV)(M:Mem)(a:Option (Nat × Nat))(ll:List (List α)):Prop :=
 ll=[] ∨ ∃ i o,a=some (i,o) /\ ∀ k (hk:k < ll.length),∃ a' f',Rd1 M i (o+k*1) (.slice a' ll[k].length f' sz) /\ SlA sz enc M a' ll[k] /\ ll[k].length<=1000000000000000
theorem SlL.grow{α:Type}{sz:Nat}{enc:α->List LV}{M M':Mem}{a:Option (Nat × Nat)}{ll:List (List α)}(h:SlL sz enc M a ll)(hg:Grow M M'):SlL sz enc M' a ll :=
 h.imp id fun⟨i,o,h1,h2⟩=>⟨i,o,h1,fun k hk=>let ⟨a',f',g1,g2,g3⟩:=h2 k hk;⟨a',f',g1.grow hg,g2.grow hg,g3⟩⟩
end Go.Proofs.YtpgalhbplcanhaaGreatDoor.C
end
section
open Go PvL Go.Proofs
set_option linter.unusedSimpArgs false
set_option linter.unusedVariables false
namespace Go.Proofs.YtpgalhbplcanhaaGreatDoor.C
abbrev SW:=Option (Nat × Nat) × Nat × Bool × Nat
abbrev swv(x:SW):LV:=.slice x.1 x.2.1 x.2.2.1 x.2.2.2
abbrev sv1(x:SW):List LV:=[swv x]
def PlO(N:Nat->Prop)(M:Mem)(v:LV)(l:List Pt):Prop:=∃ i o,v=.slice (some (i,o)) l.length false 2 /\ ¬ N i /\ i < M.next /\ ∀ k (hk:k < l.length),Rd M i (o+k*2) 2 (ptc l[k])
theorem PlO.keep{N F:Nat->Prop}{M M':Mem}{v:LV}{l:List Pt}(h:PlO N M v l)(hk:Keep F M M')(hF:∀ i,F i->N i):PlO N M' v l:=by
 obtain⟨i,o,h1,h2,h3,h4⟩:=h
 have:=hk.le
 exact⟨i,o,h1,h2,by omega,fun k hk'=>(h4 k hk').keep hk (fun hf=>h2 (hF i hf))⟩
theorem PlO.ge{N N':Nat->Prop}{M:Mem}{v:LV}{l:List Pt}(h:PlO N M v l)(hb:∀ i,N' i->N i ∨ M.next<=i):PlO N' M v l:=by
 obtain⟨i,o,h1,h2,h3,h4⟩:=h
 exact⟨i,o,h1,fun hn=>(hb i hn).elim h2 (fun h=>by omega),h3,h4⟩
theorem PlO.vec{N:Nat->Prop}{b:Nat}{ty:TypeId}{M:Mem}{v:LV}{l:List Pt}(h:Vec b 2 ty ptc M v l)(hl:l ≠ [])(hN:∀ i,N i->i < b):PlO N M v l:=by
 rcases h with⟨h0,_⟩|⟨i,rfl,h2,h3⟩
 ·exact absurd h0 hl
 ·exact⟨i,0,rfl,fun hn=>by have:=hN i hn;omega,h2.2,fun k hk=>z8r (enc:=ptc) h2 (fun _ _=>rfl) hk⟩
def PlsN(N:Nat->Prop)(M:Mem)(vs:List SW)(ls:List (List Pt)):Prop:=vs.length=ls.length /\ ∀ j (h:j < ls.length) (h':j < vs.length),PlO N M (swv vs[j]) ls[j]
theorem PlsN.keep{N F:Nat->Prop}{M M':Mem}{vs:List SW}{ls:List (List Pt)}(h:PlsN N M vs ls)(hk:Keep F M M')(hF:∀ i,F i->N i):PlsN N M' vs ls:=⟨h.1,fun j h1 h2=>(h.2 j h1 h2).keep hk hF⟩
theorem PlsN.ge{N N':Nat->Prop}{M:Mem}{vs:List SW}{ls:List (List Pt)}(h:PlsN N M vs ls)(hb:∀ i,N' i->N i ∨ M.next<=i):PlsN N' M vs ls:=⟨h.1,fun j h1 h2=>(h.2 j h1 h2).ge hb⟩
theorem PlsN.snoc{N:Nat->Prop}{M:Mem}{vs:List SW}{ls:List (List Pt)}{v:SW}{l:List Pt}(h:PlsN N M vs ls)(h':PlO N M (swv v) l):PlsN N M (vs ++ [v]) (ls ++ [l]):=by
 refine⟨by rw[List.length_append,List.length_append,h.1];rfl,fun j h1 h2=>?_⟩
 have hl:=h.1
 rcases Nat.lt_or_ge j ls.length with h3|h3
 ·rw[List.getElem_append_left h3,List.getElem_append_left (by omega)]
  exact h.2 j h3 (by omega)
 ·rw[List.length_append] at h1
  simp only[List.length_singleton] at h1
  obtain rfl:j=ls.length:=by omega
  rw[List.getElem_append_right (Nat.le_refl _),List.getElem_append_right (by omega)]
  simpa [hl] using h'
theorem PlsN.nil{N:Nat->Prop}{M:Mem}:PlsN N M [] []:=⟨rfl,fun j h=>absurd h (Nat.not_lt_zero _)⟩
theorem PlsN.sl{N:Nat->Prop}{b:Nat}{ty:TypeId}{M:Mem}{v:LV}{vs:List SW}{ls:List (List Pt)}(h:PlsN N M vs ls)(hv:Vec b 1 ty sv1 M v vs)(hl:∀ l ∈ ls,l.length<=1000000000000000):∃ ap fp ep,v=.slice ap ls.length fp ep /\ SlL 2 ptc M ap ls:=by
 rcases hv with⟨h0,rfl⟩|⟨i,rfl,h2,h3⟩
 ·subst h0
  have:ls=[]:=List.eq_nil_of_length_eq_zero h.1.symm
  subst this
  exact⟨none,true,0,rfl,.inl rfl⟩
 ·refine⟨some (i,0),false,1,by rw[h.1],.inr ⟨i,0,rfl,fun k hk=>?_⟩⟩
  have hk':k < vs.length:=by rw[h.1];exact hk
  obtain⟨i',o',e1,e2,e3,e4⟩:=h.2 k hk hk'
  have hr:Rd M i (0+k*1) 1 [swv vs[k]]:=z8r (enc:=sv1) h2 (fun _ _=>rfl) hk'
  rw[e1] at hr
  exact⟨_,_,znf hr,.inr ⟨i',o',rfl,e4⟩,hl _ (List.getElem_mem hk)⟩
theorem zm5{M M':Mem}{n:Nat}{ty:TypeId}{v:SW}(h:New M n (.cells true [swv v] ty) M'):z0l 1 1 (.slice (some (n,0)) 1 true 1) M'=some ([v].flatMap sv1):=by
 have ha:=At.new_same h
 show loadN M' n 0 (1*1)=_
 exact(Rd.of_at (l:=[swv v]) ha rfl).1
abbrev laidv(g:Gd)(ca:Option (Nat × Nat))(f:Bool)(e:Nat)(at':Option (Nat × Nat))(n:Nat)(ft:Bool)(et:Nat)(ap:Option (Nat × Nat))(m:Nat)(fp:Bool)(ep:Nat):LV:=.agg [I g.xo,I g.yo,I g.sz,I g.ac,I g.dn,.slice ca g.cl.length f e,.slice at' n ft et,.slice ap m fp ep]
set_option maxHeartbeats 16000000 in
theorem zt9{g:Gd}{ca:Option (Nat × Nat)}{f:Bool}{e:Nat}{ns:List Rg}{ts:List (Int × Int)}{an at':Option (Nat × Nat)}{fn ft:Bool}{en et:Nat}{M:Mem}(hn:SlA 8 rgc M an ns)(hok:LyOk ns ts) :
  ze Tryz.prog 155 [gdv g ca f e,.agg (lyc an ns fn en at' ts ft et)] M (fun w M'=>(∃ ap fp ep,w=laidv g ca f e at' ts.length ft et ap ns.length fp ep /\ ∀ F M'',Keep F M' M''->(∀ i,F i->i < M.next)->SlL 2 ptc M'' ap (ns.map plsL)) /\ Grow M M'):=by
 have h16:=hok.n16
 refine zf k155 rfl ?_
 delta x155;refine un ?_
 repeat' first|with_reducible intro _|refine sv ?_|refine ss ?_ ?_<;>(intro h;first|exact sz h|refine sy h ?_)|exact sq|fail
 rename_i n2 M1 u1 u2 u3 n3 M2 u4 u5 u6 n4 M3 u7 u8 u9 n5 M4 v1 v2 v3 M5 v4 v5 v6
 have g4:Grow M M3:=(u1.grow.trans u4.grow).trans u7.grow
 have A4:At M5 n4 (.cells true [I 0,I 0,I 0,I 0,I 0,.slice none 0 true 0,.slice none 0 true 0,.slice none 0 true 0] 224):=At.upd_ne v4 (by omega) (At.new_old v1 (At.new_same u7))
 have g45:Grow M2 M5:=((u7.grow.trans v1.grow)).upd v4 (by omega)
 have gM2:Grow M M2:=u1.grow.trans u4.grow
 clear u1 u4 u7 v1 v4
 refine zi (fun m E ms M'=>∃(k:Nat) (vp:LV) (vs:List SW),m=ns.length - k /\ k<=ns.length /\ ms=[] /\ Has E [(4,.ptr (some (n4,0))),(5,.ptr (some (n5,0))),(13,.slice an ns.length fn en),(14,I ns.length),(15,I k)] /\ Grow M2 M' /\ M5.next<=M'.next /\
   At M' n4 (.cells true [I 0,I 0,I 0,I 0,I 0,.slice none 0 true 0,.slice none 0 true 0,.slice none 0 true 0] 224) /\ At M' n5 (.cells true [I g.xo,I g.yo,I g.sz,I g.ac,I g.dn,.slice ca g.cl.length f e,.slice at' ts.length ft et,vp] 224) /\ Vec M5.next 1 24 sv1 M' vp vs /\ PlsN (fun i=>NV vp i ∨ i < M5.next) M' vs ((ns.take k).map plsL))
  ?_ ns.length _ _ _ ⟨0,_,[],by omega,by omega,rfl,.cons rfl (.cons rfl (.cons rfl (.cons rfl (.cons rfl .nil)))),g45,Nat.le_refl _,A4,v6,Vec.nil,PlsN.nil⟩
 rintro m E ms M6 ⟨k,vp,vs,rfl,hk,rfl,hE6,hg6,hle6,B4,B5,hv6,hp6⟩
 refine z02 hE6 ?_
 have q4:=B4.2
 have q5:=B5.2
 by_cases hlast:k=ns.length
 ·subst hlast
  rw[List.take_length] at hp6
  obtain⟨ap,fp,ep,hvp⟩:=hv6.shape
  have hvn:∀ i,NV vp i->i ≠ n4:=fun i hi=>by
   obtain⟨_,_,_,_,h1⟩:=hi
   have:=Vec.ge hv6 h1
   omega
  subst hvp
  repeat' first|with_reducible intro _|refine sv ?_|refine ss ?_ ?_<;>(intro h;first|exact sz h|refine sy h ?_)|exact sq|fail
  rename_i M7 w1 w2 w3
  have hk67:Keep (fun i=>i=n4) M6 M7:=(Keep.refl _ _).upd w1 (.inl rfl)
  have gM:Grow M M7:=Keep.to_grow' gM2 ((hg6.to_keep (fun i=>i=n4)).upd w1 (.inl rfl)) (fun i hi=>by omega)
  have hv7:=Vec.keepN hv6 hk67 (fun i hi hn=>hvn i hn hi)
  have hp7:=hp6.keep hk67 (fun i hi=>.inr (by omega))
  have hm2:=gM2.le
  have hm5:=g45.le
  refine kf ?_
  have hvl:vs.length=ns.length:=by have:=hp6.1;rw[List.length_map] at this;exact this
  refine⟨⟨ap,fp,ep,by rw[<-hvl];rfl,fun F M'' hk hF=>?_⟩,gM⟩
  obtain⟨ap',fp',ep',he,hsl⟩:=(hp7.keep hk (fun i hi=>.inr (by have:=hF i hi;omega))).sl (hv7.imp id fun⟨i,z1,z2,z3⟩=>⟨i,z1,hk.at z2 (fun hf=>by have:=hF i hf;omega),z3⟩) (fun l hl=>by
   obtain⟨r,hr,rfl⟩:=List.mem_map.1 hl
   have:=hok.nsO r hr
   omega)
  injection he with e1
  subst e1
  exact hsl
 ·have hlt:k < ns.length:=by omega
  obtain⟨i,o,rfl,hr⟩:=hn.resolve_left (fun h=>by rw[h] at hlt;exact absurd hlt (Nat.not_lt_zero _))
  have rk:=(hr k hlt).grow (gM2.trans hg6)
  obtain⟨o1,o2,o3⟩:=hok.nsO _ (List.getElem_mem hlt)
  have htk:(ns.take (k+1)).map plsL=(ns.take k).map plsL ++ [plsL ns[k]]:=by rw[List.take_succ_eq_append_getElem hlt,List.map_append];rfl
  have hvl:=hp6.1
  rw[List.length_map,List.length_take] at hvl
  generalize ns[k]=rg at *
  have cp:=fun M'=>zki o1 M'
  have hbig:(2*(vs.length+1)+2048)*24<=140737488355328:=by omega
  (have hrd0:=rk;repeat' (first|(with_reducible intro _)|refine sv ?_|((with_reducible first|apply zt|apply zz|apply zn);exact gd;exact rfl;exact rfl;(first|exact cp _))|refine ss ?_ ?_<;>(intro h;first|exact sz h|refine sy h ?_)|exact sq|fail))
  rename_i n7 M7 w1 w2 w3 M8 w4 w5 w6 pv M9 hq
  obtain⟨hv9,hg9⟩:=hq
  have hne:plsL rg ≠ []:=fun h=>by rw[h] at o2;exact absurd o2 (by decide)
  have hPl:PlO (fun i=>i < M8.next) M9 pv (plsL rg):=PlO.vec hv9 hne (fun i h=>h)
  have g68:Grow M6 M8:=w1.grow.upd w4 (by omega)
  have g69:=g68.trans hg9
  have hl9:=hg9.le
  have hl8:=g68.le
  have hv9':=hv6.grow g69
  have hp9:PlsN (fun i=>NV vp i ∨ i < M5.next) M9 vs ((ns.take k).map plsL):=PlsN.keep hp6 (g69.to_keep (fun _=>False)) (fun i h=>h.elim)
  have C4:=B4.grow g69
  have E5:=B5.grow g68
  have C5:=B5.grow g69
  clear w1 w4 B4 B5 hv9
  have hPl':=hPl
  obtain⟨ip,op,rfl,hPl2,hPl3,hPl4⟩:=hPl'
  clear hPl2 hPl4
  repeat' first|with_reducible intro _|refine sv ?_|refine ss ?_ ?_<;>(intro h;first|exact sz h|refine sy h ?_)|exact sq|fail
  rename_i n23 M10 z1 z2 z3
  refine zfx (by exact gd) (l':=[((some (ip,op),(plsL rg).length,false,2):SW)]) (hv9'.grow z1.grow) rfl rfl rfl (by simp) hbig rfl (zm5 (v:=(some (ip,op),(plsL rg).length,false,2)) z1) (fun _=>rfl) (fun _=>rfl) (by omega) ?_
  rintro v11 M11 hv11 hn11 hk11 ⟨q1,q2,q3,rfl⟩
  have hvpn:∀ i,NV vp i->i < M6.next:=fun i hi=>NV.lt hv6 hi
  have D4:=hk11.at (C4.grow z1.grow) (fun hf=>by omega)
  have D5:=hk11.at (C5.grow z1.grow) (fun hf=>by omega)
  have hpA:PlsN (fun i=>NV vp i ∨ i < M5.next) M10 (vs ++ [((some (ip,op),(plsL rg).length,false,2):SW)]) ((ns.take k).map plsL ++ [plsL rg]):=(hp9.snoc (hPl.ge fun i hi=>.inl (hi.elim (fun h=>Nat.lt_of_lt_of_le (hvpn i h) hl8) (fun h=>by show i < M8.next;omega)))).keep (z1.grow.to_keep (fun _=>False)) (fun i h=>h.elim)
  have hpB:PlsN (fun i=>NV (.slice (some (M10.next,0)) q1 q2 q3) i ∨ i < M5.next) M11 (vs ++ [((some (ip,op),(plsL rg).length,false,2):SW)]) ((ns.take k).map plsL ++ [plsL rg]):=(PlsN.keep (hpA.ge (N':=fun i=>(NV vp i ∨ i < M5.next) ∨ M10.next<=i) (fun i hi=>hi)) hk11 (fun i hi=>.inl (.inl hi.2))).ge fun i hi=>.inl (hi.elim (fun h=>.inr (by have:=NV.some h;omega)) (fun h=>.inl (.inr h)))
  rw[<-htk] at hpB
  repeat' first|with_reducible intro _|refine sv ?_|refine ss ?_ ?_<;>(intro h;first|exact sz h|refine sy h ?_)|exact sq|fail
  rename_i M12 y1 y2 y3
  have hk1012:Keep (fun i=>M5.next<=i ∨ i=n5) M10 M12:=(hk11.weaken (fun i hi=>.inl hi.1)).upd y1 (.inl (.inr rfl))
  have g12:Grow M2 M12:=Keep.to_grow' ((hg6.trans g69).trans z1.grow) hk1012 (fun i hi=>by omega)
  have F4:At M12 n4 (.cells true [I 0,I 0,I 0,I 0,I 0,.slice none 0 true 0,.slice none 0 true 0,.slice none 0 true 0] 224):=At.upd_ne y1 (by omega) D4
  have hv12:=Vec.keepN hv11 (F:=fun i=>i=n5) ((Keep.refl _ _).upd y1 (.inl rfl)) (fun i hi hn=>by have:=NV.some hn;omega)
  have hp12:=hpB.keep (F:=fun i=>i=n5) ((Keep.refl _ _).upd y1 (.inl rfl)) (fun i hi=>.inr (by omega))
  refine zq (ns.length - (k+1)) (by omega) ⟨k+1,_,_,rfl,by omega,rfl,.cons rfl (.cons rfl (.cons rfl (.cons rfl (.cons rfl .nil)))),g12,by omega,F4,y3,hv12,hp12⟩
abbrev zLaid:LV:=.agg [I 0,I 0,I 0,I 0,I 0,.slice none 0 true 0,.slice none 0 true 0,.slice none 0 true 0]
set_option maxHeartbeats 4000000 in
theorem zo4{g:Gd}{ca:Option (Nat × Nat)}{f:Bool}{e:Nat}{ns:List Rg}{ts:List (Int × Int)}{an at':Option (Nat × Nat)}{fn ft:Bool}{en et:Nat}{M:Mem}(hs:SlC M ca g.cl)(hlc:g.cl.length<=1000000000000000)(hn:SlA 8 rgc M an ns)(ht:SlA 2 trc M at' ts)(hln:ns.length<=1000000000000000)(hlt:ts.length<=1000000000000000) :
  ze Tryz.prog 98 [gdv g ca f e,.agg (lyc an ns fn en at' ts ft et)] M (fun w M'=>((∃ er:Int,w=.tup [zLaid,I er] /\ er ≠ 0) ∨(GdOk g /\ LyOk ns ts /\ ∃ ap fp ep,w=.tup [laidv g ca f e at' ts.length ft et ap ns.length fp ep,I 0] /\ ∀ F M'',Keep F M' M''->(∀ i,F i->i < M.next)->SlL 2 ptc M'' ap (ns.map plsL))) /\ Grow M M'):=by
 have cg:=fun M' (hg:Grow M M')=>z7t (f:=f) (e:=e) (hs.grow hg) hlc
 have cl:=fun M' (hg:Grow M M')=>zad (fn:=fn) (ft:=ft) (en:=en) (et:=et) (hn.grow hg) (ht.grow hg) hln hlt
 refine zf k98 rfl ?_
 delta x98;refine un ?_
 by_cases hg:GdOk g
 ·have he:=zhu hg
  rw[he] at cg
  repeat' first|with_reducible intro _|refine sv ?_|((with_reducible first|apply zp|apply zo|apply zj);exact gd;exact rfl;exact rfl;(first|exact cg _ (xg)))|((with_reducible first|apply zt|apply zz|apply zn);exact gd;exact rfl;exact rfl;(first|exact cl _ (xg)))|refine ss ?_ ?_<;>(intro h;first|exact sz h|refine sy h ?_)|exact sq|fail
  rename_i n2 M1 u1 u2 u3 n3 M2 u4 u5 u6 n4 M3 u7 u8 u9 M4 u10 u11 w M5 hq
  obtain⟨hq,hg5⟩:=hq
  have g3:Grow M M3:=(u1.grow.trans u4.grow).trans u7.grow
  have A4:At M5 n4 (.cells true zLaid.cells 224):=At.grow (u10.trans hg5) (At.new_same u7)
  have A2:At M5 n2 (.cells true (gdc g ca f e) 105):=At.grow (u10.trans hg5) (At.new_old u7 (At.new_old u4 (At.new_same u1)))
  have A3:At M5 n3 (.cells true (lyc an ns fn en at' ts ft et) 111):=At.grow (u10.trans hg5) (At.new_old u7 (At.new_same u4))
  have gM2:Grow M M2:=u1.grow.trans u4.grow
  have g25:Grow M2 M5:=(u7.grow.trans u10).trans hg5
  have q2:=A2.2
  have q3:=A3.2
  have q4:=A4.2
  clear u1 u4 u7 u10 cg cl
  rcases hq with⟨rfl,hly⟩|rfl
  ·have cy:=fun M' (hg':Grow M M')=>zt9 (g:=g) (ca:=ca) (f:=f) (e:=e) (fn:=fn) (ft:=ft) (en:=en) (et:=et) (at':=at') (hn.grow hg') hly
   repeat' first|with_reducible intro _|refine sv ?_|((with_reducible first|apply zt|apply zz|apply zn);exact gd;exact rfl;exact rfl;(first|exact cy _ (xg)))|refine ss ?_ ?_<;>(intro h;first|exact sz h|refine sy h ?_)|exact sq|fail
   rename_i w M6 hq
   obtain⟨⟨ap,fp,ep,rfl,hsl⟩,hg6⟩:=hq
   have B4:=A4.grow hg6
   have r4:=B4.2
   have hl6:=hg6.le
   have hl25:=g25.le
   have hlM:=gM2.le
   repeat' first|with_reducible intro _|refine sv ?_|refine ss ?_ ?_<;>(intro h;first|exact sz h|refine sy h ?_)|exact sq|fail
   rename_i M7 w1 w2 w3
   have gM:Grow M M7:=Keep.to_grow' gM2 (((g25.trans hg6).to_keep (fun i=>i=n4)).upd w1 (.inl rfl)) (fun i hi=>by omega)
   refine kf ?_
   refine⟨.inr ⟨hg,hly,ap,fp,ep,rfl,fun F M'' hk hF=>hsl (fun i=>i=n4 ∨ F i) M'' (((Keep.refl (fun i=>i=n4 ∨ F i) M6).upd w1 (.inl (.inl rfl))).trans hk (fun i hi=>.inl (.inr hi))) (fun i hi=>?_)⟩,gM⟩
   rcases hi with rfl|hi
   ·omega
   ·have:=hF i hi;omega
  ·repeat' first|with_reducible intro _|refine sv ?_|refine ss ?_ ?_<;>(intro h;first|exact sz h|refine sy h ?_)|exact sq|fail
   rename_i M7 w1 w2 w3
   have hlM:=gM2.le
   have gM:Grow M M7:=Keep.to_grow' gM2 ((g25.to_keep (fun i=>i=n4)).upd w1 (.inl rfl)) (fun i hi=>by omega)
   refine kf ?_
   exact⟨.inl ⟨_,rfl,by decide⟩,gM⟩
 ·have he:=zn7 hg
  rw[he] at cg
  repeat' first|with_reducible intro _|refine sv ?_|((with_reducible first|apply zp|apply zo|apply zj);exact gd;exact rfl;exact rfl;(first|exact cg _ (xg)))|refine ss ?_ ?_<;>(intro h;first|exact sz h|refine sy h ?_)|exact sq|fail
  refine kf ?_
  exact⟨.inl ⟨_,rfl,by decide⟩,xg⟩
end Go.Proofs.YtpgalhbplcanhaaGreatDoor.C
end
section
open Go PvL
set_option linter.unusedSimpArgs false
set_option linter.unusedVariables false
namespace Go.Proofs.YtpgalhbplcanhaaGreatDoor.C
def PL(a b i j:Nat)(G:Nat->Ky):Prop:=a < i /\ i<=j+1 /\ j < b /\ (∀ p,a < p->p < i->klt (G p) (G a)) /\ ∀ p,j < p->p < b->¬ klt (G p) (G a)
theorem PL.start{a b:Nat}{G:Nat->Ky}(h:a < b):PL a b (a+1) (b - 1) G:=⟨by omega,by omega,by omega,fun p h1 h2=>by omega,fun p h1 h2=>by omega⟩
theorem PL.up{a b i j:Nat}{G:Nat->Ky}(h:PL a b i j G)(hij:i<=j)(hl:klt (G i) (G a)):PL a b (i+1) j G :=
 ⟨by have:=h.1;omega,by omega,h.2.2.1,fun p h1 h2=>by
  by_cases hp:p=i
  ·subst hp;exact hl
  ·exact h.2.2.2.1 p h1 (by omega),h.2.2.2.2⟩
theorem PL.down{a b i j:Nat}{G:Nat->Ky}(h:PL a b i (j+1) G)(hij:i<=j+1)(hl:¬ klt (G (j+1)) (G a)):PL a b i j G :=
 ⟨h.1,hij,by have:=h.2.2.1;omega,h.2.2.2.1,fun p h1 h2=>by
  by_cases hp:p=j+1
  ·subst hp;exact hl
  ·exact h.2.2.2.2 p (by omega) h2⟩
theorem PL.swap{a b i j:Nat}{G:Nat->Ky}(h:PL a b i j G)(hij:i<=j)(h1:¬ klt (G i) (G a))(h2:klt (G j) (G a)):i < j /\ PL a b (i+1) (j - 1) (sw G i j):=by
 have hne:i ≠ j:=by rintro rfl;exact h1 h2
 have hai:=h.1
 have ha:sw G i j a=G a:=z4o (by omega) (by omega)
 refine⟨by omega,by omega,by omega,by have:=h.2.2.1;omega,fun p h3 h4=>?_,fun p h3 h4=>?_⟩
 ·rw[ha]
  by_cases hp:p=i
  ·subst hp;rw[sw_i];exact h2
  ·rw[z4o hp (by omega)];exact h.2.2.2.1 p h3 (by omega)
 ·rw[ha]
  by_cases hp:p=j
  ·subst hp;rw[sw_j];exact h1
  ·rw[z4o (by omega) hp];exact h.2.2.2.2 p (by omega) h4
def Parted(a b m:Nat)(G:Nat->Ky):Prop:=a<=m /\ m < b /\ (∀ p,a<=p->p < m->klt (G p) (G m)) /\ ∀ p,m < p->p < b->¬ klt (G p) (G m)
theorem PL.done{a b i j:Nat}{G:Nat->Ky}(h:PL a b i j G)(hij:j < i):Parted a b j (sw G j a):=by
 obtain⟨h1,h2,h3,h4,h5⟩:=h
 refine⟨by omega,h3,fun p g1 g2=>?_,fun p g1 g2=>?_⟩
 ·rw[sw_i]
  by_cases hp:p=a
  ·subst hp;rw[sw_j];exact h4 j (by omega) (by omega)
  ·rw[z4o (by omega) hp];exact h4 p (by omega) (by omega)
 ·rw[sw_i,z4o (by omega) (by omega)]
  exact h5 p g1 g2
def Lo(a b:Nat)(G:Nat->Ky):Prop:=a=0 ∨ ∀ t,a<=t->t < b->klt (G (a - 1)) (G t)
theorem Lo.sub{a b b':Nat}{G:Nat->Ky}(h:Lo a b G)(hb:b'<=b):Lo a b' G:=h.elim .inl fun h=>.inr fun t h1 h2=>h t h1 (by omega)
theorem Lo.sw{a b a' b':Nat}{G G':Nat->Ky}(h:Lo a b G)(hw:Sw a' b' G G')(ha:a<=a')(hb:b'<=b):Lo a b G':=by
 rcases h with h|h
 ·exact .inl h
 by_cases ha0:a=0
 ·exact .inl ha0
 refine .inr ?_
 rw[hw.out (t:=a - 1) (by omega)]
 exact(hw.wider ha hb).all (p:=fun k=>klt (G (a - 1)) k) h
def Out(a b a' b':Nat)(G:Nat->Ky):Prop:=∀ x y,a<=x->x < y->y < b->(x < a' ∨ b'<=y)->¬ klt (G y) (G x)
theorem Out.start{a b:Nat}{G:Nat->Ky}:Out a b a b G:=fun x y h1 h2 h3 h4=>by omega
theorem Out.sw{a b a' b':Nat}{G G':Nat->Ky}(h:Out a b a' b' G)(hw:Sw a' b' G G')(ha:a<=a')(hb:b'<=b):Out a b a' b' G':=by
 intro x y h1 h2 h3 h4
 by_cases hx:x < a' ∨ b'<=x
 ·rw[hw.out hx]
  by_cases hy:y < a' ∨ b'<=y
  ·rw[hw.out hy];exact h x y h1 h2 h3 h4
  ·exact hw.all (p:=fun k=>¬ klt k (G x)) (fun t h5 h6=>h x t h1 (by omega) (by omega) (by omega)) y (by omega) (by omega)
 ·rw[hw.out (t:=y) (by omega)]
  exact hw.all (p:=fun k=>¬ klt (G y) k) (fun t h5 h6=>h t y (by omega) (by omega) h3 (by omega)) x (by omega) (by omega)
theorem Out.fin{a b a' b':Nat}{G:Nat->Ky}(h:Out a b a' b' G)(hs:Srt a' b' G):Srt a b G:=fun x y h1 h2 h3=>by
 by_cases hx:x < a' ∨ b'<=y
 ·exact h x y h1 h2 h3 hx
 ·exact hs x y (by omega) h2 (by omega)
theorem Parted.sw{a b m:Nat}{G G':Nat->Ky}(h:Parted a b m G){a' b':Nat}(hw:Sw a' b' G G')(hr:(a<=a' /\ b'<=m) ∨(m+1<=a' /\ b'<=b)):Parted a b m G':=by
 obtain⟨h1,h2,h3,h4⟩:=h
 refine⟨h1,h2,?_,?_⟩
 ·intro p g1 g2
  rw[hw.out (t:=m) (by omega)]
  rcases hr with hr|hr
  ·exact(hw.wider hr.1 hr.2).all (p:=fun k=>klt k (G m)) h3 p g1 g2
  ·rw[hw.out (t:=p) (by omega)];exact h3 p g1 g2
 ·intro p g1 g2
  rw[hw.out (t:=m) (by omega)]
  rcases hr with hr|hr
  ·rw[hw.out (t:=p) (by omega)];exact h4 p g1 g2
  ·exact(hw.wider hr.1 hr.2).all (p:=fun k=>¬ klt k (G m)) (fun t g1 g2=>h4 t (by omega) g2) p (by omega) g2
theorem Out.left{a b a' b' m:Nat}{G G':Nat->Ky}(h:Out a b a' b' G)(hp:Parted a' b' m G)(hw:Sw a' m G G')(hs:Srt a' m G')(ha:a<=a')(hb:b'<=b):Out a b (m+1) b' G':=by
 have hm:=hp.1
 have hm2:=hp.2.1
 have hp':=hp.sw hw (.inl ⟨Nat.le_refl _,Nat.le_refl _⟩)
 have h':=h.sw (hw.wider (Nat.le_refl _) (by omega)) ha hb
 obtain⟨-,-,q3,q4⟩:=hp'
 intro x y h1 h2 h3 h4
 by_cases hx:x < a' ∨ b'<=y
 ·exact h' x y h1 h2 h3 hx
 have hxm:x<=m:=by omega
 by_cases hxe:x=m
 ·subst hxe;exact q4 y h2 (by omega)
 by_cases hy:y < m
 ·exact hs x y (by omega) h2 hy
 by_cases hye:y=m
 ·subst hye;exact z8b (q3 x (by omega) (by omega))
 ·exact fun hk=>q4 y (by omega) (by omega) (zc8 hk (q3 x (by omega) (by omega)))
theorem Out.right{a b a' b' m:Nat}{G G':Nat->Ky}(h:Out a b a' b' G)(hp:Parted a' b' m G)(hw:Sw (m+1) b' G G')(hs:Srt (m+1) b' G')(ha:a<=a')(hb:b'<=b):Out a b a' m G':=by
 have hm:=hp.1
 have hm2:=hp.2.1
 have hp':=hp.sw hw (.inr ⟨Nat.le_refl _,Nat.le_refl _⟩)
 have h':=h.sw (hw.wider (by omega) (Nat.le_refl _)) ha hb
 obtain⟨-,-,q3,q4⟩:=hp'
 intro x y h1 h2 h3 h4
 by_cases hx:x < a' ∨ b'<=y
 ·exact h' x y h1 h2 h3 hx
 have hym:m<=y:=by omega
 by_cases hxe:x=m
 ·subst hxe;exact q4 y h2 (by omega)
 by_cases hx2:m < x
 ·exact hs x y (by omega) h2 (by omega)
 by_cases hye:y=m
 ·subst hye;exact z8b (q3 x (by omega) (by omega))
 ·exact fun hk=>q4 y (by omega) (by omega) (zc8 hk (q3 x (by omega) (by omega)))
theorem Parted.lo{a b m n:Nat}{G:Nat->Ky}(h:Parted a b m G)(hi:Inj n G)(hb:b<=n):Lo (m+1) b G:=.inr fun t h1 h2=>by
 rw[show m+1 - 1=m by omega]
 have h3:=h.2.2.2 t (by omega) h2
 have hm2:=h.2.1
 rcases zi9 (a:=G m) (b:=G t) (fun e=>absurd (hi m t (by omega) (by omega) e) (by omega)) with h4|h4
 ·exact h4
 ·exact absurd h4 h3
theorem Srt.pre{a i:Nat}{G:Nat->Ky}(h:Srt a i G){j:Nat}(hj:j<=i):Srt a j G:=fun x y h1 h2 h3=>h x y h1 h2 (by omega)
theorem Srt.swr{a i b:Nat}{G G':Nat->Ky}(h:Srt a i G){a':Nat}(hw:Sw a' b G G')(ha:i<=a'):Srt a i G':=fun x y h1 h2 h3=>by
 rw[hw.out (t:=x) (by omega),hw.out (t:=y) (by omega)]
 exact h x y h1 h2 h3
end Go.Proofs.YtpgalhbplcanhaaGreatDoor.C
end
section
open Go PvL Go.Proofs
set_option linter.unusedSimpArgs false
set_option linter.unusedVariables false
namespace Go.Proofs.YtpgalhbplcanhaaGreatDoor.C
set_option maxHeartbeats 16000000 in
theorem ztb{M:Mem}{p n a b:Nat}{f:Bool}{e:Nat}{ty:TypeId}{G:Nat->Ky}(hA:KT M p n ty G)(hb:b<=n)(hab:a < b)(hn:n<=1100)(hlo:Lo a b G) :
  ze Tryz.prog 255 [.slice (some (p,0)) n f e,I a,I b,cf] M (fun w M'=>∃(q:Bool) (G':Nat->Ky),w=.bool q /\ (q=true->Srt a b G') /\ Sw a b G G' /\ KT M' p n ty G' /\ Keep (fun i=>i=p) M M'):=by
 refine zf k255 rfl ?_
 delta x255;refine un ?_
 repeat' first|with_reducible intro _|refine sv ?_|refine ss ?_ ?_<;>(intro h;first|exact sz h|refine sy h ?_)|exact sq|fail
 refine zi (fun z E ms M'=>∃(s i:Nat) (G':Nat->Ky),z=5 - s /\ s<=5 /\ a < i /\ i<=b /\ ms=[] /\ Has E [(0,.slice (some (p,0)) n f e),(1,I a),(2,I b),(3,cf),(9,I i),(10,I s)] /\ Sw a b G G' /\ Srt a i G' /\ KT M' p n ty G' /\ Keep (fun i=>i=p) M M')
  ?_ 5 _ _ _ ⟨0,a+1,G,rfl,by omega,by omega,by omega,rfl,.cons rfl (.cons rfl (.cons rfl (.cons rfl (.cons rfl (.cons rfl .nil))))),.refl,Srt.short (by omega),hA,Keep.refl _ _⟩
 rintro z E ms M1 ⟨s,i0,G1,rfl,hs5,hi0,hib0,rfl,hE,hw1,hs1,hA1,hk1⟩
 refine z02 hE ?_
 by_cases hlast:s=5
 ·subst hlast
  repeat' first|with_reducible intro _|refine sv ?_|refine ss ?_ ?_<;>(intro h;first|exact sz h|refine sy h ?_)|exact sq|fail
  all_goals try(exfalso;omega)
  refine kf ?_
  exact⟨false,G1,rfl,fun h=>(by cases h),hw1,hA1,hk1⟩
 have hs6:s < 5:=by omega
 repeat' first|with_reducible intro _|refine sv ?_|refine ss ?_ ?_<;>(intro h;first|exact sz h|refine sy h ?_)|exact sq|fail
 all_goals try(exfalso;omega)
 refine z27 (K:=fun x E ms M'=>x=.exit 2 /\ ms=[] /\ ∃ i,a < i /\ i<=b /\ (i=b ∨ klt (G1 i) (G1 (i - 1))) /\ Srt a i G1 /\ Has E [(0,.slice (some (p,0)) n f e),(1,I a),(2,I b),(3,cf),(9,I i),(10,I s)] /\ KT M' p n ty G1 /\ Keep (fun i=>i=p) M M') ?_ ?_
 ·refine zi (fun z E ms M'=>∃ i,z=b - i /\ a < i /\ i<=b /\ Srt a i G1 /\ ms=[] /\ Has E [(0,.slice (some (p,0)) n f e),(1,I a),(2,I b),(3,cf),(9,I i),(10,I s)] /\ KT M' p n ty G1 /\ Keep (fun i=>i=p) M M')
   ?_ (b - i0) _ _ _ ⟨i0,rfl,hi0,hib0,hs1,rfl,.cons rfl (.cons rfl (.cons rfl (.cons rfl (.cons rfl (.cons rfl .nil))))),hA1,hk1⟩
  rintro z E ms M2 ⟨i,rfl,hi,hib,hs2,rfl,hE,hA2,hk2⟩
  refine z02 hE ?_
  by_cases hib2:i=b
  ·subst hib2
   repeat' first|with_reducible intro _|refine sv ?_|refine ss ?_ ?_<;>(intro h;first|exact sz h|refine sy h ?_)|exact sq|fail
   all_goals try(exfalso;omega)
   exact⟨rfl,rfl,i,hi,hib,.inl rfl,hs2,.cons rfl (.cons rfl (.cons rfl (.cons rfl (.cons rfl (.cons rfl .nil))))),hA2,hk2⟩
  obtain⟨i',rfl⟩:∃ i',i=i' + 1:=⟨i - 1,by omega⟩
  have hz:(((i' + 1:Nat):Int) - 1).toNat=i':=by omega
  have hr1:=z0z hA2 (show i' + 1 < n by omega)
  have hr2:=z0z hA2 (show i' < n by omega)
  have hr3:Rd M2 p (0+(((i' + 1:Nat):Int) - 1).toNat*2) 2 [I (G1 i').1,I (G1 i').2]:=by rw[hz];exact hr2
  have co:=fun M'=>z2x (G1 (i' + 1)) (G1 i') M'
  have hlt9:=z0u (G1 (i' + 1)) (G1 i')
  (have hrd0:=hr1;have hrd1:=hr3;repeat' (first|(with_reducible intro _)|refine sv ?_|((with_reducible first|apply zp|apply zo|apply zj);exact gd;exact rfl;exact rfl;(first|exact co _))|refine ss ?_ ?_<;>(intro h;first|exact sz h|refine sy h ?_)|exact sq|fail))
  all_goals try(exfalso;omega)
  ·rename_i hx M5 hg5 q5
   have hk5:Keep (fun i=>i=p) M M5:=xk
   refine zq (b - (i' + 1+1)) (by omega) ⟨i' + 1+1,rfl,by omega,by omega,?_,rfl,.cons rfl (.cons rfl (.cons rfl (.cons rfl (.cons rfl (.cons rfl .nil))))),hA2.grow hg5,hk5⟩
   exact(Ins.start hs2).done (.inr (fun hk=>absurd (hlt9.2 hk) (Int.not_lt.2 h)))
  ·rename_i hx M5 hg5 q5
   have hk5:Keep (fun i=>i=p) M M5:=xk
   exact⟨rfl,rfl,i' + 1,hi,hib,.inr (hlt9.1 h),hs2,.cons rfl (.cons rfl (.cons rfl (.cons rfl (.cons rfl (.cons rfl .nil))))),hA2.grow hg5,hk5⟩
 rintro x E ms M10 ⟨rfl,rfl,i,hi,hib,hst,hs2,hE,hA2,hk2⟩
 apply z1s
 apply z43
 refine z02 hE ?_
 by_cases hib2:i=b
 ·subst hib2
  repeat' first|with_reducible intro _|refine sv ?_|refine ss ?_ ?_<;>(intro h;first|exact sz h|refine sy h ?_)|exact sq|fail
  all_goals try(exfalso;omega)
  refine kf ?_
  exact⟨true,G1,rfl,fun _=>hs2,hw1,hA2,hk2⟩
 have hib3:i < b:=by omega
 have hst:=hst.resolve_left hib2
 obtain⟨i',rfl⟩:∃ i',i=i' + 1:=⟨i - 1,by omega⟩
 have hst:klt (G1 (i' + 1)) (G1 i'):=hst
 have hz:(((i' + 1:Nat):Int) - 1).toNat=i':=by omega
 have hr1:=z0z hA2 (show i' + 1 < n by omega)
 have hr2:=z0z hA2 (show i' < n by omega)
 have hr3:Rd M10 p (0+(((i' + 1:Nat):Int) - 1).toNat*2) 2 [I (G1 i').1,I (G1 i').2]:=by rw[hz];exact hr2
 (have hrd0:=hr1;have hrd1:=hr3;repeat' (first|(with_reducible intro _)|refine sv ?_|refine ss ?_ ?_<;>(intro h;first|exact sz h|refine sy h ?_)|exact sq|fail))
 all_goals try(exfalso;omega)
 ·refine kf ?_
  exact⟨false,G1,rfl,fun h=>(by cases h),hw1,hA2,hk2⟩
 refine d_st (by exact gd) rfl rfl hA2 rfl rfl (z0r (by omega) (G1 i')) ?_
 intro M6 hU6 e6 hA6
 repeat' first|with_reducible intro _|refine sv ?_|refine ss ?_ ?_<;>(intro h;first|exact sz h|refine sy h ?_)|exact sq|fail
 refine d_st (by exact gd) rfl rfl hA6 rfl rfl (by rw[hz];exact z0r (by omega) (G1 (i' + 1))) ?_
 intro M7 hU7 e7 hA7
 have hk7:Keep (fun i=>i=p) M M7:=xk
 have hw7:Sw a b G (sw G1 (i' + 1) i'):=.step hw1 (by omega) (by omega) (by omega) (by omega)
 have hA7:KT M7 p n ty (sw G1 (i' + 1) i'):=hA7
 have hs7:Srt a i' (sw G1 (i' + 1) i'):=(hs2.pre (by omega:i'<=i' + 1)).swr (a':=i') (b:=b) (.one (by omega) (by omega) (by omega) (by omega)) (Nat.le_refl _)
 have hlo7:=hlo.sw hw7 (Nat.le_refl _) (Nat.le_refl _)
 generalize sw G1 (i' + 1) i'=G7 at *
 refine zn3 (by exact ox) ?_
 clear hr1 hr2 hr3 hA2 hk2 hU6 e6 hA6 hU7 e7 hA1 hk1 hs1 hs2 hst hi0
 apply z43
 apply z7b
 refine z27 (K:=fun x E ms M'=>x=.norm /\ ms=[] /\ ∃ G',Sw a b G G' /\ Srt a (i' + 1) G' /\ Has E [(0,.slice (some (p,0)) n f e),(1,I a),(2,I b),(3,cf),(9,I ((i' + 1:Nat):Int)),(10,I s)] /\ KT M' p n ty G' /\ Keep (fun i=>i=p) M M') ?_ ?_
 ·by_cases hia:i'=a
  ·subst hia
   repeat' first|with_reducible intro _|refine sv ?_|refine ss ?_ ?_<;>(intro h;first|exact sz h|refine sy h ?_)|exact sq|fail
   all_goals try(exfalso;omega)
   exact⟨rfl,rfl,G7,hw7,Srt.short (by omega),.cons rfl (.cons rfl (.cons rfl (.cons rfl (.cons rfl (.cons rfl .nil))))),hA7,hk7⟩
  repeat' first|with_reducible intro _|refine sv ?_|refine ss ?_ ?_<;>(intro h;first|exact sz h|refine sy h ?_)|exact sq|fail
  all_goals try(exfalso;omega)
  have hi'0:((i' + 1:Nat):Int) - 1=(i':Int):=by omega
  refine zi (fun z E ms M'=>∃(G':Nat->Ky),a<=z /\ z<=i' /\ ms=[] /\ Has E [(0,.slice (some (p,0)) n f e),(1,I a),(2,I b),(3,cf),(9,I ((i' + 1:Nat):Int)),(10,I s),(11,I z)] /\ Sw a b G G' /\ Ins a (i' + 1) z G' /\ Lo a b G' /\ KT M' p n ty G' /\ Keep (fun i=>i=p) M M')
   ?_ i' _ _ _ ⟨G7,by omega,Nat.le_refl _,rfl,.cons rfl (.cons rfl (.cons rfl (.cons rfl (.cons rfl (.cons rfl (.cons (by show some (I _)=some (I _);rw[hi'0]) .nil)))))),hw7,Ins.start hs7,hlo7,hA7,hk7⟩
  clear hw7 hA7 hk7 hs7 hlo7
  rintro j E ms M2 ⟨G2,hj1,hj2,rfl,hE,hw2,hs2,hlo2,hA2,hk2⟩
  refine z02 hE ?_
  by_cases hj0:j=0
  ·subst hj0
   repeat' first|with_reducible intro _|refine sv ?_|refine ss ?_ ?_<;>(intro h;first|exact sz h|refine sy h ?_)|exact sq|fail
   all_goals try(exfalso;omega)
   exact⟨rfl,rfl,G2,hw2,hs2.done (.inl (by omega)),.cons rfl (.cons rfl (.cons rfl (.cons rfl (.cons rfl (.cons rfl .nil))))),hA2,hk2⟩
  obtain⟨j',rfl⟩:∃ j',j=j' + 1:=⟨j - 1,by omega⟩
  have hz:(((j' + 1:Nat):Int) - 1).toNat=j':=by omega
  have hr1:=z0z hA2 (show j' + 1 < n by omega)
  have hr2:=z0z hA2 (show j' < n by omega)
  have hr3:Rd M2 p (0+(((j' + 1:Nat):Int) - 1).toNat*2) 2 [I (G2 j').1,I (G2 j').2]:=by rw[hz];exact hr2
  have co:=fun M'=>z2x (G2 (j' + 1)) (G2 j') M'
  have hlt9:=z0u (G2 (j' + 1)) (G2 j')
  (have hrd0:=hr1;have hrd1:=hr3;repeat' (first|(with_reducible intro _)|refine sv ?_|((with_reducible first|apply zp|apply zo|apply zj);exact gd;exact rfl;exact rfl;(first|exact co _))|refine ss ?_ ?_<;>(intro h;first|exact sz h|refine sy h ?_)|exact sq|fail))
  all_goals try(exfalso;omega)
  ·rename_i hgt M5 hg5 q5
   have hk5:Keep (fun i=>i=p) M M5:=xk
   exact⟨rfl,rfl,G2,hw2,hs2.done (.inr (fun hk=>absurd (hlt9.2 hk) (Int.not_lt.2 h))),.cons rfl (.cons rfl (.cons rfl (.cons rfl (.cons rfl (.cons rfl .nil))))),hA2.grow hg5,hk5⟩
  ·rename_i hgt M5 hg5 q5
   have hlt8:=hlt9.1 h
   have hja:a<=j':=by
    rcases hlo2 with h0|h0
    ·omega
    ·rcases Nat.lt_or_ge j' a with h1|h1
     ·obtain rfl:a=j' + 1:=by omega
      exact absurd hlt8 (z8b (h0 (j' + 1) (by omega) (by omega)))
     ·exact h1
   have hA5:KT M5 p n ty G2:=hA2.grow hg5
   refine d_st (by exact gd) rfl rfl hA5 rfl rfl (z0r (by omega) (G2 j')) ?_
   intro M6 hU6 e6 hA6
   repeat' first|with_reducible intro _|refine sv ?_|refine ss ?_ ?_<;>(intro h;first|exact sz h|refine sy h ?_)|exact sq|fail
   refine d_st (by exact gd) rfl rfl hA6 rfl rfl (by rw[hz];exact z0r (by omega) (G2 (j' + 1))) ?_
   intro M7 hU7 e7 hA7
   have hk7:Keep (fun i=>i=p) M M7:=xk
   have hw7:Sw a b G2 (sw G2 (j' + 1) j'):=.one (by omega) (by omega) (by omega) (by omega)
   repeat' first|with_reducible intro _|refine sv ?_|refine ss ?_ ?_<;>(intro h;first|exact sz h|refine sy h ?_)|exact sq|fail
   refine zq j' (by omega) ⟨sw G2 (j' + 1) j',by omega,by omega,rfl,.cons rfl (.cons rfl (.cons rfl (.cons rfl (.cons rfl (.cons rfl (.cons ?_ .nil)))))),hw2.trans hw7,hs2.step (by omega) hlt8,hlo2.sw hw7 (Nat.le_refl _) (Nat.le_refl _),hA7,hk7⟩
   show some (I _)=some (I _)
   rw[show((j' + 1:Nat):Int) - 1=j' by omega]
 clear hw7 hA7 hk7 hs7 hlo7
 rintro x E ms M11 ⟨rfl,rfl,G8,hw8,hs8,hE,hA8,hk8⟩
 apply z43
 refine z02 hE ?_
 refine z27 (K:=fun x E ms M'=>x=.norm /\ ms=[] /\ ∃ G',Sw a b G G' /\ Srt a (i' + 1) G' /\ Has E [(0,.slice (some (p,0)) n f e),(1,I a),(2,I b),(3,cf),(9,I ((i' + 1:Nat):Int)),(10,I s)] /\ KT M' p n ty G' /\ Keep (fun i=>i=p) M M') ?_ ?_
 ·by_cases hbi:¬ b - (i' + 1)>=2
  ·repeat' first|with_reducible intro _|refine sv ?_|refine ss ?_ ?_<;>(intro h;first|exact sz h|refine sy h ?_)|exact sq|fail
   all_goals try(exfalso;omega)
   exact⟨rfl,rfl,G8,hw8,hs8,.cons rfl (.cons rfl (.cons rfl (.cons rfl (.cons rfl (.cons rfl .nil))))),hA8,hk8⟩
  repeat' first|with_reducible intro _|refine sv ?_|refine ss ?_ ?_<;>(intro h;first|exact sz h|refine sy h ?_)|exact sq|fail
  all_goals try(exfalso;omega)
  refine zi (fun z E ms M'=>∃(j:Nat) (G':Nat->Ky),z=b - j /\ i' + 2<=j /\ j<=b /\ ms=[] /\ Has E [(0,.slice (some (p,0)) n f e),(1,I a),(2,I b),(3,cf),(9,I ((i' + 1:Nat):Int)),(10,I s),(12,I j)] /\ Sw a b G G' /\ Srt a (i' + 1) G' /\ KT M' p n ty G' /\ Keep (fun i=>i=p) M M')
   ?_ (b - (i' + 2)) _ _ _ ⟨i' + 2,G8,rfl,by omega,by omega,rfl,.cons rfl (.cons rfl (.cons rfl (.cons rfl (.cons rfl (.cons rfl (.cons rfl .nil)))))),hw8,hs8,hA8,hk8⟩
  clear hw8 hA8 hk8 hs8
  rintro z E ms M2 ⟨j,G2,rfl,hj1,hj2,rfl,hE,hw2,hs2,hA2,hk2⟩
  refine z02 hE ?_
  by_cases hjb:j=b
  ·subst hjb
   repeat' first|with_reducible intro _|refine sv ?_|refine ss ?_ ?_<;>(intro h;first|exact sz h|refine sy h ?_)|exact sq|fail
   all_goals try(exfalso;omega)
   exact⟨rfl,rfl,G2,hw2,hs2,.cons rfl (.cons rfl (.cons rfl (.cons rfl (.cons rfl (.cons rfl .nil))))),hA2,hk2⟩
  obtain⟨j',rfl⟩:∃ j',j=j' + 1:=⟨j - 1,by omega⟩
  have hz:(((j' + 1:Nat):Int) - 1).toNat=j':=by omega
  have hr1:=z0z hA2 (show j' + 1 < n by omega)
  have hr2:=z0z hA2 (show j' < n by omega)
  have hr3:Rd M2 p (0+(((j' + 1:Nat):Int) - 1).toNat*2) 2 [I (G2 j').1,I (G2 j').2]:=by rw[hz];exact hr2
  have co:=fun M'=>z2x (G2 (j' + 1)) (G2 j') M'
  (have hrd0:=hr1;have hrd1:=hr3;repeat' (first|(with_reducible intro _)|refine sv ?_|((with_reducible first|apply zp|apply zo|apply zj);exact gd;exact rfl;exact rfl;(first|exact co _))|refine ss ?_ ?_<;>(intro h;first|exact sz h|refine sy h ?_)|exact sq|fail))
  all_goals try(exfalso;omega)
  ·rename_i hgt M5 hg5 q5
   have hk5:Keep (fun i=>i=p) M M5:=xk
   exact⟨rfl,rfl,G2,hw2,hs2,.cons rfl (.cons rfl (.cons rfl (.cons rfl (.cons rfl (.cons rfl .nil))))),hA2.grow hg5,hk5⟩
  ·rename_i hgt M5 hg5 q5
   have hA5:KT M5 p n ty G2:=hA2.grow hg5
   refine d_st (by exact gd) rfl rfl hA5 rfl rfl (z0r (by omega) (G2 j')) ?_
   intro M6 hU6 e6 hA6
   repeat' first|with_reducible intro _|refine sv ?_|refine ss ?_ ?_<;>(intro h;first|exact sz h|refine sy h ?_)|exact sq|fail
   refine d_st (by exact gd) rfl rfl hA6 rfl rfl (by rw[hz];exact z0r (by omega) (G2 (j' + 1))) ?_
   intro M7 hU7 e7 hA7
   have hk7:Keep (fun i=>i=p) M M7:=xk
   have hw7:Sw (i' + 1) b G2 (sw G2 (j' + 1) j'):=.one (by omega) (by omega) (by omega) (by omega)
   repeat' first|with_reducible intro _|refine sv ?_|refine ss ?_ ?_<;>(intro h;first|exact sz h|refine sy h ?_)|exact sq|fail
   exact zq (b - (j' + 1+1)) (by omega) ⟨j' + 1+1,sw G2 (j' + 1) j',rfl,by omega,by omega,rfl,.cons rfl (.cons rfl (.cons rfl (.cons rfl (.cons rfl (.cons rfl (.cons rfl .nil)))))),hw2.trans (hw7.wider (by omega) (Nat.le_refl _)),hs2.swr hw7 (Nat.le_refl _),hA7,hk7⟩
 clear hw8 hA8 hk8 hs8
 rintro x E ms M12 ⟨rfl,rfl,G9,hw9,hs9,hE,hA9,hk9⟩
 apply zi6
 apply z43
 refine z02 hE ?_
 repeat' first|with_reducible intro _|refine sv ?_|refine ss ?_ ?_<;>(intro h;first|exact sz h|refine sy h ?_)|exact sq|fail
 exact zq (5 - (s+1)) (by omega) ⟨s+1,i' + 1,G9,rfl,by omega,by omega,by omega,rfl,.cons rfl (.cons rfl (.cons rfl (.cons rfl (.cons rfl (.cons rfl .nil))))),hw9,hs9,hA9,hk9⟩
end Go.Proofs.YtpgalhbplcanhaaGreatDoor.C
end
section
open Go PvL
set_option linter.unusedSimpArgs false
set_option linter.unusedVariables false
namespace Go.Proofs.YtpgalhbplcanhaaGreatDoor.C
def par(c:Nat):Nat:=(c - 1) / 2
def Heap(f lo hi:Nat)(G:Nat->Ky):Prop:=∀ c,0 < c->c < hi->lo<=par c->¬ klt (G (f+par c)) (G (f+c))
def Sift(f lo hi r:Nat)(G:Nat->Ky):Prop :=
 (∀ c,0 < c->c < hi->lo<=par c->par c ≠ r->¬ klt (G (f+par c)) (G (f+c))) /\ (∀ c,0 < c->c < hi->par c=r->r ≠ lo->lo<=par r->¬ klt (G (f+par r)) (G (f+c)))
theorem Sift.start{f lo hi:Nat}{G:Nat->Ky}(h:Heap f (lo+1) hi G):Sift f lo hi lo G :=
 ⟨fun c h1 h2 h3 h4=>h c h1 h2 (by omega),fun c _ _ _ h=>absurd rfl h⟩
theorem Sift.leaf{f lo hi r:Nat}{G:Nat->Ky}(h:Sift f lo hi r G)(hr:hi<=2*r+1):Heap f lo hi G:=fun c h1 h2 h3=>h.1 c h1 h2 h3 (by unfold par at *;omega)
theorem Sift.stop{f lo hi r x:Nat}{G:Nat->Ky}(h:Sift f lo hi r G)(hmax:∀ c,c < hi->(c=2*r+1 ∨ c=2*r+2)->¬ klt (G (f+x)) (G (f+c)))(hx:¬ klt (G (f+r)) (G (f+x))):Heap f lo hi G:=fun c h1 h2 h3=>by
 by_cases hc:par c=r
 ·rw[hc]
  have:=hmax c h2 (by unfold par at hc;omega)
  exact z8a this hx
 ·exact h.1 c h1 h2 h3 hc
theorem Sift.step{f lo hi r x:Nat}{G:Nat->Ky}(h:Sift f lo hi r G)(hlo:lo<=r)(hxc:x=2*r+1 ∨ x=2*r+2)(hxh:x < hi)(hmax:∀ c,c < hi->(c=2*r+1 ∨ c=2*r+2)->¬ klt (G (f+x)) (G (f+c)))(hx:klt (G (f+r)) (G (f+x))) :
  Sift f lo hi x (sw G (f+r) (f+x)):=by
 have hxr:x ≠ r:=by omega
 have hr':sw G (f+r) (f+x) (f+r)=G (f+x):=sw_i _ _ _
 have hx':sw G (f+r) (f+x) (f+x)=G (f+r):=sw_j _ _ _
 have hne:∀ t,t ≠ r->t ≠ x->sw G (f+r) (f+x) (f+t)=G (f+t):=fun t h1 h2=>z4o (by omega) (by omega)
 have hpx:par x=r:=by unfold par;omega
 constructor
 ·intro c h1 h2 h3 h4
  by_cases hcr:par c=r
  ·rw[hcr,hr']
   by_cases hcx:c=x
   ·subst hcx;rw[hx'];exact z8b hx
   ·rw[hne c (by unfold par at hcr;omega) hcx]
    exact hmax c h2 (by unfold par at hcr;omega)
  ·rw[hne (par c) hcr h4]
   by_cases hc:c=r
   ·subst hc
    rw[hr']
    exact h.2 x (by omega) hxh hpx (by rintro rfl;unfold par at h3;omega) h3
   ·rw[hne c hc (by rintro rfl;exact hcr hpx)]
    exact h.1 c h1 h2 h3 hcr
 ·intro c h1 h2 h3 h4 h5
  rw[hpx,hr',hne c (by rintro rfl;unfold par at h3;omega) (by rintro rfl;unfold par at h3;omega)]
  have:=h.1 c h1 h2 (by omega) (by omega)
  rw[h3] at this;exact this
theorem Heap.max{f m:Nat}{G:Nat->Ky}(h:Heap f 0 m G):∀ c,c < m->¬ klt (G (f+0)) (G (f+c)):=by
 intro c
 induction c using Nat.strongRecOn with
 | _ c ih =>
  intro hc
  rcases Nat.eq_zero_or_pos c with h0|h0
  ·subst h0;exact z45 _
  ·exact z8a (h c h0 hc (Nat.zero_le _)) (ih (par c) (by unfold par;omega) (by unfold par;omega))
theorem Heap.none{f lo hi:Nat}{G:Nat->Ky}(h:hi<=2*lo+1):Heap f lo hi G:=fun c h1 h2 h3=>by unfold par at h3;omega
def Tail(f i hi:Nat)(G:Nat->Ky):Prop:=∀ q,i<=q->q < hi->∀ p,p < q->¬ klt (G (f+q)) (G (f+p))
theorem Tail.step{f i hi:Nat}{G G':Nat->Ky}(ht:Tail f (i+1) hi G)(hi':i < hi)(hh:Heap f 0 (i+1) G)(hw:Sw (f+0) (f+i) (sw G (f+0) (f+i)) G'):Tail f i hi G':=by
 have hm:=hh.max
 have key:∀ t,t < i+1->¬ klt (G (f+0)) (sw G (f+0) (f+i) (f+t)):=fun t h=>by
  unfold sw
  split
  ·exact z45 _
  ·split
   ·exact hm i (by omega)
   ·exact hm t h
 intro q h1 h2 p hp
 have hq:G' (f+q)=sw G (f+0) (f+i) (f+q):=hw.out (by omega)
 rw[hq]
 by_cases hqi:q=i
 ·subst hqi
  rw[sw_j]
  refine hw.all (p:=fun x=>¬ klt (G (f+0)) x) (fun t h3 h4=>?_) (f+p) (by omega) (by omega)
  have:=key (t - f) (by omega)
  rwa [show f+(t - f)=t by omega] at this
 ·rw[z4o (by omega) (by omega)]
  have hall:∀ t,t < q->¬ klt (G (f+q)) (G (f+t)):=fun t h=>ht q (by omega) h2 t h
  by_cases hpi:p < i
  ·refine hw.all (p:=fun x=>¬ klt (G (f+q)) x) (fun t h3 h4=>?_) (f+p) (by omega) (by omega)
   unfold sw
   split
   ·exact hall 0 (by omega)
   ·split
    ·exact hall i (by omega)
    ·have:=hall (t - f) (by omega)
     rwa [show f+(t - f)=t by omega] at this
  ·rw[hw.out (by omega)]
   unfold sw
   split
   ·exact hall 0 (by omega)
   ·split
    ·exact hall i (by omega)
    ·exact hall p hp
theorem Heap.swapped{f i:Nat}{G:Nat->Ky}(hh:Heap f 0 (i+1) G):Heap f 1 i (sw G (f+0) (f+i)):=fun c h1 h2 h3=>by
 rw[z4o (by omega) (by unfold par;omega),z4o (by omega) (by omega)]
 exact hh c h1 (by omega) (Nat.zero_le _)
theorem Tail.srt{a b:Nat}{G:Nat->Ky}(hab:a<=b)(h:Tail a 0 (b - a) G):Srt a b G:=fun i j h1 h2 h3=>by
 have:=h (j - a) (Nat.zero_le _) (by omega) (i - a) (by omega)
 rwa [show a+(j - a)=j by omega,show a+(i - a)=i by omega] at this
end Go.Proofs.YtpgalhbplcanhaaGreatDoor.C
end
section
open Go PvL Go.Proofs
set_option linter.unusedSimpArgs false
set_option linter.unusedVariables false
namespace Go.Proofs.YtpgalhbplcanhaaGreatDoor.C
set_option maxHeartbeats 4000000 in
theorem zn0{M:Mem}{p n lo hi fs:Nat}{f:Bool}{e:Nat}{ty:TypeId}{G:Nat->Ky}(hA:KT M p n ty G)(hb:fs+hi<=n)(hn:n<=1100)(hlo:lo<=1100)(hH:Heap fs (lo+1) hi G) :
  ze Tryz.prog 316 [.slice (some (p,0)) n f e,I lo,I hi,I fs,cf] M (fun w M'=>∃ G',Sw (fs+lo) (fs+hi) G G' /\ Heap fs lo hi G' /\ KT M' p n ty G' /\ Keep (fun i=>i=p) M M'):=by
 refine zf k316 rfl ?_
 delta x316;refine un ?_
 repeat' first|with_reducible intro _|refine sv ?_|refine ss ?_ ?_<;>(intro h;first|exact sz h|refine sy h ?_)|exact sq|fail
 refine zi (fun z E ms M'=>∃(r:Nat) (G':Nat->Ky),z=hi+2200 - r /\ lo<=r /\ (r=lo ∨ r < hi) /\ ms=[] /\ Has E [(0,.slice (some (p,0)) n f e),(2,I hi),(3,I fs),(4,cf),(10,I r)] /\ Sw (fs+lo) (fs+hi) G G' /\ Sift fs lo hi r G' /\ KT M' p n ty G' /\ Keep (fun i=>i=p) M M')
  ?_ (hi+2200 - lo) _ _ _ ⟨lo,G,rfl,Nat.le_refl _,.inl rfl,rfl,.cons rfl (.cons rfl (.cons rfl (.cons rfl (.cons rfl .nil)))),.refl,Sift.start hH,hA,Keep.refl _ _⟩
 rintro z E ms M1 ⟨r,G1,rfl,hr,hrh,rfl,hE,hw1,hs1,hA1,hk1⟩
 refine z02 hE ?_
 by_cases hleaf:hi<=2*r+1
 ·repeat' first|with_reducible intro _|refine sv ?_|refine ss ?_ ?_<;>(intro h;first|exact sz h|refine sy h ?_)|exact sq|fail
  all_goals try(exfalso;omega)
  refine kf ?_
  exact⟨G1,hw1,hs1.leaf hleaf,hA1,hk1⟩
 have hrl:r < hi:=by omega
 have hR:=z0z hA1 (show fs+r < n by omega)
 have hC:=z0z hA1 (show fs+(2*r+1) < n by omega)
 have f1:((fs:Int)+(2*(r:Int)+1)).toNat=fs+(2*r+1):=by omega
 have f2:((fs:Int)+(r:Int)).toNat=fs+r:=by omega
 have f3:((fs:Int)+(2*(r:Int)+1)+1).toNat=fs+(2*r+2):=by omega
 have f4:((fs:Int)+(2*(r:Int)+1+1)).toNat=fs+(2*r+2):=by omega
 have h1:Rd M1 p (0+((fs:Int)+(2*(r:Int)+1)).toNat*2) 2 [I (G1 (fs+(2*r+1))).1,I (G1 (fs+(2*r+1))).2]:=by rw[f1];exact hC
 have h2:Rd M1 p (0+((fs:Int)+(r:Int)).toNat*2) 2 [I (G1 (fs+r)).1,I (G1 (fs+r)).2]:=by rw[f2];exact hR
 by_cases htwo:2*r+2 < hi
 ·have hD:=z0z hA1 (show fs+(2*r+2) < n by omega)
  have h3:Rd M1 p (0+((fs:Int)+(2*(r:Int)+1)+1).toNat*2) 2 [I (G1 (fs+(2*r+2))).1,I (G1 (fs+(2*r+2))).2]:=by rw[f3];exact hD
  have h4:Rd M1 p (0+((fs:Int)+(2*(r:Int)+1+1)).toNat*2) 2 [I (G1 (fs+(2*r+2))).1,I (G1 (fs+(2*r+2))).2]:=by rw[f4];exact hD
  have co:=fun M'=>z2x (G1 (fs+(2*r+1))) (G1 (fs+(2*r+2))) M'
  have co1:=fun M'=>z2x (G1 (fs+r)) (G1 (fs+(2*r+1))) M'
  have co2:=fun M'=>z2x (G1 (fs+r)) (G1 (fs+(2*r+2))) M'
  (have hrd0:=h1;have hrd1:=h2;have hrd2:=h3;have hrd3:=h4;repeat' (first|(with_reducible intro _)|refine sv ?_|((with_reducible first|apply zp|apply zo|apply zj);exact gd;exact rfl;exact rfl;(first|exact co _|exact co1 _|exact co2 _))|refine ss ?_ ?_<;>(intro h;first|exact sz h|refine sy h ?_)|exact sq|fail))
  all_goals try(exfalso;omega)
  ·rename_i k1 k2 M5 g5 q5 hc1 M6 g6 q6
   have hK:KT M6 p n ty G1:=hA1.grow (g5.trans g6)
   refine kf ?_
   exact⟨G1,hw1,hs1.stop (x:=2*r+2) (fun c hc h9=>by rcases h9 with rfl|rfl;exact z8b ((z0u _ _).1 hc1);exact z45 _) (fun hh=>absurd ((z0u _ _).2 hh) (Int.not_lt.2 h)),hK,xk⟩
  ·rename_i k1 k2 M5 g5 q5 hc1 M6 g6 q6
   have hK:KT M6 p n ty G1:=hA1.grow (g5.trans g6)
   have hlt:=(z0u (G1 (fs+r)) (G1 (fs+(2*r+2)))).1 h
   refine d_st (by exact gd) rfl rfl hK rfl rfl (z0r (by omega) (G1 (fs+(2*r+2)))) ?_
   intro M7 hU7 e7 hA7
   repeat' first|with_reducible intro _|refine sv ?_|refine ss ?_ ?_<;>(intro h;first|exact sz h|refine sy h ?_)|exact sq|fail
   refine d_st (by exact gd) rfl rfl hA7 rfl rfl (by rw[f4];exact z0r (by omega) (G1 (fs+r))) ?_
   intro M8 hU8 e8 hA8
   have hk8:Keep (fun i=>i=p) M M8:=xk
   repeat' first|with_reducible intro _|refine sv ?_|refine ss ?_ ?_<;>(intro h;first|exact sz h|refine sy h ?_)|exact sq|fail
   refine zq (hi+2200 - (2*r+2)) (by omega) ⟨2*r+2,sw G1 (fs+r) (fs+(2*r+2)),rfl,by omega,.inr (by omega),rfl,.cons rfl (.cons rfl (.cons rfl (.cons rfl (.cons ?_ .nil)))),.step hw1 (by omega) (by omega) (by omega) (by omega),hs1.step hr (.inr rfl) (by omega) (fun c hc h9=>by rcases h9 with rfl|rfl;exact z8b ((z0u _ _).1 hc1);exact z45 _) hlt,hA8,hk8⟩
   show some (I _)=some (I _)
   rw[show((2*r+2:Nat):Int)=2*(r:Int)+1+1 by omega]
  ·rename_i k1 k2 M5 g5 q5 hc1 M6 g6 q6
   have hK:KT M6 p n ty G1:=hA1.grow (g5.trans g6)
   refine kf ?_
   exact⟨G1,hw1,hs1.stop (x:=2*r+1) (fun c hc h9=>by rcases h9 with rfl|rfl;exact z45 _;exact fun hh=>absurd ((z0u _ _).2 hh) (Int.not_lt.2 hc1)) (fun hh=>absurd ((z0u _ _).2 hh) (Int.not_lt.2 h)),hK,xk⟩
  ·rename_i k1 k2 M5 g5 q5 hc1 M6 g6 q6
   have hK:KT M6 p n ty G1:=hA1.grow (g5.trans g6)
   have hlt:=(z0u (G1 (fs+r)) (G1 (fs+(2*r+1)))).1 h
   refine d_st (by exact gd) rfl rfl hK rfl rfl (z0r (by omega) (G1 (fs+(2*r+1)))) ?_
   intro M7 hU7 e7 hA7
   repeat' first|with_reducible intro _|refine sv ?_|refine ss ?_ ?_<;>(intro h;first|exact sz h|refine sy h ?_)|exact sq|fail
   refine d_st (by exact gd) rfl rfl hA7 rfl rfl (by rw[f1];exact z0r (by omega) (G1 (fs+r))) ?_
   intro M8 hU8 e8 hA8
   have hk8:Keep (fun i=>i=p) M M8:=xk
   repeat' first|with_reducible intro _|refine sv ?_|refine ss ?_ ?_<;>(intro h;first|exact sz h|refine sy h ?_)|exact sq|fail
   refine zq (hi+2200 - (2*r+1)) (by omega) ⟨2*r+1,sw G1 (fs+r) (fs+(2*r+1)),rfl,by omega,.inr (by omega),rfl,.cons rfl (.cons rfl (.cons rfl (.cons rfl (.cons ?_ .nil)))),.step hw1 (by omega) (by omega) (by omega) (by omega),hs1.step hr (.inl rfl) (by omega) (fun c hc h9=>by rcases h9 with rfl|rfl;exact z45 _;exact fun hh=>absurd ((z0u _ _).2 hh) (Int.not_lt.2 hc1)) hlt,hA8,hk8⟩
   show some (I _)=some (I _)
   rw[show((2*r+1:Nat):Int)=2*(r:Int)+1 by omega]
 ·have co1:=fun M'=>z2x (G1 (fs+r)) (G1 (fs+(2*r+1))) M'
  (have hrd0:=h1;have hrd1:=h2;repeat' (first|(with_reducible intro _)|refine sv ?_|((with_reducible first|apply zp|apply zo|apply zj);exact gd;exact rfl;exact rfl;(first|exact co1 _))|refine ss ?_ ?_<;>(intro h;first|exact sz h|refine sy h ?_)|exact sq|fail))
  all_goals try(exfalso;omega)
  ·rename_i k1 k2 M5 g5 q5
   have hK:KT M5 p n ty G1:=hA1.grow g5
   refine kf ?_
   exact⟨G1,hw1,hs1.stop (x:=2*r+1) (fun c hc h9=>by rcases h9 with rfl|rfl;exact z45 _;omega) (fun hh=>absurd ((z0u _ _).2 hh) (Int.not_lt.2 h)),hK,xk⟩
  ·rename_i k1 k2 M5 g5 q5
   have hK:KT M5 p n ty G1:=hA1.grow g5
   have hlt:=(z0u (G1 (fs+r)) (G1 (fs+(2*r+1)))).1 h
   refine d_st (by exact gd) rfl rfl hK rfl rfl (z0r (by omega) (G1 (fs+(2*r+1)))) ?_
   intro M7 hU7 e7 hA7
   repeat' first|with_reducible intro _|refine sv ?_|refine ss ?_ ?_<;>(intro h;first|exact sz h|refine sy h ?_)|exact sq|fail
   refine d_st (by exact gd) rfl rfl hA7 rfl rfl (by rw[f1];exact z0r (by omega) (G1 (fs+r))) ?_
   intro M8 hU8 e8 hA8
   have hk8:Keep (fun i=>i=p) M M8:=xk
   repeat' first|with_reducible intro _|refine sv ?_|refine ss ?_ ?_<;>(intro h;first|exact sz h|refine sy h ?_)|exact sq|fail
   refine zq (hi+2200 - (2*r+1)) (by omega) ⟨2*r+1,sw G1 (fs+r) (fs+(2*r+1)),rfl,by omega,.inr (by omega),rfl,.cons rfl (.cons rfl (.cons rfl (.cons rfl (.cons ?_ .nil)))),.step hw1 (by omega) (by omega) (by omega) (by omega),hs1.step hr (.inl rfl) (by omega) (fun c hc h9=>by rcases h9 with rfl|rfl;exact z45 _;omega) hlt,hA8,hk8⟩
   show some (I _)=some (I _)
   rw[show((2*r+1:Nat):Int)=2*(r:Int)+1 by omega]
set_option maxHeartbeats 4000000 in
theorem zqs{M:Mem}{p n a b:Nat}{f:Bool}{e:Nat}{ty:TypeId}{G:Nat->Ky}(hA:KT M p n ty G)(hb:b<=n)(hab:a < b)(hn:n<=1100) :
  ze Tryz.prog 251 [.slice (some (p,0)) n f e,I a,I b,cf] M (fun w M'=>∃ G',Sw a b G G' /\ Srt a b G' /\ KT M' p n ty G' /\ Keep (fun i=>i=p) M M'):=by
 refine zf k251 rfl ?_
 delta x251;refine un ?_
 obtain⟨hi,rfl⟩:∃ hi,b=a+hi:=⟨b - a,by omega⟩
 repeat' first|with_reducible intro _|refine sv ?_|refine ss ?_ ?_<;>(intro h;first|exact sz h|refine sy h ?_)|exact sq|fail
 have v0:(((a+hi:Nat):Int) - (a:Int))=hi:=by omega
 have v1:((((a+hi:Nat):Int) - (a:Int) - 1) / 2)=(((hi - 1) / 2+1:Nat):Int) - 1:=by omega
 refine zi (fun z E ms M'=>∃(G':Nat->Ky),z<=(hi - 1) / 2+1 /\ ms=[] /\ Has E [(0,.slice (some (p,0)) n f e),(3,cf),(8,I a),(9,I 0),(10,I hi),(11,I ((z:Int) - 1))] /\ Sw a (a+hi) G G' /\ Heap a z hi G' /\ KT M' p n ty G' /\ Keep (fun i=>i=p) M M')
  ?_ ((hi - 1) / 2+1) _ _ _ ⟨G,Nat.le_refl _,rfl,.cons rfl (.cons rfl (.cons rfl (.cons rfl (.cons (by show some (I _)=some (I _);rw[v0]) (.cons (by show some (I _)=some (I _);rw[v1]) .nil))))),.refl,Heap.none (by omega),hA,Keep.refl _ _⟩
 rintro z E ms M1 ⟨G1,hz,rfl,hE,hw1,hh1,hA1,hk1⟩
 refine z02 hE ?_
 rcases z with _|i
 case succ =>
  rw[show(((i+1:Nat):Int) - 1)=(i:Int) by omega]
  have cs:=fun M' (hh:KT M' p n ty G1)=>zn0 (f:=f) (e:=e) (lo:=i) (hi:=hi) (fs:=a) hh hb hn (by omega) hh1
  repeat' first|with_reducible intro _|refine sv ?_|((with_reducible first|apply zt|apply zz|apply zn);exact gd;exact rfl;exact rfl;(first|exact cs _ (xm)))|refine ss ?_ ?_<;>(intro h;first|exact sz h|refine sy h ?_)|exact sq|fail
  all_goals try(exfalso;omega)
  rename_i w2 M2 hq
  obtain⟨G2,hw2,hh2,hA2,hk2⟩:=hq
  repeat' first|with_reducible intro _|refine sv ?_|refine ss ?_ ?_<;>(intro h;first|exact sz h|refine sy h ?_)|exact sq|fail
  exact zq i (by omega) ⟨G2,by omega,rfl,.cons rfl (.cons rfl (.cons rfl (.cons rfl (.cons rfl (.cons rfl .nil))))),hw1.trans (hw2.wider (by omega) (Nat.le_refl _)),hh2,hA2,hk1.trans hk2 (fun i hi=>.inl hi)⟩
 case zero =>
 repeat' first|with_reducible intro _|refine sv ?_|refine ss ?_ ?_<;>(intro h;first|exact sz h|refine sy h ?_)|exact sq|fail
 all_goals try(exfalso;omega)
 refine zi (fun z E ms M'=>∃(G':Nat->Ky),z<=hi /\ ms=[] /\ Has E [(0,.slice (some (p,0)) n f e),(3,cf),(8,I a),(9,I 0),(12,I ((z:Int) - 1))] /\ Sw a (a+hi) G G' /\ Heap a 0 z G' /\ Tail a z hi G' /\ KT M' p n ty G' /\ Keep (fun i=>i=p) M M')
  ?_ hi _ _ _ ⟨G1,Nat.le_refl _,rfl,.cons rfl (.cons rfl (.cons rfl (.cons rfl (.cons rfl .nil)))),hw1,hh1,fun q h1 h2=>by omega,hA1,hk1⟩
 rintro z E ms M3 ⟨G3,hz3,rfl,hE,hw3,hh3,ht3,hA3,hk3⟩
 refine z02 hE ?_
 rcases z with _|i
 case zero =>
  repeat' first|with_reducible intro _|refine sv ?_|refine ss ?_ ?_<;>(intro h;first|exact sz h|refine sy h ?_)|exact sq|fail
  all_goals try(exfalso;omega)
  refine kf ?_
  refine⟨G3,hw3,Tail.srt (by omega) ?_,hA3,hk3⟩
  rwa [show a+hi - a=hi by omega]
 case succ =>
  rw[show(((i+1:Nat):Int) - 1)=(i:Int) by omega]
  have hr1:=z0z hA3 (show a+i < n by omega)
  have hr2:=z0z hA3 (show a < n by omega)
  (have hrd0:=hr1;have hrd1:=hr2;repeat' (first|(with_reducible intro _)|refine sv ?_|refine ss ?_ ?_<;>(intro h;first|exact sz h|refine sy h ?_)|exact sq|fail))
  all_goals try(exfalso;omega)
  have hK:=hA3
  refine d_st (by exact gd) rfl rfl hK rfl rfl (z0r (by omega) (G3 (a+i))) ?_
  intro M7 hU7 e7 hA7
  repeat' first|with_reducible intro _|refine sv ?_|refine ss ?_ ?_<;>(intro h;first|exact sz h|refine sy h ?_)|exact sq|fail
  refine d_st (by exact gd) rfl rfl hA7 rfl rfl (z0r (by omega) (G3 a)) ?_
  intro M8 hU8 e8 hA8
  have hk8:Keep (fun i=>i=p) M M8:=xk
  have hA8:KT M8 p n ty (sw G3 (a+0) (a+i)):=hA8
  have hsw:=hh3.swapped
  have cs:=fun M' (hh:KT M' p n ty (sw G3 (a+0) (a+i)))=>zn0 (f:=f) (e:=e) (lo:=0) (hi:=i) (fs:=a) hh (by omega) hn (by omega) hsw
  repeat' first|with_reducible intro _|refine sv ?_|((with_reducible first|apply zt|apply zz|apply zn);exact gd;exact rfl;exact rfl;(first|exact cs _ (by exact hA8)))|refine ss ?_ ?_<;>(intro h;first|exact sz h|refine sy h ?_)|exact sq|fail
  rename_i w2 M9 hq
  obtain⟨G9,hw9,hh9,hA9,hk9⟩:=hq
  repeat' first|with_reducible intro _|refine sv ?_|refine ss ?_ ?_<;>(intro h;first|exact sz h|refine sy h ?_)|exact sq|fail
  exact zq i (by omega) ⟨G9,by omega,rfl,.cons rfl (.cons rfl (.cons rfl (.cons rfl (.cons rfl .nil)))),(Sw.step hw3 (i:=a+0) (j:=a+i) (by omega) (by omega) (by omega) (by omega)).trans (hw9.wider (by omega) (by omega)),hh9,Tail.step ht3 (by omega) hh3 hw9,hA9,hk8.trans hk9 (fun i hi=>.inl hi)⟩
