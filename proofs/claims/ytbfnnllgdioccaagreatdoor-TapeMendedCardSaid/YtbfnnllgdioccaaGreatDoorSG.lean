/-
 Part of the proof of TapeMended. No condition beyond those in each theorem.
-/
import Derived.Test.YtbfnnllgdioccaaGreatDoorSF
import Derived.Test.YtbfnnllgdioccaaGreatDoorSA
section
open Go PvL Go.Proofs
set_option linter.unusedSimpArgs false
set_option linter.unusedVariables false
variable {μ:Md}
namespace Go.Proofs.YtbfnnllgdioccaaGreatDoor.C
theorem zlq{E:Env}{M:Mem}{x lo:XO}{s:ByteArray}{q:Nat}(hx:xval E x=some (.str s))(hl:xval E lo=some (I (q:Int)))(hq:q<=s.size):ze Tryz.prog (.slS x (some lo) none none) E M=some (.val (.str (s.extract q s.size)) M):=by
 show ob (xval E x) _=_
 rw[hx,z0]
 show ob (ob (xval E lo) _) _=_
 rw[hl,z0,z0]
 show guard' (Nat.ble q s.size) _=_
 rw[show Nat.ble q s.size=true by rw[Nat.ble_eq];exact hq,z6]
set_option maxHeartbeats 16000000 in
theorem zbm{M:Mem}{v:LV}{r:Rl}{a:Option (Nat × Nat)}{l:List Int}{f:Bool}{e:Nat}(hv:RlV M v r)(hin:RlIn r)(hl:SlI M a l)(hll:l.length<=1000000000000000)(hB:Base M)(hp:preOk M tabs=true) :
  CallN Tryz.prog 12 [v,.slice a l.length f e] M (fun q _=>q=.bool true):=by
 have hv0:=hv
 obtain⟨av,fv,ev,rfl,hsf⟩:=hv
 refine z39 k12 rfl ?_
 dsimp only[x12,zM,zO,zI,zF,zS,zB,zL,zA,zE,zN,zW,zC,zipE,Nat.reduceAdd]
 have hpp:∀ M',Grow M M'->preOk M' tabs=true:=fun M' hg=>z8h (Ext.of_grow hg hB) hp
 have cC:=fun M' (hg:Grow M M')=>zcz (hv0.grow hg) hin
 by_cases he:z1r r=0
 case neg =>
  repeat' first|with_reducible intro _|refine sv ?_|refine sc ?_ ?_<;>(intro h;try exact sz h)|((with_reducible first|apply z02|apply z0e|apply d_same0);exact gd;exact rfl;exact rfl;(first|exact zd5 (hpp _ (xg))))|((with_reducible first|apply z13|apply z14|apply d_pure0);exact gd;exact rfl;exact rfl;(first|exact cC _ (xg)))|refine sg ?_ ?_<;>(intro h;first|exact sz h|refine sy h ?_)|exact sq|fail
  all_goals try(exfalso;simp_all;done)
  refine kf ?_
  rfl
 rw[he] at cC
 have cP:=fun k M' (hg:Grow M M')=>zp0 (f:=f) (e:=e) (k:=k) (hl.grow hg) hll
 have cR:=fun x (m:Int) (hm:1<=m /\ m<=1000000000000000) M'=>zh0 x m hm M'
 have hrb:=zax (x:=pickF l 0) (m:=3) (by omega)
 obtain⟨m,hm⟩:∃ m:Nat,1+restF (pickF l 0) 3=(m:Int):=⟨(1+restF (pickF l 0) 3).toNat,by omega⟩
 have hm1:1<=m /\ m<=3:=by omega
 have hfo:=(znx he).1
 have hi128:=(znx he).2.1
 repeat' first|with_reducible intro _|refine sv ?_|refine sc ?_ ?_<;>(intro h;try exact sz h)|((with_reducible first|apply z02|apply z0e|apply d_same0);exact gd;exact rfl;exact rfl;(first|exact cP 0 _ (xg)|exact cR _ 3 (by omega) _))|((with_reducible first|apply z13|apply z14|apply d_pure0);exact gd;exact rfl;exact rfl;(first|exact cC _ (xg)))|refine sg ?_ ?_<;>(intro h;first|exact sz h|refine sy h ?_)|exact sq|fail
 all_goals try(exfalso;simp_all;done)
 rw[hm]
 rename_i n1 M1 A1 A2 A3 M2 A4 A5
 have g2:Grow M M2:=xg
 have a2:At M2 n1 (.cells true [.str r.1,.slice av r.2.length fv ev] 24):=by
  have:At M1 n1 (.cells true [.str r.1,.slice av r.2.length fv ev] 24):=At.new_same A1
  exact At.grow A4 this
 clear A1 A4
 refine zj8 (by exact gd) (zog rfl rfl (Nat.le_refl _) (by omega) (by omega)) ?_
 have hN4:New M2 M2.next (.cells true (rep m [.str ⟨#[]⟩]) 9) (M2.push (.cells true (rep m [.str ⟨#[]⟩]) 9)):=⟨rfl,rfl⟩
 generalize hM4:M2.push (.cells true (rep m [.str ⟨#[]⟩]) 9)=M4 at hN4 ⊢
 generalize hnb:M2.next=b at hN4
 have hb4:=At.new_same hN4
 have a4:=At.new_old hN4 a2
 have g4:=g2.trans hN4.grow
 have hnb0:n1 < b:=by have:=a2.2;omega
 have hMb:M.next<=b:=by have:=g2.le;omega
 rw[zis,show List.replicate m (LV.str ⟨#[]⟩)=(List.replicate m ([]:List UInt8)).map stc by rw[List.map_replicate];rfl] at hb4
 rw[show Nat.beq m m=true by simp]
 clear hN4 hM4 a2 g2 cC
 repeat' first|with_reducible intro _|refine sv ?_|refine sc ?_ ?_<;>(intro h;try exact sz h)|refine sg ?_ ?_<;>(intro h;first|exact sz h|refine sy h ?_)|exact sq|fail
 refine z9 (fun z E ms M'=>∃(i:Nat) (C:List (List UInt8)),z=r.2.length - i /\ i<=r.2.length /\ ms=[] /\ Has E [(1,.slice a l.length f e),(2,.ptr (some (n1,0))),(5,I m),(6,.slice (some (b,0)) m true 1),(7,I i)] /\
   C.length=m /\ (∀ k (hk:k < C.length),CpI r m i k C[k]) /\ At M' b (.cells true (C.map stc) 9) /\ At M' n1 (.cells true [.str r.1,.slice av r.2.length fv ev] 24) /\ Grow M M')
  ?_ (r.2.length - 0) _ _ _ ⟨0,List.replicate m [],rfl,Nat.zero_le _,rfl,.cons rfl (.cons rfl (.cons rfl (.cons rfl (.cons rfl .nil)))),List.length_replicate,fun k hk=>by rw[List.getElem_replicate];exact CpI.zero r m k,hb4,a4,g4⟩
 clear hb4 a4 g4
 rintro z E ms N ⟨i,C,rfl,hi,rfl,hE,hC,hCI,hcb,har,hg⟩
 refine z0b hE ?_
 clear hE
 by_cases hlast:i=r.2.length
 ·subst hlast
  repeat' first|with_reducible intro _|refine sv ?_|refine sc ?_ ?_<;>(intro h;try exact sz h)|refine sg ?_ ?_<;>(intro h;first|exact sz h|refine sy h ?_)|exact sq|fail
  refine z9 (fun z E ms M'=>∃(k:Nat),z=m - k /\ k<=m /\ ms=[] /\ Has E [(2,.ptr (some (n1,0))),(5,I m),(6,.slice (some (b,0)) m true 1),(12,I k)] /\ (∀ j (hj:j < C.length),j < k->C[j].length<=65536) /\ M'=N)
   ?_ (m - 0) _ _ _ ⟨0,rfl,Nat.zero_le _,rfl,.cons rfl (.cons rfl (.cons rfl (.cons rfl .nil))),fun j hj h=>absurd h (Nat.not_lt_zero _),rfl⟩
  rintro z E ms N2 ⟨k,rfl,hk,rfl,hE,hall,rfl⟩
  refine z0b hE ?_
  clear hE
  by_cases hlastk:k=m
  ·subst hlastk
   have hsS:SlS N2 (some (b,0)) (C.map strL):=.inr ⟨b,0,rfl,fun j hj=>by
    have hj':j < C.length:=by simpa using hj
    have h1:=z1v (enc:=fun c=>[stc c]) (l:=C) (by rw[z74];exact hcb) (fun _ _=>rfl) hj'
    rw[List.getElem_map]
    exact z6u h1⟩
   have hrep:=zkw he hm1 hC hCI (fun j hj=>hall j hj (by omega))
   have hrP:=fun M' (hh:Grow N2 M')=>zjs (n:=r.1) (f:=true) (e:=1) (hsS.grow hh) hin.1 (by rw[List.length_map];omega) (fun s hs=>by
    obtain⟨c,hc1,rfl⟩:=List.mem_map.1 hs
    obtain⟨j,hj,rfl⟩:=List.getElem_of_mem hc1
    have:=hall j hj (by omega)
    show C[j].length<=_;omega)
   rw[hrep,List.length_map,hC] at hrP
   have hr0:Rd1 N2 n1 (0+0) (.str r.1):=Rd1.of_at har rfl
   have hgl:=hg.le
   (have hrd0:=hr0;repeat' (first|(with_reducible intro _)|refine sv ?_|(refine sc ?_ ?_<;>(intro h;try exact sz h))|refine sg ?_ ?_<;>(intro h;first|exact sz h|refine sy h ?_)|exact sq|fail))
   refine z8q (by exact gd) rfl rfl (hrP _ (Grow.refl _)) ?_
   rintro w3 M3 ⟨v3,rfl,hv3,hg3⟩
   have hv3:RlV M3 v3 r:=hv3
   have har3:=At.grow hg3 har
   have g3:=hg.trans hg3
   have hgl3:=g3.le
   obtain⟨a3,f3,e3,rfl,hs3⟩:=id hv3
   obtain⟨p1,p2,p3,p4⟩:=zkz he
   clear hrP hr0 hg hg3 har hcb
   repeat' first|with_reducible intro _|refine sv ?_|refine sc ?_ ?_<;>(intro h;try exact sz h)|refine sg ?_ ?_<;>(intro h;first|exact sz h|refine sy h ?_)|exact sq|fail
   rename_i n5 M5 B1 B2 B3 M6 B4 B5 B6
   have hg36:Grow M3 M6:=xg
   have har6:=At.upd_ne B4 (show n1 ≠ n5 by have:=har3.2;omega) (At.new_old B1 har3)
   have g6:=g3.trans hg36
   have hv6:=hv3.grow hg36
   have hvr6:=hv0.grow g6
   have hgl6:=g6.le
   have hrd6:Rd M6 n1 0 2 [.str r.1,.slice av r.2.length fv ev]:=Rd.of_at har6 rfl
   clear B1 B4 g3 hg36
   have cS:=fun M' (hg:Grow M6 M')=>zfp (hv6.grow hg) (hvr6.grow hg) (by omega) (fun z hz=>by have:=(z4w (p1 z hz)).2;omega)
   have hpp6:∀ M',Grow M6 M'->preOk M' tabs=true:=fun M' hg=>hpp _ (g6.trans hg)
   clear g6
   (have hrd0:=hrd6;repeat' (first|(with_reducible intro _)|refine sv ?_|(refine sc ?_ ?_<;>(intro h;try exact sz h))|((with_reducible first|apply z02|apply z0e|apply d_same0);exact gd;exact rfl;exact rfl;(first|exact zd5 (hpp6 _ (xg))))|((with_reducible first|apply z13|apply z14|apply d_pure0);exact gd;exact rfl;exact rfl;(first|exact cS _ (xg)))|refine sg ?_ ?_<;>(intro h;first|exact sz h|refine sy h ?_)|exact sq|fail))
   all_goals try(exfalso;simp_all;done)
   refine kf ?_
   rfl
  have hkm:k < m:=by omega
  have hkD:k < C.length:=by omega
  have hrdk:Rd1 N2 b (0+k*1) (.str (strL C[k])):=by
   have h1:=z1v (enc:=fun c=>[stc c]) (l:=C) (by rw[z74];exact hcb) (fun _ _=>rfl) hkD
   exact z6u h1
  have hkl:C[k].length<=100001*r.2.length:=by obtain⟨_,_,_,_,h⟩:=hCI k hkD;exact h
  have hsz:(strL C[k]).size=C[k].length:=rfl
  (have hrd0:=hrdk;repeat' (first|(with_reducible intro _)|refine sv ?_|(refine sc ?_ ?_<;>(intro h;try exact sz h))|((with_reducible first|apply z02|apply z0e|apply d_same0);exact gd;exact rfl;exact rfl;(first|exact zd5 (hpp _ hg)))|refine sg ?_ ?_<;>(intro h;first|exact sz h|refine sy h ?_)|exact sq|fail))
  ·refine kf ?_
   rfl
  ·refine zf (m - (k+1)) (by omega) ⟨k+1,rfl,by omega,rfl,.cons rfl (.cons rfl (.cons rfl (.cons rfl .nil))),fun j hj hjk=>?_,rfl⟩
   by_cases h:j=k
   ·subst h;omega
   ·exact hall j hj (by omega)
 have hlt:i < r.2.length:=by omega
 obtain⟨i',o,bq,gq,uq,rfl,hrd,hfv⟩:=(hsf.grow hg).rd hlt
 have hxm:fe r.2 i ∈ r.2:=by rw[z71 hlt];exact List.getElem_mem hlt
 have hfb:=hfo _ hxm
 have cK:=fun M' (hh:Grow N M')=>zd1 (hfv.grow hh) (hin.fr hlt)
 have hpk:pfF (fe r.2 i)=(pkL (fe r.2 i),0):=by unfold pfF;rw[if_pos hfb]
 rw[hpk] at cK
 have hpl:=zim (z4w hfb).2
 have hpp0:=zm9 (fe r.2 i)
 have hrl:Rd1 N n1 (0+1) (.slice (some (i',o)) r.2.length fv ev):=Rd1.of_at har rfl
 have hbn:=hcb.2
 have hgl:=hg.le
 (have hrd0:=hrd;have hrd1:=hrl;repeat' (first|(with_reducible intro _)|refine sv ?_|(refine sc ?_ ?_<;>(intro h;try exact sz h))|refine sg ?_ ?_<;>(intro h;first|exact sz h|refine sy h ?_)|exact sq|fail))
 refine zu gd rfl rfl (cK N (Grow.refl _)) ?_
 rintro w1 N1 ⟨rfl,hg1⟩
 have hcb1:=At.grow hg1 hcb
 have har1:=At.grow hg1 har
 have hgg:=hg.trans hg1
 clear hcb har hg cK hrl hrd hfv
 repeat' first|with_reducible intro _|refine sv ?_|refine sc ?_ ?_<;>(intro h;try exact sz h)|refine sg ?_ ?_<;>(intro h;first|exact sz h|refine sy h ?_)|exact sq|fail
 refine z9 (fun z E ms M'=>∃(k:Nat) (D:List (List UInt8)),z=m - k /\ k<=m /\ ms=[] /\ Has E [(1,.slice a l.length f e),(2,.ptr (some (n1,0))),(5,I m),(6,.slice (some (b,0)) m true 1),(7,I i),(8,.str (strL (pkL (fe r.2 i)))),(10,I k)] /\
   D.length=m /\ (∀ j (hj:j < D.length),CpI r m (if j < k then i+1 else i) j D[j]) /\ At M' b (.cells true (D.map stc) 9) /\ At M' n1 (.cells true [.str r.1,.slice (some (i',o)) r.2.length fv ev] 24) /\ Grow M M')
  ?_ (m - 0) _ _ _ ⟨0,C,rfl,Nat.zero_le _,rfl,.cons rfl (.cons rfl (.cons rfl (.cons rfl (.cons rfl (.cons rfl (.cons rfl .nil)))))),hC,fun k hk=>by rw[if_neg (Nat.not_lt_zero _)];exact hCI k hk,hcb1,har1,hgg⟩
 clear hcb1 har1 hgg hC hCI
 rintro z E ms N2 ⟨k,D,rfl,hk,rfl,hE,hD,hDI,hcb,har,hg⟩
 refine z0b hE ?_
 clear hE
 have hgl2:=hg.le
 by_cases hlastk:k=m
 ·subst hlastk
  repeat' first|with_reducible intro _|refine sv ?_|refine sc ?_ ?_<;>(intro h;try exact sz h)|refine sg ?_ ?_<;>(intro h;first|exact sz h|refine sy h ?_)|exact sq|fail
  refine zf (r.2.length - (i+1)) (by omega) ⟨i+1,D,rfl,by omega,rfl,.cons rfl (.cons rfl (.cons rfl (.cons rfl (.cons rfl .nil)))),hD,fun j hj=>?_,hcb,har,hg⟩
  have:=hDI j hj
  rw[if_pos (by omega)] at this
  exact this
 have hkm:k < m:=by omega
 have hkD:k < D.length:=by omega
 have hck:=hDI k hkD
 rw[if_neg (by omega)] at hck
 have hkl:D[k].length<=100001*i:=by obtain⟨_,_,_,_,h⟩:=hck;exact h
 have hrdk:Rd1 N2 b (0+k*1) (.str (strL D[k])):=by
  have h1:=z1v (enc:=fun c=>[stc c]) (l:=D) (by rw[z74];exact hcb) (fun _ _=>rfl) hkD
  exact z6u h1
 have hszp:(strL (pkL (fe r.2 i))).size=(pkL (fe r.2 i)).length:=rfl
 have hqb:=zax (x:=pickF l k) (m:=((strL (pkL (fe r.2 i))).size:Int)) (by omega)
 obtain⟨q,hq⟩:∃ q:Nat,restF (pickF l k) ((strL (pkL (fe r.2 i))).size:Int)=(q:Int):=⟨(restF (pickF l k) ((strL (pkL (fe r.2 i))).size:Int)).toNat,by omega⟩
 have cRq:=fun M'=>zh0 (pickF l k) ((strL (pkL (fe r.2 i))).size:Int) (by omega) M'
 rw[hq] at cRq hqb
 have hxs:((strL (pkL (fe r.2 i))).extract q (strL (pkL (fe r.2 i))).size).size=(strL (pkL (fe r.2 i))).size - q:=by rw[ByteArray.size_extract];omega
 have cH:=fun M'=>zfo (M:=M') (s:=(strL (pkL (fe r.2 i))).extract q (strL (pkL (fe r.2 i))).size) (by omega) (by omega)
 have hHm:=zne ((strL (pkL (fe r.2 i))).extract q (strL (pkL (fe r.2 i))).size)
 have hHl:=zem ((strL (pkL (fe r.2 i))).extract q (strL (pkL (fe r.2 i))).size)
 generalize harmL ((strL (pkL (fe r.2 i))).extract q (strL (pkL (fe r.2 i))).size)=hh at *
 (have hrd0:=hrdk;repeat' (first|(with_reducible intro _)|refine sv ?_|(refine sc ?_ ?_<;>(intro h;try exact sz h))|((with_reducible first|apply z02|apply z0e|apply d_same0);exact gd;exact rfl;exact rfl;(first|exact cP _ _ (xg)|exact cRq _|exact cR _ _ (by omega) _))|refine sg ?_ ?_<;>(intro h;first|exact sz h|refine sy h ?_)|exact sq|fail))
 rotate_left
 iterate 2
  refine z36 (by exact gd) (z8r (s:=strL D[k]) (t:=strL (pkL (fe r.2 i))) rfl rfl (by show D[k].length+(pkL (fe r.2 i)).length<=_;omega)) ?_
  repeat' first|with_reducible intro _|refine sv ?_|refine sc ?_ ?_<;>(intro h;try exact sz h)|refine sg ?_ ?_<;>(intro h;first|exact sz h|refine sy h ?_)|exact sq|fail
  refine x_st (by exact gd) rfl rfl hcb rfl rfl (zdt hkD (pkL (fe r.2 i)) rfl) ?_
  intro N7 D1 D2 D3
  have g7:Grow M N7:=hg.upd D1 (by omega)
  repeat' first|with_reducible intro _|refine sv ?_|refine sc ?_ ?_<;>(intro h;try exact sz h)|refine sg ?_ ?_<;>(intro h;first|exact sz h|refine sy h ?_)|exact sq|fail
  exact zf (m - (k+1)) (by omega) ⟨k+1,_,rfl,by omega,rfl,.cons rfl (.cons rfl (.cons rfl (.cons rfl (.cons rfl (.cons rfl (.cons rfl .nil)))))),by rw[List.length_set];exact hD,zda hDI (hck.fr hfo hlt),D3,At.upd_ne D1 (by omega) har,g7⟩
 have hne:¬(k:Int)=(i:Int) % (m:Int):=by assumption
 refine z36 (by exact gd) (zlq rfl rfl (by omega)) ?_
 refine zu gd rfl rfl (cH _) ?_
 rintro w4 N4 ⟨rfl,hg4⟩
 have g4:=hg.trans hg4
 have hcb4:=At.grow hg4 hcb
 have har4:=At.grow hg4 har
 have hrdk4:=hrdk.grow hg4
 have hgl4:=g4.le
 clear hg hg4 hcb har hrdk cH cRq
 (have hrd0:=hrdk4;repeat' (first|(with_reducible intro _)|refine sv ?_|(refine sc ?_ ?_<;>(intro h;try exact sz h))|((with_reducible first|apply z02|apply z0e|apply d_same0);exact gd;exact rfl;exact rfl;(first|exact cP _ _ (xg)|exact cR _ _ (by omega) _))|refine sg ?_ ?_<;>(intro h;first|exact sz h|refine sy h ?_)|exact sq|fail))
 ·have hx1:(⟨#[120]⟩:ByteArray) ++ strL hh=strL (120 :: hh):=by
   show strL [120] ++ strL hh=_
   rw[zfb];rfl
  refine z36 (by exact gd) (z8r (s:=⟨#[120]⟩) (t:=strL hh) rfl rfl (by show 1+hh.length<=_;omega)) ?_
  (have hrd0:=hrdk4;repeat' (first|(with_reducible intro _)|refine sv ?_|(refine sc ?_ ?_<;>(intro h;try exact sz h))|refine sg ?_ ?_<;>(intro h;first|exact sz h|refine sy h ?_)|exact sq|fail))
  refine z36 (by exact gd) (z8r (s:=strL D[k]) (t:=(⟨#[120]⟩:ByteArray) ++ strL hh) rfl rfl (by rw[hx1];show D[k].length+(120 :: hh).length<=_;rw[List.length_cons];omega)) ?_
  repeat' first|with_reducible intro _|refine sv ?_|refine sc ?_ ?_<;>(intro h;try exact sz h)|refine sg ?_ ?_<;>(intro h;first|exact sz h|refine sy h ?_)|exact sq|fail
  refine x_st (by exact gd) rfl rfl hcb4 rfl rfl (zdt hkD (120 :: hh) hx1) ?_
  intro N7 D1 D2 D3
  have g7:Grow M N7:=g4.upd D1 (by omega)
  repeat' first|with_reducible intro _|refine sv ?_|refine sc ?_ ?_<;>(intro h;try exact sz h)|refine sg ?_ ?_<;>(intro h;first|exact sz h|refine sy h ?_)|exact sq|fail
  exact zf (m - (k+1)) (by omega) ⟨k+1,_,rfl,by omega,rfl,.cons rfl (.cons rfl (.cons rfl (.cons rfl (.cons rfl (.cons rfl (.cons rfl .nil)))))),by rw[List.length_set];exact hD,zda hDI (hck.junk (fun b hb=>by rcases List.mem_cons.1 hb with rfl|hb;exact(by decide);exact hHm b hb) (fun h=>hne h.symm) (by rw[List.length_cons];omega)),D3,At.upd_ne D1 (by omega) har4,g7⟩
 ·refine z36 (by exact gd) (z8r (s:=strL D[k]) (t:=strL hh) rfl rfl (by show D[k].length+hh.length<=_;omega)) ?_
  repeat' first|with_reducible intro _|refine sv ?_|refine sc ?_ ?_<;>(intro h;try exact sz h)|refine sg ?_ ?_<;>(intro h;first|exact sz h|refine sy h ?_)|exact sq|fail
  refine x_st (by exact gd) rfl rfl hcb4 rfl rfl (zdt hkD hh rfl) ?_
  intro N7 D1 D2 D3
  have g7:Grow M N7:=g4.upd D1 (by omega)
  repeat' first|with_reducible intro _|refine sv ?_|refine sc ?_ ?_<;>(intro h;try exact sz h)|refine sg ?_ ?_<;>(intro h;first|exact sz h|refine sy h ?_)|exact sq|fail
  exact zf (m - (k+1)) (by omega) ⟨k+1,_,rfl,by omega,rfl,.cons rfl (.cons rfl (.cons rfl (.cons rfl (.cons rfl (.cons rfl (.cons rfl .nil)))))),by rw[List.length_set];exact hD,zda hDI (hck.junk hHm (fun h=>hne h.symm) (by omega)),D3,At.upd_ne D1 (by omega) har4,g7⟩
