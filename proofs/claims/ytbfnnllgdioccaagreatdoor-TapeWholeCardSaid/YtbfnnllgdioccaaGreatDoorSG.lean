/-
 Part of the proof of TapeWhole. No condition beyond those in each theorem.
-/
import Derived.Test.YtbfnnllgdioccaaGreatDoorSF
section
open Go PvL Go.Proofs
set_option linter.unusedSimpArgs false
set_option linter.unusedVariables false
variable {μ:Md}
namespace Go.Proofs.YtbfnnllgdioccaaGreatDoor.C
theorem zls{L:List Fr}(h:FrOk L):(z20 L).length<=L.length:=by
 have h1:=(znl h.k).len
 have h2:=zci L
 omega
theorem zkk{S:List Sg}(hS:∀ z ∈ S,Hm z.1 /\ frB z.2=true)(hl:(S.flatMap sgB).length<=65536)(hn:S.length<=40):salP (strL (S.flatMap sgB))=((z20 (S.map (·.2)),lostS 0 S),0):=by
 have hok:FrOk (S.map (·.2)):=fun x hx=>by
  obtain⟨z,h1,rfl⟩:=List.mem_map.1 hx
  exact(hS z h1).2
 have h1:=zls hok
 rw[List.length_map] at h1
 have h2:(strL (S.flatMap sgB)).size=(S.flatMap sgB).length:=rfl
 unfold salP
 rw[zkz hS,if_neg (by omega),if_neg (by show ¬ 128 <(z20 (S.map (·.2))).length;omega)]
theorem z87:∀(S:List Sg) (p:Nat),(lostS p S).length<=S.length
 | [],_=>Nat.le_refl _
 | z :: S,p=>by
  show(_ ++ lostS _ S).length<=_
  have:=z87 S (p+(sgB z).length)
  rw[List.length_append,List.length_cons]
  split<;>simp<;>omega
theorem z69(S:List Sg)(z:Sg):lostS 0 (S ++ [z])=lostS 0 S ++(if z.1.length=0 then [] else [(((S.flatMap sgB).length:Int),((S.flatMap sgB).length:Int)+(z.1.length:Int) - 1)]):=by
 rw[zca,Nat.zero_add]
 show _ ++(_ ++ lostS _ [])=_
 rw[show lostS ((S.flatMap sgB).length+(sgB z).length) []=[] from rfl,List.append_nil]
theorem z7r(S:List Sg)(z:Sg):(S ++ [z]).flatMap sgB=S.flatMap sgB ++ z.1 ++ pkL z.2:=by
 rw[List.flatMap_append,List.append_assoc]
 simp[sgB]
set_option maxHeartbeats 32000000 in
theorem zd2{M:Mem}{a b:Option (Nat × Nat)}{L:List Fr}{K:List ByteArray}{f fb:Bool}(hs:FsV M a L)(hL:L.length<=1000000000000000)(hin:∀ x ∈ L,FrIn x)(hk:SlS M b K)(hK:K.length<=1000000000000000)(hKs:∀ s ∈ K,s.size<=140737488351232)(hB:Base M)(hp:preOk M tabs=true) :
  CallN Tryz.prog 10 [.slice a L.length f 3,.slice b K.length fb 1] M (fun r _=>r=.bool true):=by
 refine z3b k10 rfl ?_
 dsimp only[x10,zM,zO,zI,zF,zS,zB,zL,zA,zE,zN,zW,zC,zipE,Nat.reduceAdd]
 have hpp:∀ M',Grow M M'->preOk M' tabs=true:=fun M' hg=>z8g (Ext.of_grow hg hB) hp
 obtain⟨n,hn,hn40,hnL⟩:∃ n:Nat,iMin (L.length:Int) 40=(n:Int) /\ n<=40 /\ n<=L.length:=⟨min L.length 40,by unfold iMin;omega,by omega,by omega⟩
 repeat' first|with_reducible intro _|refine sv ?_|refine sc ?_ ?_<;>(intro h;try exact sz h)|refine sg ?_ ?_<;>(intro h;first|exact sz h|refine sy h ?_)|exact sq|fail
 rw[hn]
 obtain⟨a',f',e',hxs0,hT⟩:=zoa (E:=[(19,LV.int IntKind.i64 n),(18,LV.int IntKind.i64 L.length),(17,LV.slice a L.length f 3),(16,LV.slice a L.length f 3),(4,LV.bool false),(0,LV.slice a L.length f 3),(1,LV.slice b K.length fb 1)]) (x:=.t 16) (hi:=.t 19) hs rfl rfl hnL
 have hTl:(L.take n).length=n:=by rw[List.length_take];omega
 have hTin:∀ x ∈ L.take n,FrIn x:=fun x hx=>hin x (List.mem_of_mem_take hx)
 refine z3m (by exact gd) hxs0 ?_
 clear hxs0 hn
 generalize L.take n=T at *
 obtain rfl:=hTl
 repeat' first|with_reducible intro _|refine sv ?_|refine sc ?_ ?_<;>(intro h;try exact sz h)|refine sg ?_ ?_<;>(intro h;first|exact sz h|refine sy h ?_)|exact sq|fail
 refine z9 (fun z E ms M'=>∃(i:Nat) (S:List Sg) (xs:List FW) (v6 v7:LV),z=T.length - i /\ i<=T.length /\ ms=[] /\ Has E [(0,.slice a' T.length f' e'),(1,.slice b K.length fb 1),(5,.str (strL (S.flatMap sgB))),(6,v6),(7,v7),(8,I i)] /\
   S.map (·.2)=T.take i /\ (∀ z ∈ S,Hm z.1 /\ frB z.2=true) /\ (S.flatMap sgB).length<=65536 /\ Vec M.next 3 48 fwc M' v6 xs /\ FwLB M.next M' xs (T.take i) /\ Vec M.next 2 65 bdc M' v7 (lostS 0 S) /\ (∀ i,NV v6 i->¬ NV v7 i) /\ Grow M M')
  ?_ (T.length - 0) _ _ _ ⟨0,[],[],_,_,rfl,Nat.zero_le _,rfl,.cons rfl (.cons rfl (.cons rfl (.cons rfl (.cons rfl (.cons rfl .nil))))),rfl,(fun _ h=>nomatch h),Nat.zero_le _,Vec.nil,.nil,Vec.nil,(fun i h=>absurd h NV.nil),Grow.refl _⟩
 rintro z E ms N ⟨i,S,xs,v6,v7,rfl,hi,rfl,hE,hSm,hS,hSl,Nv6,Nx,Nv7,hdj,Ng⟩
 refine z0d hE ?_
 clear hE
 have hSn:S.length=i:=by
  have:=congrArg List.length hSm
  rw[List.length_map,List.length_take] at this;omega
 by_cases hlast:i=T.length
 ·subst hlast
  repeat' first|with_reducible intro _|refine sv ?_|refine sc ?_ ?_<;>(intro h;try exact sz h)|refine sg ?_ ?_<;>(intro h;first|exact sz h|refine sy h ?_)|exact sq|fail
  rw[List.take_length] at hSm Nx
  have hTok:FrOk T:=fun x hx=>by
   rw[<-hSm] at hx
   obtain⟨z,h1,rfl⟩:=List.mem_map.1 hx
   exact(hS z h1).2
  have hsal:=zkk hS hSl (by omega)
  rw[hSm] at hsal
  have hss:(strL (S.flatMap sgB)).size=(S.flatMap sgB).length:=rfl
  have cSal:=zgo (s:=strL (S.flatMap sgB)) (M:=N) (by omega)
  rw[hsal] at cSal
  dsimp only at cSal
  have hjl:=zls hTok
  have hll:=z87 S 0
  refine z8p gd rfl rfl cSal ?_
  rintro w8 M8 ⟨a8,f8,e8,v8,rfl,hf8,hv8,hg8⟩
  have hf8:FsV M8 a8 (z20 T):=hf8.to
  have hp8:PrV M8 v8 (lostS 0 S):=PrV.vec hv8
  have g8:=Ng.trans hg8
  have hgl8:=g8.le
  obtain⟨a6,f6,e6,rfl,hfs6⟩:=zp8 (Nv6.grow hg8) (Nx.grow hg8 (Nat.le_refl _)).l
  have hp7:=PrV.vec (Nv7.grow hg8)
  obtain⟨b7,bf7,be7,rfl,hsp7⟩:=id hp7
  obtain⟨b8,bf8,be8,rfl,hsp8⟩:=id hp8
  clear cSal hg8 Ng Nv6 Nv7 Nx
  have cB:=zmq (M:=M8) hp8 hp7 (by omega)
  repeat' first|with_reducible intro _|refine sv ?_|refine sc ?_ ?_<;>(intro h;try exact sz h)|((with_reducible first|apply z0r|apply z1b|apply d_same0);exact gd;exact rfl;exact rfl;(first|exact cB|exact z7e (hpp _ g8)))|refine sg ?_ ?_<;>(intro h;first|exact sz h|refine sy h ?_)|exact sq|fail
  all_goals try(exfalso;omega)
  refine z9 (fun z E ms M'=>∃(k:Nat),z=T.length - k /\ k<=T.length /\ ms=[] /\ Has E [(6,.slice a6 T.length f6 e6),(12,.slice a8 (z20 T).length f8 e8),(15,I k)] /\ Grow M8 M')
   ?_ (T.length - 0) _ _ _ ⟨0,rfl,Nat.zero_le _,rfl,.cons rfl (.cons rfl (.cons rfl .nil)),Grow.refl _⟩
  rintro z E ms N9 ⟨k,rfl,hk9,rfl,hE,hg9⟩
  refine z0d hE ?_
  clear hE
  have g9:=g8.trans hg9
  have hgl9:=g9.le
  by_cases hlastk:k=T.length
  ·subst hlastk
   repeat' first|with_reducible intro _|refine sv ?_|refine sc ?_ ?_<;>(intro h;try exact sz h)|((with_reducible first|apply z0r|apply z1b|apply d_same0);exact gd;exact rfl;exact rfl;(first|exact z7e (hpp _ g9)))|refine sg ?_ ?_<;>(intro h;first|exact sz h|refine sy h ?_)|exact sq|fail
   refine kf ?_
   rfl
  have hkT:k < T.length:=by omega
  obtain⟨i9,o9,b9,q9,u9,rfl,hrd9,hfv9⟩:=FsV.rd (hfs6.grow hg9) hkT
  have hmem:fe T k ∈ T:=by rw[z4v hkT];exact List.getElem_mem hkT
  have cH:=zmp (f:=f8) (e:=e8) (hf8.grow hg9) (zhe hTok) hfv9 (hTok _ hmem) (zfp hTok hmem) (by omega)
  (have hrd0:=hrd9;repeat' (first|(with_reducible intro _)|refine sv ?_|(refine sc ?_ ?_<;>(intro h;try exact sz h))|((with_reducible first|apply zq|apply z0b|apply x_call0);exact gd;exact rfl;exact rfl;(first|exact cH))|refine sg ?_ ?_<;>(intro h;first|exact sz h|refine sy h ?_)|exact sq|fail))
  all_goals try(exfalso;simp_all;done)
  rename_i M10 hq
  obtain⟨rfl,hg10⟩:=hq
  have hg11:=hg9.trans hg10
  clear hg9 hg10 g9
  repeat' first|with_reducible intro _|refine sv ?_|refine sc ?_ ?_<;>(intro h;try exact sz h)|refine sg ?_ ?_<;>(intro h;first|exact sz h|refine sy h ?_)|exact sq|fail
  all_goals try(exfalso;simp_all;done)
  exact zj (T.length - (k+1)) (by omega) ⟨k+1,rfl,by omega,rfl,.cons rfl (.cons rfl (.cons rfl .nil)),hg11⟩
 have hlt:i < T.length:=by omega
 obtain⟨i',o,bq,gq,uq,rfl,hrd,hsk⟩:=FsV.at hT hlt
 have hfB:=zp7 (g:=gq) (u:=uq) hsk
 have hfv:FrV M (.agg [I (fe T i).1,I (fe T i).2.1,.slice bq (fe T i).2.2.length gq uq]) (fe T i):=⟨_,_,_,rfl,hsk⟩
 have hfin:FrIn (fe T i):=by rw[z4v hlt];exact hTin _ (List.getElem_mem hlt)
 have hrdN:=hrd.grow Ng
 have cK:=zd0 (hfv.grow Ng) hfin
 have hxl:xs.length<=40:=by
  have:=Nx.len
  rw[List.length_take] at this;omega
 have hll:=z87 S 0
 (have hrd0:=hrdN;repeat' (first|(with_reducible intro _)|refine sv ?_|(refine sc ?_ ?_<;>(intro h;try exact sz h))|refine sg ?_ ?_<;>(intro h;first|exact sz h|refine sy h ?_)|exact sq|fail))
 refine zq gd rfl rfl cK ?_
 rintro w1 N1 ⟨rfl,hg1⟩
 have g1:=Ng.trans hg1
 have v61:=Nv6.grow hg1
 have v71:=Nv7.grow hg1
 have x1:=Nx.grow hg1 (Nat.le_refl _)
 have hgl1:=g1.le
 clear hrdN cK Ng hg1 Nv6 Nv7 Nx
 by_cases hfb:frB (fe T i)=true
 case neg =>
  rw[show pfF (fe T i)=([],80) by unfold pfF;rw[if_neg hfb]]
  repeat' first|with_reducible intro _|refine sv ?_|refine sc ?_ ?_<;>(intro h;try exact sz h)|((with_reducible first|apply z0r|apply z1b|apply d_same0);exact gd;exact rfl;exact rfl;(first|exact z7e (hpp _ g1)))|refine sg ?_ ?_<;>(intro h;first|exact sz h|refine sy h ?_)|exact sq|fail
  refine kf ?_
  rfl
 rw[show pfF (fe T i)=(pkL (fe T i),0) by unfold pfF;rw[if_pos hfb]]
 have hsp:(strL (pkL (fe T i))).size=(pkL (fe T i)).length:=rfl
 have hsp2:(strL ((pkL (fe T i),(0:Int)).1)).size=(pkL (fe T i)).length:=rfl
 have hss:(strL (S.flatMap sgB)).size=(S.flatMap sgB).length:=rfl
 have hpl:=zng (z68 hfb).2
 by_cases hiK:i < K.length
 ·obtain⟨i2,o2,rfl,hrk⟩:=(hk.grow g1).rd hiK
  have hKi:=hKs _ (List.getElem_mem hiK)
  have hHm:=zn2 K[i]
  have hHl:=zeb K[i]
  have cH:=fun M'=>zfc (M:=M') (s:=K[i]) (by omega)
  generalize harmL K[i]=X at *
  have hsx:(strL X).size=X.length:=rfl
  (have hrd0:=hrk;repeat' (first|(with_reducible intro _)|refine sv ?_|(refine sc ?_ ?_<;>(intro h;try exact sz h))|refine sg ?_ ?_<;>(intro h;first|exact sz h|refine sy h ?_)|exact sq|fail))
  refine zq gd rfl rfl (cH _) ?_
  rintro w2 N2 ⟨rfl,hg2⟩
  have Rg:=g1.trans hg2
  have Rv6:=v61.grow hg2
  have Rv7:=v71.grow hg2
  have Rx:=x1.grow hg2 (Nat.le_refl _)
  have hgl2:=Rg.le
  clear hrk cH g1 v61 v71 x1 hg2
  repeat' first|with_reducible intro _|refine sv ?_|refine sc ?_ ?_<;>(intro h;try exact sz h)|((with_reducible first|apply z0r|apply z1b|apply d_same0);exact gd;exact rfl;exact rfl;(first|exact z7e (hpp _ Rg)))|refine sg ?_ ?_<;>(intro h;first|exact sz h|refine sy h ?_)|exact sq|fail
  ·refine kf ?_
   rfl
  ·rename_i m3 N3 B1 B2 B3 m4 N4 B4 B5 B6
   have hbf:=za7 (x:=(((strL (S.flatMap sgB)).size:Int),((strL (S.flatMap sgB)).size:Int)+((strL X).size:Int) - 1)) B4
   have Tg:Grow M N4:=xg
   have hg24:Grow N2 N4:=xg
   have hv74:=Rv7.grow hg24
   have hv64:=Rv6.grow hg24
   have hx4:=Rx.grow hg24 (Nat.le_refl _)
   have hgl4:=Tg.le
   clear B1 B4 Rv7 Rv6 Rx hg24 Rg
   refine z2b (by exact gd) (l':=[(((strL (S.flatMap sgB)).size:Int),((strL (S.flatMap sgB)).size:Int)+((strL X).size:Int) - 1)]) hv74 rfl rfl rfl (by simp) (by simp;omega) rfl hbf (fun _=>rfl) (fun _=>rfl) hgl4 ?_
   rintro v9 M9 Qv7 e9 k9 ⟨n9,f9,q9,rfl⟩
   have Qv6:=Vec.keepN hv64 k9 (fun i hi h=>hdj i h hi.2)
   have Qx:=hx4.keep k9 (fun i hi=>hi.1) (Nat.le_refl _)
   have Qg:Grow M M9:=Keep.to_grow' Tg k9 (fun i hi=>hi.1)
   have hdj2:∀ i,NV v6 i->¬ NV (.slice (some (N4.next,0)) n9 f9 q9) i:=fun i h1 h2=>by
    have:=NV.some h2
    have:=NV.lt hv64 h1
    omega
   have hgl9:=Qg.le
   have hXl:X.length ≠ 0:=by omega
   clear k9 hv74 hv64 hx4 Tg
   repeat' first|with_reducible intro _|refine sv ?_|refine sc ?_ ?_<;>(intro h;try exact sz h)|refine sg ?_ ?_<;>(intro h;first|exact sz h|refine sy h ?_)|exact sq|fail
   refine z3m (by exact gd) (zb4 (s:=strL (S.flatMap sgB) ++ strL X) (t:=strL (pkL (fe T i))) rfl rfl (by rw[z25];show(S.flatMap sgB ++ X).length+(pkL (fe T i)).length<=_;rw[List.length_append];(try simp only[List.length_nil]);omega)) ?_
   rw[z25,z25]
   have hrdF:=hrd.grow Qg
   (have hrd0:=hrdF;repeat' (first|(with_reducible intro _)|refine sv ?_|(refine sc ?_ ?_<;>(intro h;try exact sz h))|refine sg ?_ ?_<;>(intro h;first|exact sz h|refine sy h ?_)|exact sq|fail))
   rename_i m5 N5 A7 A8 A9
   have hfw:=z73 (x:=(fky (fe T i),bq,(fe T i).2.2.length,gq,uq)) A7
   have g5:Grow M N5:=Qg.trans A7.grow
   have hv65:=Qv6.grow A7.grow
   have hv75:=Qv7.grow A7.grow
   have hxs5:=(Qx.grow A7.grow (Nat.le_refl _)).app (.cons (hfB.grow g5 (Nat.le_refl _)) .nil)
   have hgl5:=g5.le
   clear A7 hrdF
   refine z2b (by exact gd) (l':=[((fky (fe T i),bq,(fe T i).2.2.length,gq,uq):FW)]) hv65 rfl rfl rfl (by simp) (by simp;omega) rfl hfw (fun _=>rfl) (fun _=>rfl) hgl5 ?_
   rintro v8 M8 hv8 e8 k8 ⟨n8,f8,q8,rfl⟩
   have hv78:=Vec.keepN hv75 k8 (fun i hi=>hdj2 i hi.2)
   have g8:Grow M M8:=Keep.to_grow' g5 k8 (fun i hi=>hi.1)
   have hfl:(S ++ [(X,fe T i)]).flatMap sgB=S.flatMap sgB ++ X ++ pkL (fe T i):=z7r S (X,fe T i)
   rw[<-hfl]
   repeat' first|with_reducible intro _|refine sv ?_|refine sc ?_ ?_<;>(intro h;try exact sz h)|refine sg ?_ ?_<;>(intro h;first|exact sz h|refine sy h ?_)|exact sq|fail
   refine zj (T.length - (i+1)) (by omega) ⟨i+1,S ++ [(X,fe T i)],xs ++ [((fky (fe T i),bq,(fe T i).2.2.length,gq,uq):FW)],_,_,rfl,by omega,rfl,.cons rfl (.cons rfl (.cons rfl (.cons rfl (.cons rfl (.cons rfl .nil))))),?_,?_,by rw[hfl,List.length_append,List.length_append];(try simp only[List.length_nil]);omega,hv8,?_,by rw[z69,if_neg hXl];exact hv78,?_,g8⟩
   ·rw[List.map_append,hSm,List.take_succ_eq_append_getElem hlt,<- z4v hlt];rfl
   ·intro z hz
    rcases List.mem_append.1 hz with hz|hz
    ·exact hS z hz
    ·rw[List.mem_singleton.1 hz];exact⟨(hHm),hfb⟩
   ·rw[List.take_succ_eq_append_getElem hlt,<- z4v hlt]
    exact hxs5.keep k8 (fun i hi=>hi.1) (Nat.le_refl _)
   ·intro j hj h2
    have:=NV.some hj
    have:=NV.lt hv75 h2
    omega
  ·obtain rfl:X=[]:=List.length_eq_zero_iff.1 (by omega)
   refine z3m (by exact gd) (zb4 (s:=strL (S.flatMap sgB) ++ strL []) (t:=strL (pkL (fe T i))) rfl rfl (by rw[z25];show(S.flatMap sgB ++ []).length+(pkL (fe T i)).length<=_;rw[List.length_append];(try simp only[List.length_nil]);omega)) ?_
   rw[z25,z25]
   have hrdF:=hrd.grow Rg
   (have hrd0:=hrdF;repeat' (first|(with_reducible intro _)|refine sv ?_|(refine sc ?_ ?_<;>(intro h;try exact sz h))|refine sg ?_ ?_<;>(intro h;first|exact sz h|refine sy h ?_)|exact sq|fail))
   rename_i m5 N5 A7 A8 A9
   have hfw:=z73 (x:=(fky (fe T i),bq,(fe T i).2.2.length,gq,uq)) A7
   have g5:Grow M N5:=Rg.trans A7.grow
   have hv65:=Rv6.grow A7.grow
   have hv75:=Rv7.grow A7.grow
   have hxs5:=(Rx.grow A7.grow (Nat.le_refl _)).app (.cons (hfB.grow g5 (Nat.le_refl _)) .nil)
   have hgl5:=g5.le
   clear A7 hrdF
   refine z2b (by exact gd) (l':=[((fky (fe T i),bq,(fe T i).2.2.length,gq,uq):FW)]) hv65 rfl rfl rfl (by simp) (by simp;omega) rfl hfw (fun _=>rfl) (fun _=>rfl) hgl5 ?_
   rintro v8 M8 hv8 e8 k8 ⟨n8,f8,q8,rfl⟩
   have hv78:=Vec.keepN hv75 k8 (fun i hi=>hdj i hi.2)
   have g8:Grow M M8:=Keep.to_grow' g5 k8 (fun i hi=>hi.1)
   have hfl:(S ++ [([],fe T i)]).flatMap sgB=S.flatMap sgB ++ [] ++ pkL (fe T i):=z7r S ([],fe T i)
   rw[<-hfl]
   repeat' first|with_reducible intro _|refine sv ?_|refine sc ?_ ?_<;>(intro h;try exact sz h)|refine sg ?_ ?_<;>(intro h;first|exact sz h|refine sy h ?_)|exact sq|fail
   refine zj (T.length - (i+1)) (by omega) ⟨i+1,S ++ [([],fe T i)],xs ++ [((fky (fe T i),bq,(fe T i).2.2.length,gq,uq):FW)],_,v7,rfl,by omega,rfl,.cons rfl (.cons rfl (.cons rfl (.cons rfl (.cons rfl (.cons rfl .nil))))),?_,?_,by rw[hfl,List.length_append,List.length_append];(try simp only[List.length_nil]);omega,hv8,?_,by rw[show lostS 0 (S ++ [([],fe T i)])=lostS 0 S by rw[z69];exact List.append_nil _];exact hv78,?_,g8⟩
   ·rw[List.map_append,hSm,List.take_succ_eq_append_getElem hlt,<- z4v hlt];rfl
   ·intro z hz
    rcases List.mem_append.1 hz with hz|hz
    ·exact hS z hz
    ·rw[List.mem_singleton.1 hz];exact⟨(fun _ h=>nomatch h),hfb⟩
   ·rw[List.take_succ_eq_append_getElem hlt,<- z4v hlt]
    exact hxs5.keep k8 (fun i hi=>hi.1) (Nat.le_refl _)
   ·intro j hj h2
    have:=NV.some hj
    have:=NV.lt hv75 h2
    omega
 ·have hsx:(⟨#[]⟩:ByteArray).size=0:=rfl
  have Rg:=g1
  have Rv6:=v61
  have Rv7:=v71
  have Rx:=x1
  clear g1 v61 v71 x1
  repeat' first|with_reducible intro _|refine sv ?_|refine sc ?_ ?_<;>(intro h;try exact sz h)|((with_reducible first|apply z0r|apply z1b|apply d_same0);exact gd;exact rfl;exact rfl;(first|exact z7e (hpp _ Rg)))|refine sg ?_ ?_<;>(intro h;first|exact sz h|refine sy h ?_)|exact sq|fail
  ·refine kf ?_
   rfl
  refine z3m (by exact gd) (zb4 (s:=strL (S.flatMap sgB) ++ strL []) (t:=strL (pkL (fe T i))) rfl rfl (by rw[z25];show(S.flatMap sgB ++ []).length+(pkL (fe T i)).length<=_;rw[List.length_append];(try simp only[List.length_nil]);omega)) ?_
  rw[z25,z25]
  have hrdF:=hrd.grow Rg
  (have hrd0:=hrdF;repeat' (first|(with_reducible intro _)|refine sv ?_|(refine sc ?_ ?_<;>(intro h;try exact sz h))|refine sg ?_ ?_<;>(intro h;first|exact sz h|refine sy h ?_)|exact sq|fail))
  rename_i m5 N5 A7 A8 A9
  have hfw:=z73 (x:=(fky (fe T i),bq,(fe T i).2.2.length,gq,uq)) A7
  have g5:Grow M N5:=Rg.trans A7.grow
  have hv65:=Rv6.grow A7.grow
  have hv75:=Rv7.grow A7.grow
  have hxs5:=(Rx.grow A7.grow (Nat.le_refl _)).app (.cons (hfB.grow g5 (Nat.le_refl _)) .nil)
  have hgl5:=g5.le
  clear A7 hrdF
  refine z2b (by exact gd) (l':=[((fky (fe T i),bq,(fe T i).2.2.length,gq,uq):FW)]) hv65 rfl rfl rfl (by simp) (by simp;omega) rfl hfw (fun _=>rfl) (fun _=>rfl) hgl5 ?_
  rintro v8 M8 hv8 e8 k8 ⟨n8,f8,q8,rfl⟩
  have hv78:=Vec.keepN hv75 k8 (fun i hi=>hdj i hi.2)
  have g8:Grow M M8:=Keep.to_grow' g5 k8 (fun i hi=>hi.1)
  have hfl:(S ++ [([],fe T i)]).flatMap sgB=S.flatMap sgB ++ [] ++ pkL (fe T i):=z7r S ([],fe T i)
  rw[<-hfl]
  repeat' first|with_reducible intro _|refine sv ?_|refine sc ?_ ?_<;>(intro h;try exact sz h)|refine sg ?_ ?_<;>(intro h;first|exact sz h|refine sy h ?_)|exact sq|fail
  refine zj (T.length - (i+1)) (by omega) ⟨i+1,S ++ [([],fe T i)],xs ++ [((fky (fe T i),bq,(fe T i).2.2.length,gq,uq):FW)],_,v7,rfl,by omega,rfl,.cons rfl (.cons rfl (.cons rfl (.cons rfl (.cons rfl (.cons rfl .nil))))),?_,?_,by rw[hfl,List.length_append,List.length_append];(try simp only[List.length_nil]);omega,hv8,?_,by rw[show lostS 0 (S ++ [([],fe T i)])=lostS 0 S by rw[z69];exact List.append_nil _];exact hv78,?_,g8⟩
  ·rw[List.map_append,hSm,List.take_succ_eq_append_getElem hlt,<- z4v hlt];rfl
  ·intro z hz
   rcases List.mem_append.1 hz with hz|hz
   ·exact hS z hz
   ·rw[List.mem_singleton.1 hz];exact⟨(fun _ h=>nomatch h),hfb⟩
  ·rw[List.take_succ_eq_append_getElem hlt,<- z4v hlt]
   exact hxs5.keep k8 (fun i hi=>hi.1) (Nat.le_refl _)
  ·intro j hj h2
   have:=NV.some hj
   have:=NV.lt hv75 h2
   omega
