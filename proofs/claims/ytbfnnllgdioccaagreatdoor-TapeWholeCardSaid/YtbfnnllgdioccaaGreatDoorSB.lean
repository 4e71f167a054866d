/-
 Part of the proof of TapeWhole. No condition beyond those in each theorem.
-/
import Derived.Test.YtbfnnllgdioccaaGreatDoorSA
import Derived.Test.YtbfnnllgdioccaaGreatDoorPvH
import Derived.Test.YtbfnnllgdioccaaGreatDoorPvG
import Derived.Test.YtbfnnllgdioccaaGreatDoorTX
section
open Go PvL Go.Proofs
set_option linter.unusedSimpArgs false
set_option linter.unusedVariables false
namespace Go.Proofs.YtbfnnllgdioccaaGreatDoor.C
theorem zea{α β:Type}{g:α->List β}{B:Nat}:∀ {l:List α},(∀ c ∈ l,(g c).length<=B)->(l.flatMap g).length<=B*l.length
 | [],_=>by simp
 | c :: l,h=>by
  rw[List.flatMap_cons,List.length_append,List.length_cons,Nat.mul_add,Nat.mul_one]
  have h1:=h c List.mem_cons_self
  have h2:=zea (g:=g) (B:=B) (l:=l) (fun c hc=>h c (List.mem_cons_of_mem _ hc))
  omega
set_option maxHeartbeats 16000000 in
theorem zjh{M:Mem}{v:LV}{x:Fr}(hv:FrV M v x)(hx:frB x=true):za Tryz.prog 80 [v] M (fun w M'=>∃ b,ApB b M' w (pkL x) /\ M.next<=b /\ Grow M M'):=by
 obtain⟨a,f,e,rfl,hs⟩:=hv
 obtain⟨s,c,l⟩:=x
 have hbd:=z9a hx
 dsimp only at hbd hs ⊢
 obtain⟨hs1,hs2,hc1,hc2,hsm⟩:=hbd
 have hln:1<=l.length /\ l.length<=64 /\ l.all smB=true:=by
  unfold smsB btB at hsm
  simp only[Bool.and_eq_true,decide_eq_true_eq] at hsm
  exact⟨by omega,by omega,hsm.2⟩
 obtain⟨s,rfl⟩:∃ n:Nat,s=(n:Int):=⟨s.toNat,by omega⟩
 obtain⟨c,rfl⟩:∃ n:Nat,c=(n:Int):=⟨c.toNat,by omega⟩
 have hpk:pkL ((s:Int),(c:Int),l)=chkL ((([165,90] ++ twoL s) ++ [u8 c,u8 l.length]) ++ cdsL l l.length):=rfl
 rw[hpk]
 refine zd k80 rfl ?_
 dsimp only[x80,zM,zO,zI,zF,zS,zB,zL,zA,zE,zN,zW,zC,zipE,Nat.reduceAdd]
 repeat' first|with_reducible intro _|refine sv ?_|refine sc ?_ ?_<;>(intro h;try exact sz h)|((with_reducible first|apply zey|apply ze7);exact gd;exact rfl;exact rfl;(first|exact zp0 s (by omega) _))|refine sg ?_ ?_<;>(intro h;first|exact sz h|refine sy h ?_)|exact sq|fail
 rename_i m1 M1 hN1 q1 q2 m5 M5 hN5 q3 q4 p8 M8 hA8 l8 l8' hg8 le8
 have ha1:At M8 m1 (.cells true [I s,I c,.slice a l.length f e] 48):=xm
 have hb8:ApB m5 M8 (.slice (some (m5,0)) 2 true 1) [165,90]:=ApB.grow (M:=M5) ⟨true,_,rfl,At.new_same hN5,.inl rfl⟩ hg8
 have hgM8:Grow M M8:=xg
 refine zl0 (l':=twoL s) (by exact gd) hb8 rfl rfl rfl (by simp[twoL]) (by simp[twoL]) rfl (z1r (f:=true) hA8) ?_
 intro v9 M9 hb9 e9 hk9
 have hgM9:Grow M M9:=Keep.to_grow' hgM8 hk9 (fun i hi=>by omega)
 have ha9:=ha1.keep hk9 (by omega)
 obtain⟨f9,ty9,rfl,ht9⟩:=id hb9
 repeat' first|with_reducible intro _|refine sv ?_|refine sc ?_ ?_<;>(intro h;try exact sz h)|refine sg ?_ ?_<;>(intro h;first|exact sz h|refine sy h ?_)|exact sq|fail
 rename_i m3 M10 hN10 u1 u2 M11 hU11 u3 hA11 n12 M12 hN12 u4 u5
 have hg912:Grow M9 M12:=xg
 have hb12:=hb9.grow hg912
 have ha12:=At.grow hg912 ha9
 have hm12:At M12 m3 (.cells true [.slice (some (M8.next,0)) ([165,90] ++ twoL s).length f9 1] 129):=xm
 rw[show [LV.int .u8 (c:Int),LV.int .u8 (l.length:Int)]=zp [u8 c,u8 l.length] from by show _=[byteL (u8 c),byteL (u8 l.length)];rw[z7a (by omega),z7a (by omega)]] at hN12
 have hgM12:=hgM9.trans hg912
 have l8m:=hb9.lt
 refine zl0 (l':=[u8 c,u8 l.length]) (by exact gd) hb12 rfl rfl rfl (by simp) (by simp[twoL]) rfl (z1r (f:=true) (At.new_same hN12)) ?_
 intro v13 M13 hb13 e13 hk13
 have hgM13:Grow M M13:=Keep.to_grow' hgM12 hk13 (fun i hi=>by have:=hgM8.le;omega)
 have ha13:=ha12.keep hk13 (by omega)
 have hm13:=hm12.keep hk13 (by omega)
 generalize hHd:([165,90] ++ twoL s) ++ [u8 c,u8 l.length]=hd at *
 have hhl:hd.length=6:=by rw[<-hHd];simp[twoL]
 generalize hb0:M12.next=b0 at *
 have hM8:=hgM8.le
 clear hN1 hN5 hA8 hg8 hk9 hN10 hU11 hA11 hN12 hk13 hb12 ht9 hb9 hg912 ha12 hm12 hb8 ha1 ha9
 obtain⟨f13,ty13,rfl,ht13⟩:=id hb13
 repeat' first|with_reducible intro _|refine sv ?_|refine sc ?_ ?_<;>(intro h;try exact sz h)|((with_reducible first|apply zey|apply ze7);exact gd;exact rfl;exact rfl;(first|exact zmo _))|refine sg ?_ ?_<;>(intro h;first|exact sz h|refine sy h ?_)|exact sq|fail
 rename_i M14 hU14 e14 hA14 p15 M15 hA15 l15 l15' hg15 le15
 have hb14:ApB b0 M14 (.slice (some (b0,0)) hd.length f13 1) hd:=by
  obtain⟨f,ty,h1,h2,h3⟩:=hb13
  exact⟨f,ty,h1,At.upd_ne hU14 (by omega) h2,h3⟩
 have hb15:=hb14.grow hg15
 have hm15:=At.grow hg15 hA14
 have hgM14:Grow M M14:=hgM13.upd hU14 (by omega)
 have hgM15:=hgM14.trans hg15
 have hlb0:=hb13.lt
 clear hU14 hA14 hg15 hb14 hb13 ht13 ha13 hm13 hgM14
 apply zpt
 exact rfl
 intro lb d0 ly M16 M17 hlb hd0 e16 e16' hly e17 e17'
 have hg1517:Grow M15 M17:=hd0.grow.trans hly.grow
 have hgM17:=hgM15.trans hg1517
 have hs17:=hs.grow hgM17
 have hy:=zod (At.grow hg1517 hA15) hs17 hln.2.1 hln.2.2
 have hd17:At M17 d0 .defr:=At.new_old hly (At.new_same hd0)
 refine(hy ly (fun i=>i=m3 ∨ i=b0 ∨ i=ly) (fun dn T M'=>∃ v b,At M' m3 (.cells true [v] 129) /\ ApB b M' v (hd ++ dn.flatMap fun c=>cdN c.toNat) /\ (b=b0 ∨ T b) /\ At M' ly (lb .ready none) /\ At M' d0 .defr /\ Keep (fun i=>i=m3 ∨ i=b0 ∨ i=ly) M17 M' /\ dn.length<=64) (fun _ _=>False) ⟨?_,?_,fun T M M' h=>h.elim,?_⟩ ?_ ⟨_,b0,At.grow hg1517 hm15,by rw[List.flatMap_nil,List.append_nil];exact hb15.grow hg1517,.inl rfl,At.new_same hly,hd17,Keep.refl _ _,Nat.zero_le _⟩).mono ?_
 ·rintro i (rfl|rfl|rfl)<;>omega
 ·rintro dn T Mx My ⟨v,b,h1,h2,h3,h4,h5,h6,h7⟩ hle hg
  have hgo:∀ i,i < M17.next->My.get i=Mx.get i:=fun i hi=>hg i (.inl ⟨hi,id⟩)
  refine⟨v,b,h1.same hle (hgo _ (by omega)),h2.same hle ?_,h3,h4.same hle (hgo _ (by omega)),h5.same hle (hgo _ (by omega)),⟨Nat.le_trans h6.le hle,fun i hi hf=>by rw[hgo i hi];exact h6.old i hi hf⟩,h7⟩
  rcases h3 with rfl|h3
  ·exact hgo _ (by omega)
  ·exact hg _ (.inr h3)
 ·rintro dn c' rest v' U T Mx hits ⟨rfl,hU⟩ hN0 hT hUd ⟨v,b,h1,h2,h3,h4,h5,h6,h7⟩
  have hcm:c' ∈ cdItems l l.length:=by rw[hits];simp
  have hcb:0<=c' /\ c'<=131070:=by
   unfold cdItems at hcm
   obtain⟨k,_,rfl⟩:=List.mem_map.1 hcm
   exact ze1 l k
  have hdl:dn.length+1<=64:=by
   have:=congrArg List.length hits
   rw[List.length_append,List.length_cons] at this
   unfold cdItems at this
   rw[List.length_map,List.length_range] at this
   omega
  obtain⟨N,rfl⟩:∃ N:Nat,c'=(N:Int):=⟨c'.toNat,by omega⟩
  have hbl:(dn.flatMap fun c=>cdN c.toNat).length<=1100*dn.length:=zea (fun c hc=>by
   have hcm2:c ∈ cdItems l l.length:=by rw[hits];exact List.mem_append_left _ hc
   unfold cdItems at hcm2
   obtain⟨k,_,rfl⟩:=List.mem_map.1 hcm2
   have:=ze1 l k
   have:=zaf (cdA l k).toNat
   omega)
  have hfold:(dn ++ [(N:Int)]).flatMap (fun c=>cdN c.toNat)=(dn.flatMap fun c=>cdN c.toNat) ++ cdN N:=by rw[List.flatMap_append];simp
  rw[hfold]
  have hcdl:=zaf N
  generalize hbase:hd ++(dn.flatMap fun c=>cdN c.toNat)=base at *
  have hbasel:base.length<=100000:=by rw[<-hbase,List.length_append];omega
  have hbM:=h2.lt
  have hlyM:=h4.2
  refine zeu hlb h4 rfl ?_
  dsimp only[zipP]
  repeat' first|with_reducible intro _|refine sv ?_|refine sc ?_ ?_<;>(intro h;try exact sz h)|refine sg ?_ ?_<;>(intro h;first|exact sz h|refine sy h ?_)|exact sq|fail
  rename_i MB hUB eB hlyB
  have hbl2:b ≠ ly /\ (b=b0 ∨ M17.next<=b):=by
   rcases h3 with rfl|h3
   ·exact⟨by omega,.inl rfl⟩
   ·have:=(hT b h3).1
    exact⟨by omega,.inr this⟩
  have k1:=At.upd_ne hUB (show m3 ≠ ly by omega) h1
  have k2:ApB b MB v base:=by
   obtain⟨f,ty,g1,g2,g3⟩:=h2
   exact⟨f,ty,g1,At.upd_ne hUB hbl2.1 g2,g3⟩
  have k5:=At.upd_ne hUB (show d0 ≠ ly by omega) h5
  have hKB:Keep (fun i=>i=m3 ∨ i=b0 ∨ i=ly ∨ T i) Mx MB:=(Keep.refl _ _).upd hUB (.inl (.inr (.inr (.inl rfl))))
  have hle6:=h6.le
  clear hUB
  refine z9 (fun z E ms M'=>∃(m:Nat) (pre:List UInt8) (v2:LV) (b2:Nat),z=m /\ m<=N /\ ms=[] /\ Has E [(3,.ptr (some (m3,0))),(4,I m)] /\ At M' m3 (.cells true [v2] 129) /\ ApB b2 M' v2 (base ++ pre) /\ pre ++ cdN m=cdN N /\ (b2=b0 ∨ T b2 ∨ Mx.next<=b2) /\ (b2=b0 ∨ M17.next<=b2) /\ At M' ly (lb .busy none) /\ At M' d0 .defr /\ Keep (fun i=>i=m3 ∨ i=b0 ∨ i=ly ∨ T i) Mx M')
   ?_ N _ _ _ ⟨N,[],v,b,rfl,Nat.le_refl _,rfl,.cons rfl (.cons rfl .nil),k1,by rw[List.append_nil];exact k2,rfl,h3.elim .inl (fun h=>.inr (.inl h)),hbl2.2,hlyB,k5,hKB⟩
  rintro z E ms MC ⟨m,pre,v2,b2,hz,hm,rfl,hE,r1,r2,hpre,hb2,hb2',rly,rd0,hKC⟩
  refine z0d hE ?_
  obtain⟨f2,ty2,rfl,hat2⟩:=id r2
  have hprel:pre.length<=2000:=by
   have:=congrArg List.length hpre
   rw[List.length_append] at this
   omega
  have hb2l:=r2.lt
  have hleC:=hKC.le
  have hFb:b2=m3 ∨ b2=b0 ∨ b2=ly ∨ T b2 ∨ Mx.next<=b2:=hb2.elim (fun h=>.inr (.inl h)) (fun h=>.inr (.inr (.inr h)))
  by_cases h128:128<=m
  ·have hd1:(m:Int) / 128=((m / 128:Nat):Int):=by omega
   have hd2:(m:Int) % 128+128=((m % 128+128:Nat):Int):=by omega
   have hge:=ze3 h128
   repeat' first|with_reducible intro _|refine sv ?_|refine sc ?_ ?_<;>(intro h;try exact sz h)|refine sg ?_ ?_<;>(intro h;first|exact sz h|refine sy h ?_)|exact sq|fail
   rename_i nD MD hND eD eD'
   rw[hd2,zdz (by omega)] at hND
   have r2D:=r2.grow hND.grow
   refine zl0 (l':=[u8 (m % 128+128)]) (by exact gd) r2D rfl rfl rfl (by simp) (by simp;omega) rfl (z1r (f:=true) (At.new_same hND)) ?_
   intro v3 ME hbE eE hkE
   have hKE:Keep (fun i=>i=m3 ∨ i=b0 ∨ i=ly ∨ T i) Mx ME:=(hKC.new hND).trans hkE (fun i hi=>by
    subst hi
    rcases hb2 with h|h|h
    ·exact .inl (.inr (.inl h))
    ·exact .inl (.inr (.inr (.inr h)))
    ·exact .inr h)
   have gm3:=(At.new_old hND r1).keep hkE (show ¬ m3=b2 by omega)
   have gly:=(At.new_old hND rly).keep hkE (show ¬ ly=b2 by omega)
   have gd0:=(At.new_old hND rd0).keep hkE (show ¬ d0=b2 by omega)
   clear hkE
   obtain⟨f3,ty3,rfl,ht3,ht3'⟩:=id hbE
   repeat' first|with_reducible intro _|refine sv ?_|refine sc ?_ ?_<;>(intro h;try exact sz h)|refine sg ?_ ?_<;>(intro h;first|exact sz h|refine sy h ?_)|exact sq|fail
   rename_i MF hUF eF hmF
   exact zj (m / 128) (by omega) ⟨m / 128,pre ++ [u8 (m % 128+128)],_,MD.next,rfl,by omega,rfl,.cons rfl (.cons (by rw[<-hd1];rfl) .nil),hmF,by rw[<-List.append_assoc];exact⟨_,_,rfl,At.upd_ne hUF (by omega) ht3,ht3'⟩,by rw[List.append_assoc,<- hpre,hge];rfl,.inr (.inr (by omega)),.inr (by omega),At.upd_ne hUF (by omega) gly,At.upd_ne hUF (by omega) gd0,hKE.upd hUF (.inl (.inl rfl))⟩
  ·have hlt:=zbl (show m < 128 by omega)
   repeat' first|with_reducible intro _|refine sv ?_|refine sc ?_ ?_<;>(intro h;try exact sz h)|refine sg ?_ ?_<;>(intro h;first|exact sz h|refine sy h ?_)|exact sq|fail
   rename_i nD MD hND eD eD'
   rw[zdz (by omega)] at hND
   have r2D:=r2.grow hND.grow
   refine zl0 (l':=[u8 m]) (by exact gd) r2D rfl rfl rfl (by simp) (by simp;omega) rfl (z1r (f:=true) (At.new_same hND)) ?_
   intro v3 ME hbE eE hkE
   have hKE:Keep (fun i=>i=m3 ∨ i=b0 ∨ i=ly ∨ T i) Mx ME:=(hKC.new hND).trans hkE (fun i hi=>by
    subst hi
    rcases hb2 with h|h|h
    ·exact .inl (.inr (.inl h))
    ·exact .inl (.inr (.inr (.inr h)))
    ·exact .inr h)
   have gm3:=(At.new_old hND r1).keep hkE (show ¬ m3=b2 by omega)
   have gly:=(At.new_old hND rly).keep hkE (show ¬ ly=b2 by omega)
   have gd0:=(At.new_old hND rd0).keep hkE (show ¬ d0=b2 by omega)
   clear hkE
   obtain⟨f3,ty3,rfl,ht3,ht3'⟩:=id hbE
   repeat' first|with_reducible intro _|refine sv ?_|refine sc ?_ ?_<;>(intro h;try exact sz h)|refine sg ?_ ?_<;>(intro h;first|exact sz h|refine sy h ?_)|exact sq|fail
   rename_i MF hUF eF hmF MG hUG eG hlyG
   refine⟨((hKE.upd hUF (.inl (.inl rfl))).upd hUG (.inl (.inr (.inr (.inl rfl))))).weaken (fun i hi=>?_),fun i=>i=MD.next,fun i hi=>⟨.inr (.inr (by omega)),by omega⟩,.inl ⟨rfl,_,MD.next,At.upd_ne hUG (by omega) hmF,?_,.inr rfl,hlyG,At.upd_ne hUG (by omega) (At.upd_ne hUF (by omega) gd0),?_,?_⟩⟩
   ·rcases hi with h|h|h|h
    ·exact .inl (.inl h)
    ·exact .inl (.inr (.inl h))
    ·exact .inl (.inr (.inr h))
    ·exact .inr (.inl h)
   ·have e1:hd ++((dn.flatMap fun c=>cdN c.toNat) ++ cdN N)=base ++ pre ++ [u8 m]:=by rw[<-hbase,<- hpre,hlt];simp
    rw[e1]
    exact⟨_,_,rfl,At.upd_ne hUG (by omega) (At.upd_ne hUF (by omega) ht3),ht3'⟩
   ·refine h6.trans ((hKE.upd hUF (.inl (.inl rfl))).upd hUG (.inl (.inr (.inr (.inl rfl))))) (fun i hi=>?_)
    rcases hi with h|h|h|h
    ·exact .inl (.inl h)
    ·exact .inl (.inr (.inl h))
    ·exact .inl (.inr (.inr h))
    ·exact .inr (hT i h).1
   ·rw[List.length_append];exact hdl
 ·rintro i (rfl|⟨o,hi⟩)
  ·rintro(h|h|h)<;>omega
  ·obtain⟨i',o',he,hr⟩:=hs.rd (k:=0) (by omega)
   rw[hi] at he
   obtain⟨rfl,rfl⟩:i=i' /\ o=o':=by injection he with q;injection q with q1 q2;exact⟨q1,q2⟩
   have:=hr.2
   rintro(h|h|h)<;>omega
 ·rintro w18 M18 ⟨hk18,_,T',hT',⟨v,b,h1,h2,h3,h4,h5,h6,h7⟩|h⟩
  ·rw[zgu] at h2
   have hbl2:b ≠ ly /\ (b=b0 ∨ M17.next<=b) /\ M.next<=b:=by
    have:=hgM17.le
    rcases h3 with rfl|h3
    ·exact⟨by omega,.inl rfl,by omega⟩
    ·have:=(hT' b h3).1
     exact⟨by omega,.inr this,by omega⟩
   have hcl:=zag l l.length
   generalize hBy:hd ++ cdsL l l.length=By at *
   have hByl:By.length<=100000:=by rw[<-hBy,List.length_append];omega
   have hg18:Grow M M18:=Keep.to_grow' hgM17 h6 (fun i hi=>by rcases hi with h|h|h<;>omega)
   have le18:=h6.le
   clear hk18 h6
   refine zlt h4 (by simp) fun M19 hu19 e19 a19=>?_
   have hb19:ApB b M19 v By:=by
    obtain⟨f,ty,g1,g2,g3⟩:=h2
    exact⟨f,ty,g1,At.upd_ne hu19 hbl2.1 g2,g3⟩
   have hm19:=At.upd_ne hu19 (show m3 ≠ ly by omega) h1
   have hd19:=At.upd_ne hu19 (show d0 ≠ ly by omega) h5
   have hg19:Grow M M19:=hg18.upd hu19 (by have:=hgM15.le;omega)
   have hcr:=z7i (strL By) By.length
   obtain⟨n,hn⟩:∃ n:Nat,crcK (strL By) By.length=(n:Int):=⟨(crcK (strL By) By.length).toNat,by omega⟩
   have hck:chkL By=By ++ twoL n:=by unfold chkL;rw[hn];rfl
   rw[hck]
   have cc:=zmk (strL By) (by rw[zcs];omega)
   rw[zcs,hn] at cc
   have hbl:=hb19.lt
   clear hu19 h1 h2 h5 a19 h4
   obtain⟨f9',ty9',rfl,hat9⟩:=id hb19
   repeat' first|with_reducible intro _|refine sv ?_|refine sc ?_ ?_<;>(intro h;try exact sz h)|refine sg ?_ ?_<;>(intro h;first|exact sz h|refine sy h ?_)|exact sq|fail
   refine z54 (by exact gd) (ApB.bstr hb19 rfl) (fun m=>ApB b m (.slice (some (b,0)) By.length f9' 1) By) (fun m hm=>ApB.bstr hm rfl) ?_
   repeat' first|with_reducible intro _|refine sv ?_|refine sc ?_ ?_<;>(intro h;try exact sz h)|((with_reducible first|apply z0r|apply z1b|apply d_same0);exact gd;exact rfl;exact rfl;(first|exact cc _))|((with_reducible first|apply zey|apply ze7);exact gd;exact rfl;exact rfl;(first|exact zp0 n (by omega) _))|refine sg ?_ ?_<;>(intro h;first|exact sz h|refine sy h ?_)|exact sq|fail
   rename_i p20 M20 hA20 l20 l20' hg20 le20
   have hb20:=hb19.grow hg20
   have hm20:=At.grow hg20 hm19
   have hd20:=At.grow hg20 hd19
   refine zqv (l':=twoL n) (by exact gd) hb20 rfl rfl rfl (by simp[twoL]) (by simp[twoL];omega) rfl (z1r (f:=true) hA20) ?_
   intro v21 M21 hb21 e21 hk21
   have hd21:=hd20.keep hk21 (by omega)
   have hg21:Grow M M21:=Keep.to_grow' (hg19.trans hg20) hk21 (fun i hi=>by omega)
   clear hk21
   repeat' first|with_reducible intro _|refine sv ?_|refine sc ?_ ?_<;>(intro h;try exact sz h)|refine sg ?_ ?_<;>(intro h;first|exact sz h|refine sy h ?_)|exact sq|fail
   refine zc4 (.inr rfl) (by simp[dnat]) (fun d hd=>by simp[dnat] at hd;subst hd;exact hd21) fun M22 hm=>⟨_,.tmp rfl .nil,M20.next,?_,?_,?_⟩
   ·obtain⟨f,ty,rfl,g2,g3⟩:=hb21
    exact⟨f,ty,rfl,g2.unmark hm (by simp[dnat];omega),g3⟩
   ·have:=(hg19.trans hg20).le
    omega
   ·exact hg21.unmark hm (fun d hd=>by simp[dnat] at hd;subst hd;have:=hgM15.le;omega)
  ·exact h.elim
end Go.Proofs.YtbfnnllgdioccaaGreatDoor.C
end
section
open Go PvL
set_option linter.unusedSimpArgs false
set_option linter.unusedVariables false
namespace Go.Proofs.YtbfnnllgdioccaaGreatDoor.C
theorem zdn:∀ l:List LV,z0c l 0 []=some l
 | []=>rfl
 | _ :: _=>rfl
theorem z8l:∀(vs rest ws:List LV),ws.length=vs.length->z0c (vs ++ rest) 0 ws=some (ws ++ rest)
 | [],rest,[],_=>by rw[List.nil_append];exact zdn _
 | v :: vs,rest,w :: ws,h=>by
  show ob (z0c (vs ++ rest) 0 ws) (fun l=>some (w :: l))=_
  rw[z8l vs rest ws (by simpa using h)]
  rfl
theorem z53:∀(pre l vs:List LV) (k:Nat) (r:List LV),z0c l k vs=some r->vs ≠ []->z0c (pre ++ l) (pre.length+k) vs=some (pre ++ r)
 | [],l,vs,k,r,h,_=>by rw[List.length_nil,Nat.zero_add];exact h
 | p :: pre,l,[],k,r,h,hv=>absurd rfl hv
 | p :: pre,l,v :: vs,k,r,h,hv=>by
  rw[show(p :: pre).length+k=(pre.length+k)+1 from by rw[List.length_cons];omega]
  show ob (z0c (pre ++ l) (pre.length+k) (v :: vs)) (fun l=>some (p :: l))=_
  rw[z53 pre l (v :: vs) k r h hv]
  rfl
theorem z6w{α:Type}{enc:α->List LV}{sz:Nat}(henc:∀ x,(enc x).length=sz)(h0:0 < sz):∀(l:List α) (k:Nat) (v:α),k < l.length->z0c (l.flatMap enc) (k*sz) (enc v)=some ((l.set k v).flatMap enc)
 | [],k,v,h=>absurd h (Nat.not_lt_zero _)
 | x :: l,0,v,h=>by
  rw[Nat.zero_mul,List.set_cons_zero,List.flatMap_cons,List.flatMap_cons]
  exact z8l _ _ _ (by rw[henc,henc])
 | x :: l,k+1,v,h=>by
  rw[List.set_cons_succ,List.flatMap_cons,List.flatMap_cons,show(k+1)*sz=(enc x).length+k*sz from by rw[henc,Nat.add_mul,Nat.one_mul,Nat.add_comm]]
  refine z53 _ _ _ _ _ (z6w henc h0 l k v (by simpa using h)) fun he=>?_
  have:=henc v
  rw[he] at this
  simp at this
  omega
def tabL{α:Type}(enc:α->List LV)(G:Nat->α)(n:Nat):List LV:=((List.range n).map G).flatMap enc
theorem zkq{α:Type}{enc:α->List LV}{sz:Nat}(henc:∀ x,(enc x).length=sz)(h0:0 < sz){G G':Nat->α}{n k:Nat}(hk:k < n)(h:∀ i,i < n->i ≠ k->G' i=G i):z0c (tabL enc G n) (k*sz) (enc (G' k))=some (tabL enc G' n):=by
 unfold tabL
 rw[z6w henc h0 _ _ _ (by simpa using hk)]
 congr 2
 refine List.ext_getElem (by simp) fun i h1 h2=>?_
 rw[List.getElem_set]
 by_cases he:k=i
 ·subst he;simp
 ·rw[if_neg he]
  simp only[List.getElem_map,List.getElem_range]
  exact(h i (by simpa using h2) (fun h=>he h.symm)).symm
theorem znq{α:Type}{enc:α->List LV}{sz:Nat}(henc:∀ x,(enc x).length=sz){G:Nat->α}{n k:Nat}{M:Mem}{i:Nat}{own:Bool}{ty:TypeId}(ha:At M i (.cells own (tabL enc G n) ty))(hk:k < n):Rd M i (0+k*sz) sz (enc (G k)):=by
 have:=z2x (enc:=enc) (l:=(List.range n).map G) (sz:=sz) ha (fun x _=>henc x) (k:=k) (by simpa using hk)
 simpa using this
abbrev Ky:=Int × Int
abbrev kyc(k:Ky):List LV:=[I k.1,I k.2]
def klt(a b:Ky):Prop:=a.1 < b.1 ∨(a.1=b.1 /\ a.2 < b.2)
instance (a b:Ky):Decidable (klt a b):=by unfold klt;infer_instance
theorem z0i(a b:Ky):cmpK a b < 0 ↔ klt a b:=by
 unfold cmpK cmpI8 klt
 by_cases h1:a.1 < b.1
 ·simp[h1]
 ·by_cases h2:b.1 < a.1
  ·have:¬ a.1=b.1:=by omega
   simp[h1,h2,this]
  ·have:a.1=b.1:=by omega
   simp only[this,Int.lt_irrefl,if_false,ne_eq,not_true,false_or,true_and]
   by_cases h3:a.2 < b.2
   ·simp[h3]
   ·by_cases h4:b.2 < a.2<;>simp[h3,h4]
theorem z1i(a:Ky):¬ klt a a:=by unfold klt;omega
theorem z5m{a b c:Ky}(h:klt a b)(h':klt b c):klt a c:=by unfold klt at *;omega
theorem z80{a b c:Ky}(h:¬ klt b a)(h':¬ klt c b):¬ klt c a:=by unfold klt at *;omega
theorem z81{a b:Ky}(h:klt a b):¬ klt b a:=by unfold klt at *;omega
theorem zhl{a b:Ky}(h:a ≠ b):klt a b ∨ klt b a:=by
 unfold klt
 have:¬(a.1=b.1 /\ a.2=b.2):=fun⟨h1,h2⟩=>h (Prod.ext h1 h2)
 omega
def sw(G:Nat->Ky)(i j:Nat):Nat->Ky:=fun t=>if t=j then G i else if t=i then G j else G t
theorem sw_j(G:Nat->Ky)(i j:Nat):sw G i j j=G i:=by unfold sw;rw[if_pos rfl]
theorem sw_i(G:Nat->Ky)(i j:Nat):sw G i j i=G j:=by
 unfold sw
 by_cases h:i=j
 ·subst h;rw[if_pos rfl]
 ·rw[if_neg h,if_pos rfl]
theorem z4i{G:Nat->Ky}{i j t:Nat}(h1:t ≠ i)(h2:t ≠ j):sw G i j t=G t:=by unfold sw;rw[if_neg h2,if_neg h1]
inductive Sw (a b:Nat) (G:Nat->Ky):(Nat->Ky)->Prop
 | refl:Sw a b G G
 | step {G':Nat->Ky} {i j:Nat} (h:Sw a b G G') (h1:a<=i) (h2:i < b) (h3:a<=j) (h4:j < b):Sw a b G (sw G' i j)
theorem Sw.trans{a b:Nat}{G G1 G2:Nat->Ky}(h:Sw a b G G1)(h':Sw a b G1 G2):Sw a b G G2:=by
 induction h' with
 | refl=>exact h
 | step _ h1 h2 h3 h4 ih=>exact .step ih h1 h2 h3 h4
theorem Sw.wider{a b a' b':Nat}{G G1:Nat->Ky}(h:Sw a b G G1)(ha:a'<=a)(hb:b<=b'):Sw a' b' G G1:=by
 induction h with
 | refl=>exact .refl
 | step _ h1 h2 h3 h4 ih=>exact .step ih (by omega) (by omega) (by omega) (by omega)
theorem Sw.one{a b i j:Nat}{G:Nat->Ky}(h1:a<=i)(h2:i < b)(h3:a<=j)(h4:j < b):Sw a b G (sw G i j):=.step .refl h1 h2 h3 h4
theorem Sw.out{a b:Nat}{G G':Nat->Ky}(h:Sw a b G G'){t:Nat}(ht:t < a ∨ b<=t):G' t=G t:=by
 induction h with
 | refl=>rfl
 | step _ h1 h2 h3 h4 ih=>rw[z4i (by omega) (by omega),ih]
theorem Sw.all{a b:Nat}{G G':Nat->Ky}(h:Sw a b G G'){p:Ky->Prop}(hp:∀ t,a<=t->t < b->p (G t)):∀ t,a<=t->t < b->p (G' t):=by
 induction h with
 | refl=>exact hp
 | step _ h1 h2 h3 h4 ih =>
  intro t ht1 ht2
  unfold sw
  split
  ·exact ih _ h1 h2
  ·split
   ·exact ih _ h3 h4
   ·exact ih _ ht1 ht2
def Inj(n:Nat)(G:Nat->Ky):Prop:=∀ i j,i < n->j < n->G i=G j->i=j
theorem Sw.inj{a b n:Nat}{G G':Nat->Ky}(h:Sw a b G G')(hb:b<=n)(hi:Inj n G):Inj n G':=by
 induction h with
 | refl=>exact hi
 | @step G' i j _ h1 h2 h3 h4 ih =>
  intro x y hx hy hxy
  unfold sw at hxy
  by_cases hxj:x=j
  ·by_cases hyj:y=j
   ·omega
   ·rw[if_pos hxj,if_neg hyj] at hxy
    by_cases hyi:y=i
    ·rw[if_pos hyi] at hxy;have:=ih _ _ (by omega) (by omega) hxy;omega
    ·rw[if_neg hyi] at hxy;have:=ih _ _ (by omega) hy hxy;omega
  ·rw[if_neg hxj] at hxy
   by_cases hxi:x=i
   ·rw[if_pos hxi] at hxy
    by_cases hyj:y=j
    ·rw[if_pos hyj] at hxy;have:=ih _ _ (by omega) (by omega) hxy;omega
    ·rw[if_neg hyj] at hxy
     by_cases hyi:y=i
     ·omega
     ·rw[if_neg hyi] at hxy;have:=ih _ _ (by omega) hy hxy;omega
   ·rw[if_neg hxi] at hxy
    by_cases hyj:y=j
    ·rw[if_pos hyj] at hxy;have:=ih _ _ hx (by omega) hxy;omega
    ·rw[if_neg hyj] at hxy
     by_cases hyi:y=i
     ·rw[if_pos hyi] at hxy;have:=ih _ _ hx (by omega) hxy;omega
     ·rw[if_neg hyi] at hxy;exact ih _ _ hx hy hxy
def Srt(a b:Nat)(G:Nat->Ky):Prop:=∀ i j,a<=i->i < j->j < b->¬ klt (G j) (G i)
theorem Srt.short{a b:Nat}{G:Nat->Ky}(h:b<=a+1):Srt a b G:=fun i j h1 h2 h3=>by omega
def Ins(a b j:Nat)(G:Nat->Ky):Prop:=∀ p q,a<=p->p < q->q < b->q ≠ j->¬ klt (G q) (G p)
theorem Ins.start{a i:Nat}{G:Nat->Ky}(h:Srt a i G):Ins a (i+1) i G:=fun p q h1 h2 h3 h4=>h p q h1 h2 (by omega)
theorem Ins.step{a b j:Nat}{G:Nat->Ky}(h:Ins a b (j+1) G)(hj:a<=j)(hlt:klt (G (j+1)) (G j)):Ins a b j (sw G (j+1) j):=by
 intro p q h1 h2 h3 h4
 by_cases hq1:q=j+1
 ·subst hq1
  rw[sw_i]
  by_cases hp:p=j
  ·subst hp;rw[sw_j];exact z81 hlt
  ·rw[z4i (by omega) (by omega)]
   exact h p j h1 (by omega) (by omega) (by omega)
 ·by_cases hq:q<=j
  ·rw[z4i (by omega) (by omega),z4i (by omega) (by omega)]
   exact h p q h1 h2 h3 hq1
  ·rw[show sw G (j+1) j q=G q from z4i (by omega) (by omega)]
   by_cases hp1:p=j+1
   ·subst hp1;rw[sw_i];exact h j q hj (by omega) h3 (by omega)
   ·by_cases hp:p=j
    ·subst hp;rw[sw_j];exact h (p+1) q (by omega) (by omega) h3 (by omega)
    ·rw[z4i hp1 hp];exact h p q h1 h2 h3 (by omega)
theorem Ins.done{a b j:Nat}{G:Nat->Ky}(h:Ins a b j G)(hd:j<=a ∨ ¬ klt (G j) (G (j - 1))):Srt a b G:=by
 intro p q h1 h2 h3
 by_cases hq:q=j
 ·subst hq
  rcases hd with hd|hd
  ·omega
  ·by_cases hp:p=q - 1
   ·subst hp;exact hd
   ·exact z80 (h p (q - 1) h1 (by omega) (by omega) (by omega)) hd
 ·exact h p q h1 h2 h3 hq
end Go.Proofs.YtbfnnllgdioccaaGreatDoor.C
end
section
open Go PvL Go.Proofs
set_option linter.unusedSimpArgs false
set_option linter.unusedVariables false
namespace Go.Proofs.YtbfnnllgdioccaaGreatDoor.C
theorem zju{P:Program}{t e:TypeId}(hu:P.underlying t=some (.array 2 e))(hi:P.underlying e=some (.int .i64))(hg:P.eqGuardType P.depth t=false)(hs:szOf P e=some 1)(ha:aggSz P e=some none)(a b c d:Int) :
  eqV P t (.agg [I a,I b]) (.agg [I c,I d])=some (decide (a=c) && decide (b=d)):=by
 have he:∀ x y:Int,eqL P (Op.maxDepth - 1) e (I x) (I y)=some (decide (x=y)):=fun x y=>by
  show eqL P (Op.maxDepth - 2+1) e (I x) (I y)=_
  unfold eqL
  rw[hi]
  show guard' (kEq .i64 .i64) (some (ieq x y))=_
  rw[z2g.2 rfl,z6,z3n]
  rfl
 have hp:∀(i:Nat) (xs ys:List LV) (x y:Int),nth xs i=some (I x)->nth ys i=some (I y)->eqPart P (eqL P (Op.maxDepth - 1)) e i xs ys=some (decide (x=y)):=fun i xs ys x y h1 h2=>by
  unfold eqPart
  rw[ha,z0,z2v,h1,z0,h2,z0];exact he x y
 unfold eqV
 show ifb (ifb true (P.eqGuardType P.depth t) false) none _=_
 rw[zf,hg,z8]
 show eqL P (Op.maxDepth - 1+1) t _ _=_
 unfold eqL
 rw[hu]
 show ob (szOf P e) _=_
 rw[hs,z0]
 show andO (eqPart P (eqL P (Op.maxDepth - 1)) e 0 [I a,I b] [I c,I d]) (andO (eqPart P (eqL P (Op.maxDepth - 1)) e 1 [I a,I b] [I c,I d]) (some true))=_
 rw[hp 0 _ _ a c rfl rfl,hp 1 _ _ b d rfl rfl]
 unfold andO
 rw[z0,z0]
 by_cases h1:a=c<;>by_cases h2:b=d<;>simp[h1,h2,ifb]
theorem zmy(a b c d:Int):eqV Tryz.prog 114 (.agg [I a,I b]) (.agg [I c,I d])=some (decide (a=c) && decide (b=d)) :=
 zju (e:=3) (by kernel_rfl) (by kernel_rfl) (by kernel_rfl) (by kernel_rfl) (by kernel_rfl) a b c d
theorem zla{E:Env}{M:Mem}{x y:XO}{a b c d:Int}(hx:xval E x=some (.agg [I a,I b]))(hy:xval E y=some (.agg [I c,I d])):ze Tryz.prog (.eqg true 114 x y) E M=some (.val (.bool (!(decide (a=c) && decide (b=d)))) M):=by
 show ob (xval E x) _=_
 rw[hx,z0,hy,z0]
 show guard' true (ob (eqV Tryz.prog 114 _ _) _)=_
 rw[zmy,z6,z0]
 cases(decide (a=c) && decide (b=d))<;>rfl
abbrev zFr:Fr:=(0,0,[])
def joinF(x y:Fr):Fr × Int :=
 if errF x=0 then(if errF y=0 then(if x.1=y.1 /\ x.2.1=y.2.1 then((x.1,x.2.1,z0o x.2.2 y.2.2),0) else(zFr,2)) else(zFr,errF y)) else(zFr,errF x)
theorem zam(M:Mem):FrV M (.agg [I 0,I 0,.slice none 0 true 0]) zFr:=⟨none,true,0,rfl,.inl rfl⟩
theorem zak{x:Fr}(h:errF x=0):0<=x.1 /\ x.1<=60000 /\ 0<=x.2.1 /\ x.2.1<=23 /\ 1<=x.2.2.length /\ x.2.2.length<=64 /\ x.2.2.all smB=true:=by
 unfold errF at h
 cases hb:frB x with
 | false=>rw[hb] at h;simp at h
 | true =>
  unfold frB smsB btB at hb
  simp only[Bool.and_eq_true,decide_eq_true_eq] at hb
  obtain⟨⟨h1,h2⟩,⟨h3,h4⟩,⟨h5,h6⟩,h7⟩:=hb
  exact⟨h1,h2,h3,h4,by omega,by omega,h7⟩
set_option maxHeartbeats 4000000 in
theorem zok{M:Mem}{v w:LV}{x y:Fr}(hv:FrV M v x)(hw:FrV M w y)(hx:FrIn x)(hy:FrIn y) :
  za Tryz.prog 56 [v,w] M (fun r M'=>∃ q,r=.tup [q,I (joinF x y).2] /\ FrV M' q (joinF x y).1 /\ Grow M M'):=by
 have hv0:=hv
 have hw0:=hw
 obtain⟨a,f,e,rfl,hs⟩:=hv
 obtain⟨b,f',e',rfl,hs'⟩:=hw
 refine zd k56 rfl ?_
 dsimp only[x56,zM,zO,zI,zF,zS,zB,zL,zA,zE,zN,zW,zC,zipE,Nat.reduceAdd]
 by_cases hex:errF x=0
 ·have hc1:∀ M',Grow M M'->za Tryz.prog 67 [.agg [I x.1,I x.2.1,.slice a x.2.2.length f e]] M' (fun w M2=>w=I 0 /\ Grow M' M2):=fun M' hg=>by
   have:=z1l (hv0.grow hg) hx
   rw[hex] at this;exact this
  obtain⟨u1,u2,u3,u4,u5,u6,u7⟩:=zak hex
  by_cases hey:errF y=0
  ·have hc2:∀ M',Grow M M'->za Tryz.prog 67 [.agg [I y.1,I y.2.1,.slice b y.2.2.length f' e']] M' (fun w M2=>w=I 0 /\ Grow M' M2):=fun M' hg=>by
    have:=z1l (hw0.grow hg) hy
    rw[hey] at this;exact this
   obtain⟨w1,w2,w3,w4,w5,w6,w7⟩:=zak hey
   repeat' first|with_reducible intro _|refine sv ?_|refine su ?_|(refine sc ?_ ?_<;>(intro h;try exact sz h))|((with_reducible first|apply z1m|apply z1p|apply d_pure0);exact gd;exact rfl;exact rfl;(first|exact hc1 _ (xg)|exact hc2 _ (xg)|exact zd4 (hv0.grow (xg))|exact zd4 (hw0.grow (xg))))|refine sg ?_ ?_<;>(intro h;first|exact sz h|refine sy h ?_)|exact sq|fail
   refine zbq gd (zla rfl rfl) ?_
   by_cases hk:x.1=y.1 /\ x.2.1=y.2.1
   ·have hj:joinF x y=((x.1,x.2.1,z0o x.2.2 y.2.2),0):=by unfold joinF;rw[if_pos hex,if_pos hey,if_pos hk]
    rw[hj]
    have hcb:∀ M',Grow M M'->za Tryz.prog 102 [.slice a x.2.2.length f e,.slice b y.2.2.length f' e'] M' (fun w M2=>Vec M'.next 1 3 intc M2 w (z0o x.2.2 y.2.2) /\ Grow M' M2):=fun M' hg=>zli (hs.grow hg) (hs'.grow hg) (by omega) (by omega)
    repeat' first|with_reducible intro _|refine sv ?_|refine sc ?_ ?_<;>(intro h;try exact sz h)|((with_reducible first|apply zq|apply z0b|apply x_call0);exact gd;exact rfl;exact rfl;(first|exact hcb _ (xg)))|refine sg ?_ ?_<;>(intro h;first|exact sz h|refine sy h ?_)|exact sq|fail
    rename_i hq
    obtain⟨hv2,hg2⟩:=hq
    obtain⟨av,fv,ev,hve⟩:=hv2.shape
    subst hve
    have hkp:=fun M2 hk=>SlI.vec (hv2.keep (M':=M2) hk (fun i hi=>hi))
    repeat' first|with_reducible intro _|refine sv ?_|refine sc ?_ ?_<;>(intro h;try exact sz h)|refine sg ?_ ?_<;>(intro h;first|exact sz h|refine sy h ?_)|exact sq|fail
    rename_i M8 hu8 e8 hA8 M9 hu9 e9 hA9
    obtain⟨a3,f3,e3,hve3,hvs⟩:=hkp M9 (xk)
    cases hve3
    refine kf ?_
    exact⟨_,rfl,⟨_,_,_,rfl,hvs⟩,xg⟩
   ·have hj:joinF x y=(zFr,2):=by unfold joinF;rw[if_pos hex,if_pos hey,if_neg hk]
    rw[hj]
    repeat' first|with_reducible intro _|refine sv ?_|refine sc ?_ ?_<;>(intro h;try exact sz h)|refine sg ?_ ?_<;>(intro h;first|exact sz h|refine sy h ?_)|exact sq|fail
    refine kf ?_
    exact⟨_,rfl,zam _,xg⟩
  ·have hj:joinF x y=(zFr,errF y):=by unfold joinF;rw[if_pos hex,if_neg hey]
   rw[hj]
   repeat' first|with_reducible intro _|refine sv ?_|refine su ?_|(refine sc ?_ ?_<;>(intro h;try exact sz h))|((with_reducible first|apply z1m|apply z1p|apply d_pure0);exact gd;exact rfl;exact rfl;(first|exact hc1 _ (xg)|exact z1l (hw0.grow (xg)) hy))|refine sg ?_ ?_<;>(intro h;first|exact sz h|refine sy h ?_)|exact sq|fail
   refine kf ?_
   exact⟨_,rfl,zam _,xg⟩
 ·have hj:joinF x y=(zFr,errF x):=by unfold joinF;rw[if_neg hex]
  rw[hj]
  repeat' first|with_reducible intro _|refine sv ?_|refine su ?_|(refine sc ?_ ?_<;>(intro h;try exact sz h))|((with_reducible first|apply z1m|apply z1p|apply d_pure0);exact gd;exact rfl;exact rfl;(first|exact z1l (hv0.grow (xg)) hx))|refine sg ?_ ?_<;>(intro h;first|exact sz h|refine sy h ?_)|exact sq|fail
  refine kf ?_
  exact⟨_,rfl,zam _,xg⟩
theorem zfo(a:Int):joinI a a=a:=by unfold joinI;simp
theorem zfn(a b:Int):joinI a b=joinI b a:=by unfold joinI;split<;>split<;>(try split)<;>omega
theorem zdc(a b c:Int):joinI (joinI a b) c=joinI a (joinI b c):=by
 unfold joinI
 by_cases h1:a=b<;>by_cases h2:b=40000<;>by_cases h3:a=40000<;>by_cases h4:c=40000<;>by_cases h5:b=c<;>by_cases h6:a=c<;>simp_all<;>(split<;>simp_all)
theorem z3y(a b:List Int)(k:Nat):getG (z0o a b) k=joinI (getG a k) (getG b k):=by
 by_cases hk:k < max a.length b.length
 ·rw[z4x (by rw[z1e];exact hk)]
  unfold z0o
  simp
 ·rw[z7u (by rw[z1e];omega),z7u (l:=a) (by omega),z7u (l:=b) (by omega)];rfl
theorem z71{a b:List Int}(hl:a.length=b.length)(h:∀ k,getG a k=getG b k):a=b:=by
 refine List.ext_getElem hl fun k h1 h2=>?_
 have:=h k
 rw[z4x h1,z4x h2] at this;exact this
theorem zf4(a b:List Int):z0o a b=z0o b a :=
 z71 (by rw[z1e,z1e];omega) fun k=>by rw[z3y,z3y,zfn]
theorem zf5(a:List Int):z0o a a=a :=
 z71 (by rw[z1e];omega) fun k=>by rw[z3y,zfo]
theorem z4r(a b c:List Int):z0o (z0o a b) c=z0o a (z0o b c) :=
 z71 (by simp only[z1e];omega) fun k=>by simp only[z3y];exact zdc _ _ _
theorem zm0{l:List Int}(h:l.all smB=true)(k:Nat):smB (getG l k)=true:=by
 by_cases hk:k < l.length
 ·rw[z4x hk];exact List.all_eq_true.1 h _ (List.getElem_mem hk)
 ·rw[z7u (by omega)];rfl
theorem zno{a b:Int}(ha:smB a=true)(hb:smB b=true):smB (joinI a b)=true:=by
 unfold joinI
 split
 ·exact ha
 ·split
  ·exact hb
  ·rfl
theorem znn{a b:List Int}(ha:a.all smB=true)(hb:b.all smB=true):(z0o a b).all smB=true:=by
 rw[List.all_eq_true]
 intro x hx
 unfold z0o at hx
 obtain⟨k,_,rfl⟩:=List.mem_map.1 hx
 exact zno (zm0 ha k) (zm0 hb k)
theorem zpo{n:Int}(h:smB n=true):-32767<=n /\ n<=40001:=by
 unfold smB knB at h
 simp only[Bool.or_eq_true,decide_eq_true_eq] at h
 omega
theorem zr7{x:Fr}(h:errF x=0):FrIn x:=by
 obtain⟨h1,h2,h3,h4,h5,h6,h7⟩:=zak h
 refine⟨⟨by omega,by omega⟩,⟨by omega,by omega⟩,by omega,fun n hn=>?_⟩
 have:=zpo (List.all_eq_true.1 h7 n hn)
 exact⟨by omega,by omega⟩
end Go.Proofs.YtbfnnllgdioccaaGreatDoor.C
end
section
open Go PvL
set_option linter.unusedSimpArgs false
set_option linter.unusedVariables false
namespace Go.Proofs.YtbfnnllgdioccaaGreatDoor.C
abbrev Rk:=List (Ky × List Int)
abbrev fky(x:Fr):Ky:=(x.1,x.2.1)
def lkK:Rk->Ky->Option (List Int)
 | [],_=>none
 |(a,b) :: L,k=>if k=a then some b else lkK L k
def stK:Rk->Ky->List Int->Rk
 | [],k,v=>[(k,v)]
 |(a,b) :: L,k,v=>if k=a then(k,v) :: L else(a,b) :: stK L k v
theorem zhp:∀(L:Rk) (k:Ky) (v:List Int) (k':Ky),lkK (stK L k v) k'=if k'=k then some v else lkK L k'
 | [],k,v,k'=>rfl
 |(a,b) :: L,k,v,k'=>by
  unfold stK
  by_cases h:k=a
  ·subst h
   rw[if_pos rfl]
   show(if k'=k then some v else lkK L k')=if k'=k then some v else(if k'=k then some b else lkK L k')
   by_cases h2:k'=k
   ·rw[if_pos h2,if_pos h2]
   ·rw[if_neg h2,if_neg h2,if_neg h2]
  ·rw[if_neg h]
   show(if k'=a then some b else lkK (stK L k v) k')=if k'=k then some v else(if k'=a then some b else lkK L k')
   rw[zhp L k v k']
   by_cases h2:k'=a
   ·subst h2
    rw[if_pos rfl,if_neg (fun h3=>h h3.symm),if_pos rfl]
   ·rw[if_neg h2,if_neg h2]
theorem zdq:∀(L:Rk) (k:Ky) (v:List Int),(stK L k v).map (·.1)=if (lkK L k).isSome then L.map (·.1) else L.map (·.1) ++ [k]
 | [],k,v=>rfl
 |(a,b) :: L,k,v=>by
  unfold stK
  by_cases h:k=a
  ·subst h
   rw[if_pos rfl]
   have:lkK ((k,b) :: L) k=some b:=by show(if k=k then some b else lkK L k)=_;rw[if_pos rfl]
   rw[this];rfl
  ·have e:lkK ((a,b) :: L) k=lkK L k:=by show(if k=a then some b else lkK L k)=_;rw[if_neg h]
   rw[if_neg h,e,List.map_cons,zdq L k v]
   split<;>rfl
theorem zhq:∀(L:Rk) (k:Ky),(lkK L k).isSome=true ↔ k ∈ L.map (·.1)
 | [],k=>by simp[lkK]
 |(a,b) :: L,k=>by
  by_cases h:k=a
  ·subst h
   have:lkK ((k,b) :: L) k=some b:=by show(if k=k then some b else lkK L k)=_;rw[if_pos rfl]
   rw[this];simp
  ·have e:lkK ((a,b) :: L) k=lkK L k:=by show(if k=a then some b else lkK L k)=_;rw[if_neg h]
   rw[e,zhq L k];simp[h]
def RkN(L:Rk):Prop:=(L.map (·.1)).Nodup
theorem RkN.st{L:Rk}(h:RkN L)(k:Ky)(v:List Int):RkN (stK L k v):=by
 unfold RkN at *
 rw[zdq]
 split
 ·exact h
 ·rename_i hn
  have:k ∉ L.map (·.1):=fun hk=>hn ((zhq L k).2 hk)
  rw[List.nodup_append]
  exact⟨h,by simp,fun a ha b hb=>by
   obtain rfl:b=k:=by simpa using hb
   rintro rfl;exact this ha⟩
def rkA(R:Rk)(f:Fr):Rk:=stK R (fky f) (z0o ((lkK R (fky f)).getD []) f.2.2)
def addR:List Fr->Fr->List Fr
 | [],f=>[f]
 | g :: l,f=>if keyI g=keyI f then(g.1,g.2.1,z0o g.2.2 f.2.2) :: l else if keyI g > keyI f then f :: g :: l else g :: addR l f
def z20(l:List Fr):List Fr:=l.foldl addR []
def rackF(l:List Fr):Rk:=l.foldl rkA []
theorem zbg(l:List Int):z0o [] l=l:=by
 refine z71 ?_ fun k=>?_
 ·rw[z1e];simp
 ·rw[z3y]
  have:getG [] k=40000:=rfl
  rw[this]
  unfold joinI
  split
  ·rename_i h;rcases h with h|h
   ·exact h
   ·exact h.symm
  ·rw[if_pos rfl]
def FrK(x:Fr):Prop:=0<=x.1 /\ x.1<=60000 /\ 0<=x.2.1 /\ x.2.1<=23
theorem zhh{x y:Fr}(hx:FrK x)(hy:FrK y):keyI x < keyI y ↔ klt (fky x) (fky y):=by unfold FrK keyI klt at *;dsimp only;omega
theorem zhg{x y:Fr}(hx:FrK x)(hy:FrK y):keyI x=keyI y ↔ fky x=fky y:=by
 unfold FrK keyI at *
 constructor
 ·intro h;exact Prod.ext (by dsimp only;omega) (by dsimp only;omega)
 ·intro h
  have h1:(fky x).1=(fky y).1:=congrArg Prod.fst h
  have h2:(fky x).2=(fky y).2:=congrArg Prod.snd h
  dsimp only at h1 h2
  omega
def lkJ:List Fr->Ky->Option (List Int)
 | [],_=>none
 | x :: l,k=>if k=fky x then some x.2.2 else lkJ l k
theorem z8v(x:Fr)(l:List Fr)(k:Ky):lkJ (x :: l) k=if k=fky x then some x.2.2 else lkJ l k:=rfl
theorem zhn:∀(J:List Fr) (k:Ky),(lkJ J k).isSome=true ↔ k ∈ J.map fky
 | [],k=>by simp[lkJ]
 | x :: J,k=>by
  rw[z8v]
  by_cases h:k=fky x
  ·rw[if_pos h];simp[h]
  ·rw[if_neg h,zhn J k];simp[h]
def SrtJ(J:List Fr):Prop:=J.Pairwise fun x y=>klt (fky x) (fky y)
theorem zho{J:List Fr}{k:Ky}(h:∀ x ∈ J,klt k (fky x)):lkJ J k=none:=by
 induction J with
 | nil=>rfl
 | cons x J ih =>
  rw[z8v,if_neg (fun e=>z1i (fky x) (by have:=h x (by simp);rw[e] at this;exact this))]
  exact ih fun y hy=>h y (by simp[hy])
theorem zcv:∀ {J:List Fr} {f:Fr},SrtJ J->(∀ x ∈ J,FrK x)->FrK f->SrtJ (addR J f) /\ (∀ x ∈ addR J f,FrK x) /\ (∀ k,lkJ (addR J f) k=if k=fky f then some (z0o ((lkJ J (fky f)).getD []) f.2.2) else lkJ J k) /\ (∀ x ∈ addR J f,fky x=fky f ∨ ∃ y ∈ J,fky y=fky x)
 | [],f,_,_,hf=>by
  have hm:∀ {x},x ∈ addR [] f->x=f:=fun {x} hx=>by
   have hx:x ∈ [f]:=hx
   simpa using hx
  refine⟨?_,fun x hx=>?_,fun k=>?_,fun x hx=>?_⟩
  ·show List.Pairwise _ [f]
   simp
  ·rw[hm hx];exact hf
  ·show lkJ [f] k=if k=fky f then some (z0o [] f.2.2) else none
   rw[zbg];rfl
  ·rw[hm hx];exact .inl rfl
 | g :: l,f,hs,hk,hf=>by
  have hg:=hk g (by simp)
  have hs':SrtJ l:=(List.pairwise_cons.1 hs).2
  have hgl:=(List.pairwise_cons.1 hs).1
  unfold addR
  by_cases he:keyI g=keyI f
  ·rw[if_pos he]
   have hke:=(zhg hg hf).1 he
   refine⟨List.pairwise_cons.2 ⟨hgl,hs'⟩,fun x hx=>?_,fun k=>?_,fun x hx=>?_⟩
   ·rcases List.mem_cons.1 hx with rfl|hx
    ·exact hg
    ·exact hk x (by simp[hx])
   ·rw[z8v,z8v,z8v,if_pos hke.symm,Option.getD_some]
    by_cases h:k=fky f
    ·rw[if_pos h,if_pos (show k=(g.1,g.2.1) by rw[h];exact hke.symm)]
    ·rw[if_neg h,if_neg (show ¬ k=(g.1,g.2.1) from fun e=>h (by rw[e];exact hke)),if_neg (fun e=>h (by rw[e];exact hke))]
   ·rcases List.mem_cons.1 hx with rfl|hx
    ·exact .inl hke
    ·exact .inr ⟨x,by simp[hx],rfl⟩
  ·rw[if_neg he]
   by_cases hgt:keyI g > keyI f
   ·rw[if_pos hgt]
    have hlt:=(zhh hf hg).1 hgt
    have hall:∀ x ∈ g :: l,klt (fky f) (fky x):=fun x hx=>by
     rcases List.mem_cons.1 hx with rfl|hx
     ·exact hlt
     ·exact z5m hlt (hgl x hx)
    refine⟨List.pairwise_cons.2 ⟨hall,hs⟩,fun x hx=>?_,fun k=>?_,fun x hx=>?_⟩
    ·rcases List.mem_cons.1 hx with rfl|hx
     ·exact hf
     ·exact hk x hx
    ·rw[zho hall,Option.getD_none,zbg];rfl
    ·rcases List.mem_cons.1 hx with rfl|hx
     ·exact .inl rfl
     ·exact .inr ⟨x,hx,rfl⟩
   ·rw[if_neg hgt]
    have hlt:=(zhh hg hf).1 (by omega)
    have hne:¬ fky f=fky g:=fun e=>he ((zhg hg hf).2 e.symm)
    obtain⟨i1,i2,i3,i4⟩:=zcv (J:=l) (f:=f) hs' (fun x hx=>hk x (by simp[hx])) hf
    refine⟨List.pairwise_cons.2 ⟨fun x hx=>?_,i1⟩,fun x hx=>?_,fun k=>?_,fun x hx=>?_⟩
    ·rcases i4 x hx with h|⟨y,hy,h⟩
     ·rw[h];exact hlt
     ·rw[<-h];exact hgl y hy
    ·rcases List.mem_cons.1 hx with rfl|hx
     ·exact hg
     ·exact i2 x hx
    ·rw[z8v,i3,z8v,z8v,if_neg hne]
     by_cases h:k=fky g
     ·rw[if_pos h,if_neg (fun e=>hne (by rw[<-e];exact h)),if_pos h]
     ·rw[if_neg h,if_neg h]
    ·rcases List.mem_cons.1 hx with rfl|hx
     ·exact .inr ⟨x,by simp,rfl⟩
     ·rcases i4 x hx with h|⟨y,hy,h⟩
      ·exact .inl h
      ·exact .inr ⟨y,by simp[hy],h⟩
structure RJ (R:Rk) (J:List Fr):Prop where
 n:RkN R
 s:SrtJ J
 k:∀ x ∈ J,FrK x
 e:∀ k,lkK R k=lkJ J k
theorem RJ.nil:RJ [] []:={ n:=List.nodup_nil,s:=List.Pairwise.nil,k:=fun _ h=>(nomatch h),e:=fun _=>rfl }
theorem RJ.add{R:Rk}{J:List Fr}(h:RJ R J){f:Fr}(hf:FrK f):RJ (rkA R f) (addR J f):=by
 obtain⟨h1,h2,h3,h4⟩:=zcv h.s h.k hf
 refine⟨h.n.st _ _,h1,h2,fun k=>?_⟩
 unfold rkA
 rw[zhp,h3 k,h.e,h.e]
theorem RJ.all{l:List Fr}:∀ {R:Rk} {J:List Fr},RJ R J->(∀ x ∈ l,FrK x)->RJ (l.foldl rkA R) (l.foldl addR J):=by
 induction l with
 | nil=>intro R J h _;exact h
 | cons f l ih=>intro R J h hl;exact ih (h.add (hl f (by simp))) fun x hx=>hl x (by simp[hx])
theorem znl{l:List Fr}(hl:∀ x ∈ l,FrK x):RJ (rackF l) (z20 l):=RJ.nil.all hl
theorem pig:∀(n:Nat) (l:List Nat),l.Nodup->(∀ x ∈ l,x < n)->l.length<=n
 | 0,l,_,h=>by
  cases l with
  | nil=>exact Nat.le_refl _
  | cons x l=>exact absurd (h x (by simp)) (Nat.not_lt_zero _)
 | n+1,l,hn,h=>by
  by_cases hm:n ∈ l
  ·have h1:=pig n (l.erase n) (hn.erase n) fun x hx=>by
    have h2:=(hn.mem_erase_iff).1 hx
    have h3:=h x h2.2
    have h4:=h2.1
    omega
   rw[List.length_erase_of_mem hm] at h1
   omega
  ·exact Nat.le_succ_of_le (pig n l hn fun x hx=>by
    have h1:=h x hx
    have h2:x ≠ n:=fun e=>hm (e ▸ hx)
    omega)
theorem zii:∀ {a b:List Ky},a.Pairwise klt->b.Pairwise klt->(∀ k,k ∈ a ↔ k ∈ b)->a=b
 | [],[],_,_,_=>rfl
 | [],y :: b,_,_,h=>by have:=(h y).2 (by simp);simp at this
 | x :: a,[],_,_,h=>by have:=(h x).1 (by simp);simp at this
 | x :: a,y :: b,ha,hb,h=>by
  have ha':=List.pairwise_cons.1 ha
  have hb':=List.pairwise_cons.1 hb
  have hxy:x=y:=by
   rcases List.mem_cons.1 ((h x).1 (by simp)) with e|hx
   ·exact e
   rcases List.mem_cons.1 ((h y).2 (by simp)) with e|hy
   ·exact e.symm
   ·exact absurd (z5m (ha'.1 y hy) (hb'.1 x hx)) (z1i x)
  subst hxy
  rw[zii ha'.2 hb'.2 fun k=>?_]
  have h1:=h k
  simp only[List.mem_cons] at h1
  constructor
  ·intro hk
   rcases h1.1 (.inr hk) with e|e
   ·subst e;exact absurd (ha'.1 k hk) (z1i k)
   ·exact e
  ·intro hk
   rcases h1.2 (.inr hk) with e|e
   ·subst e;exact absurd (hb'.1 k hk) (z1i k)
   ·exact e
theorem RJ.keys{R:Rk}{J:List Fr}(h:RJ R J)(k:Ky):k ∈ R.map (·.1) ↔ k ∈ J.map fky:=by rw[<-zhq,<- zhn,h.e]
theorem SrtJ.keys{J:List Fr}(h:SrtJ J):(J.map fky).Pairwise klt:=by unfold SrtJ at h;rw[List.pairwise_map];exact h
def frK(R:Rk)(k:Ky):Fr:=(k.1,k.2,(lkK R k).getD [])
theorem zlu:∀ {J:List Fr},SrtJ J->∀ x ∈ J,lkJ J (fky x)=some x.2.2
 | y :: J,hs,x,hx=>by
  have hs':=List.pairwise_cons.1 hs
  rw[z8v]
  rcases List.mem_cons.1 hx with rfl|hx
  ·rw[if_pos rfl]
  ·rw[if_neg (fun e=>z1i (fky y) (by have:=hs'.1 x hx;rw[e] at this;exact this))]
   exact zlu hs'.2 x hx
theorem RJ.frames{R:Rk}{J:List Fr}(h:RJ R J){ks:List Ky}(hs:ks.Pairwise klt)(hm:∀ k,k ∈ ks ↔ k ∈ R.map (·.1)):ks.map (frK R)=J:=by
 have e:ks=J.map fky:=zii hs h.s.keys fun k=>by rw[hm,h.keys]
 subst e
 rw[List.map_map]
 conv=>rhs;rw[<-List.map_id J]
 refine List.map_congr_left fun x hx=>?_
 show frK R (fky x)=x
 unfold frK
 rw[h.e,zlu h.s x hx];rfl
theorem RJ.len{R:Rk}{J:List Fr}(h:RJ R J):R.length=J.length:=by
 have h1:(J.map fky).Nodup:=h.s.keys.imp fun hk e=>by subst e;exact z1i _ hk
 have hle:∀ {a b:List Ky},a.Nodup->(∀ k ∈ a,k ∈ b)->a.length<=b.length:=by
  intro a
  induction a with
  | nil=>intro b _ _;exact Nat.zero_le _
  | cons x a ih =>
   intro b hn hs
   have hn':=List.nodup_cons.1 hn
   have:=ih (b:=b.erase x) hn'.2 fun k hk=>(List.mem_erase_of_ne (fun e=>hn'.1 (by rw[<-e];exact hk))).2 (hs k (by simp[hk]))
   rw[List.length_erase_of_mem (hs x (by simp))] at this
   have h2:0 < b.length:=List.length_pos_of_mem (hs x (by simp))
   rw[List.length_cons];omega
 have h2:=hle h.n fun k hk=>(h.keys k).1 hk
 have h3:=hle h1 fun k hk=>(h.keys k).2 hk
 simp only[List.length_map] at h2 h3
 omega
end Go.Proofs.YtbfnnllgdioccaaGreatDoor.C
end
section
open Go PvL Go.Proofs
variable {μ:Md}
set_option linter.unusedVariables false
set_option linter.unusedSimpArgs false
namespace Go.Proofs.YtbfnnllgdioccaaGreatDoor.C
abbrev kyv(k:Ky):LV:=.agg [I k.1,I k.2]
abbrev zsl:LV:=.slice none 0 true 0
abbrev Mk:=List (Ky × LV)
def encK(L:Mk):List (LV × LV):=L.map fun p=>(kyv p.1,p.2)
def lkM:Mk->Ky->Option LV
 | [],_=>none
 |(a,b) :: L,k=>if k=a then some b else lkM L k
def stV:Mk->Ky->LV->Mk
 | [],k,v=>[(k,v)]
 |(a,b) :: L,k,v=>if k=a then(k,v) :: L else(a,b) :: stV L k v
theorem zk4(a:Ky)(b:LV)(L:Mk)(k:Ky):lkM ((a,b) :: L) k=if k=a then some b else lkM L k:=rfl
theorem zg8(a:Ky)(b:LV)(L:Mk)(k:Ky)(v:LV):stV ((a,b) :: L) k v=if k=a then(k,v) :: L else(a,b) :: stV L k v:=rfl
theorem zjs{P:Program}{t e:TypeId}(hu:P.underlying t=some (.array 2 e))(hi:P.underlying e=some (.int .i64))(hs:szOf P e=some 1)(ha:aggSz P e=some none)(a b c d:Int) :
  eqL P Op.maxDepth t (.agg [I a,I b]) (.agg [I c,I d])=some (decide (a=c) && decide (b=d)):=by
 have he:∀ x y:Int,eqL P (Op.maxDepth - 1) e (I x) (I y)=some (decide (x=y)):=fun x y=>by
  show eqL P (Op.maxDepth - 2+1) e (I x) (I y)=_
  unfold eqL
  rw[hi]
  show guard' (kEq .i64 .i64) (some (ieq x y))=_
  rw[z2g.2 rfl,z6,z3n]
  rfl
 have hp:∀(i:Nat) (xs ys:List LV) (x y:Int),nth xs i=some (I x)->nth ys i=some (I y)->eqPart P (eqL P (Op.maxDepth - 1)) e i xs ys=some (decide (x=y)):=fun i xs ys x y h1 h2=>by
  unfold eqPart
  rw[ha,z0,z2v,h1,z0,h2,z0];exact he x y
 show eqL P (Op.maxDepth - 1+1) t _ _=_
 unfold eqL
 rw[hu]
 show ob (szOf P e) _=_
 rw[hs,z0]
 show andO (eqPart P (eqL P (Op.maxDepth - 1)) e 0 [I a,I b] [I c,I d]) (andO (eqPart P (eqL P (Op.maxDepth - 1)) e 1 [I a,I b] [I c,I d]) (some true))=_
 rw[hp 0 _ _ a c rfl rfl,hp 1 _ _ b d rfl rfl]
 unfold andO
 rw[z0,z0]
 by_cases h1:a=c<;>by_cases h2:b=d<;>simp[h1,h2,ifb]
theorem zn0(a b c d:Int):eqL Tryz.prog Op.maxDepth 114 (.agg [I a,I b]) (.agg [I c,I d])=some (decide (a=c) && decide (b=d)) :=
 zjs (e:=3) (by kernel_rfl) (by kernel_rfl) (by kernel_rfl) (by kernel_rfl) a b c d
theorem zlp(a b:Ky):eqL Tryz.prog Op.maxDepth 114 (kyv a) (kyv b)=some (decide (a=b)):=by
 refine(zn0 a.1 a.2 b.1 b.2).trans ?_
 by_cases h:a=b
 ·subst h;simp
 ·rw[decide_eq_false h]
  have:¬(a.1=b.1 /\ a.2=b.2):=fun⟨h1,h2⟩=>h (Prod.ext h1 h2)
  by_cases h1:a.1=b.1
  ·have h2:¬ a.2=b.2:=fun h2=>this ⟨h1,h2⟩
   simp[h2]
  ·simp[h1]
theorem zp3(a:Ky)(b:LV)(L:Mk):encK ((a,b) :: L)=(kyv a,b) :: encK L:=rfl
theorem z67{P:Program}{kt:TypeId}(heq:∀ a b:Ky,eqL P Op.maxDepth kt (kyv a) (kyv b)=some (decide (a=b)))(k a:Ky)(b:LV)(L:Mk)(i:Nat):findL P kt (kyv k) (encK ((a,b) :: L)) i=if k=a then some (some (i,kyv a,b)) else findL P kt (kyv k) (encK L) (i+1):=by
 rw[zp3]
 generalize encK L=es
 have hk:=heq k a
 generalize kyv k=kv at *
 generalize kyv a=av at *
 show ob (eqL P Op.maxDepth kt kv av) (fun b'=>ifb b' (some (some (i,av,b))) (findL P kt kv es (i+1)))=_
 rw[hk,z0]
 by_cases hab:k=a
 ·rw[decide_eq_true hab,zf,if_pos hab]
 ·rw[decide_eq_false hab,z8,if_neg hab]
theorem z7p{P:Program}{kt:TypeId}(heq:∀ a b:Ky,eqL P Op.maxDepth kt (kyv a) (kyv b)=some (decide (a=b)))(k:Ky):∀(L:Mk) (i:Nat),lkM L k=none->findL P kt (kyv k) (encK L) i=some none /\ ∀ v,encK L ++ [(kyv k,v)]=encK (stV L k v)
 | [],i,_=>⟨rfl,fun v=>rfl⟩
 |(a,b) :: L,i,h=>by
  rw[zk4] at h
  by_cases hka:k=a
  ·rw[if_pos hka] at h;cases h
  ·rw[if_neg hka] at h
   obtain⟨h1,h2⟩:=z7p heq k L (i+1) h
   constructor
   ·rw[z67 heq,if_neg hka,h1]
   ·intro v
    rw[zg8,if_neg hka]
    show(kyv a,b) ::(encK L ++ [(kyv k,v)])=(kyv a,b) :: encK (stV L k v)
    rw[h2 v]
theorem z7q{P:Program}{kt:TypeId}(heq:∀ a b:Ky,eqL P Op.maxDepth kt (kyv a) (kyv b)=some (decide (a=b)))(k:Ky):∀(L:Mk) (i:Nat) (b:LV),lkM L k=some b->∃ j,findL P kt (kyv k) (encK L) i=some (some (i+j,kyv k,b)) /\ ∀ v,setVal (encK L) j (kyv k) v=encK (stV L k v)
 | [],i,b,h=>by cases h
 |(a,c) :: L,i,b,h=>by
  rw[zk4] at h
  by_cases hka:k=a
  ·rw[if_pos hka] at h
   obtain rfl:=Option.some.inj h
   subst hka
   refine⟨0,?_,fun v=>?_⟩
   ·rw[z67 heq,if_pos rfl,Nat.add_zero]
   ·rw[zg8,if_pos rfl];rfl
  ·rw[if_neg hka] at h
   obtain⟨j,h1,h2⟩:=z7q heq k L (i+1) b h
   refine⟨j+1,?_,fun v=>?_⟩
   ·rw[z67 heq,if_neg hka,h1,Nat.add_assoc,Nat.add_comm 1 j]
   ·rw[zg8,if_neg hka]
    show(kyv a,c) :: setVal (encK L) j (kyv k) v=(kyv a,c) :: encK (stV L k v)
    rw[h2 v]
theorem z96(k:Ky)(L:Mk)(i:Nat)(h:lkM L k=none):findL Tryz.prog 114 (kyv k) (encK L) i=some none /\ ∀ v,encK L ++ [(kyv k,v)]=encK (stV L k v):=z7p zlp k L i h
theorem z97(k:Ky)(L:Mk)(i:Nat)(b:LV)(h:lkM L k=some b):∃ j,findL Tryz.prog 114 (kyv k) (encK L) i=some (some (i+j,kyv k,b)) /\ ∀ v,setVal (encK L) j (kyv k) v=encK (stV L k v):=z7q zlp k L i b h
theorem zhi(k:Ky):keyOk Tryz.prog 10000 114 (kyv k)=true:=by kernel_rfl
structure StOk (bs:List Nat) (clk n:Nat):Prop where
 len:bs.length=n
 nodup:bs.Nodup
 lt:∀ b ∈ bs,b < clk
def SlV(M:Mem)(v:LV)(l:List Int):Prop:=∃ a f e,v=.slice a l.length f e /\ (l ≠ []->e=1) /\ SlI M a l
inductive RkL (M:Mem):Mk->Rk->Prop
 | nil:RkL M [] []
 | cons {k:Ky} {v:LV} {l:List Int} {L:Mk} {R:Rk} (h:SlV M v l) (h':RkL M L R):RkL M ((k,v) :: L) ((k,l) :: R)
def RkM(M:Mem)(r:Nat)(R:Rk):Prop:=∃ L bs clk,At M r (.map (encK L) bs clk) /\ StOk bs clk L.length /\ RkL M L R
variable {M M':Mem} {L:Mk} {R:Rk} {r:Nat} {k:Ky}
theorem SlV.grow{v:LV}{l:List Int}(h:SlV M v l)(hg:Grow M M'):SlV M' v l:=by
 obtain⟨a,f,e,h1,h0,h2⟩:=h
 exact⟨a,f,e,h1,h0,h2.grow hg⟩
theorem SlV.nil:SlV M zsl []:=⟨none,true,0,rfl,fun h=>absurd rfl h,.inl rfl⟩
theorem SlV.vec{b:Nat}{ty:TypeId}{v:LV}{l:List Int}(h:Vec b 1 ty intc M v l):SlV M v l:=by
 rcases h with⟨rfl,rfl⟩|⟨i,rfl,h2,h3⟩
 ·exact SlV.nil
 ·exact⟨_,_,_,rfl,fun _=>rfl,.inr ⟨i,0,rfl,fun k hk=>z9s (z2x (enc:=intc) h2 (fun _ _=>rfl) hk)⟩⟩
theorem RkL.grow(h:RkL M L R)(hg:Grow M M'):RkL M' L R:=by
 induction h with
 | nil=>exact .nil
 | cons h _ ih=>exact .cons (h.grow hg) ih
theorem RkL.len(h:RkL M L R):L.length=R.length:=by
 induction h with
 | nil=>rfl
 | cons h _ ih=>simp[ih]
theorem RkL.keys(h:RkL M L R):L.map (·.1)=R.map (·.1):=by
 induction h with
 | nil=>rfl
 | cons h _ ih=>simp[ih]
theorem RkL.look(h:RkL M L R)(k:Ky):SlV M ((lkM L k).getD zsl) ((lkK R k).getD []):=by
 induction h with
 | nil=>exact SlV.nil
 | @cons k' v l L R h _ ih =>
  rw[zk4]
  show SlV M _ ((if k=k' then some l else lkK R k).getD [])
  by_cases hk:k=k'
  ·rw[if_pos hk,if_pos hk];exact h
  ·rw[if_neg hk,if_neg hk];exact ih
theorem RkL.put(h:RkL M L R)(k:Ky){v:LV}{l:List Int}(hv:SlV M v l):RkL M (stV L k v) (stK R k l):=by
 induction h with
 | nil=>exact .cons hv .nil
 | @cons k' v' l' L R h hL ih =>
  rw[zg8]
  show RkL M _ (if k=k' then(k,l) :: R else(k',l') :: stK R k l)
  by_cases hk:k=k'
  ·rw[if_pos hk,if_pos hk];exact .cons hv hL
  ·rw[if_neg hk,if_neg hk];exact .cons h ih
theorem RkM.lt(h:RkM M r R):r < M.next:=by
 obtain⟨L,bs,clk,h1,h2,h3⟩:=h
 exact h1.2
theorem Rd1.updm{i o:Nat}{v:LV}{es es':List (LV × LV)}{bs bs':List Nat}{c c':Nat}(h:Rd1 M i o v)(hm:At M r (.map es bs c))(hu:Upd M r (.map es' bs' c') M'):Rd1 M' i o v:=by
 refine Rd1.upd_ne hu (fun e=>?_) h
 subst e
 have h1:=h.1
 unfold load1 atCells at h1
 rw[hm.1] at h1
 cases h1
theorem SlV.updm{v:LV}{l:List Int}{es es':List (LV × LV)}{bs bs':List Nat}{c c':Nat}(h:SlV M v l)(hm:At M r (.map es bs c))(hu:Upd M r (.map es' bs' c') M'):SlV M' v l:=by
 obtain⟨a,f,e,h1,h0,h2⟩:=h
 exact⟨a,f,e,h1,h0,h2.imp id fun⟨i,o,h3,h4⟩=>⟨i,o,h3,fun k hk=>Rd1.updm (h4 k hk) hm hu⟩⟩
theorem RkL.updm{es es':List (LV × LV)}{bs bs':List Nat}{c c':Nat}(h:RkL M L R)(hm:At M r (.map es bs c))(hu:Upd M r (.map es' bs' c') M'):RkL M' L R:=by
 induction h with
 | nil=>exact .nil
 | cons h _ ih=>exact .cons (h.updm hm hu) ih
variable {E:Env} {x y z':XO}
theorem zhs{bs:List Nat}{clk:Nat}(hm:At M r (.map (encK L) bs clk))(hx:xval E x=some (.map (some r)))(hy:xval E y=some (kyv k)):ze Tryz.prog (.lkp 114 zsl false x y) E M=some (.val ((lkM L k).getD zsl) M):=by
 show ob (xval E x) _=_
 rw[hx,z0,hy,z0,zhi,z6]
 show atMap M r _=_
 unfold atMap
 rw[hm.1,z0]
 show ob (findL Tryz.prog 114 (kyv k) (encK L) 0) _=_
 cases hl:lkM L k with
 | none=>rw[(z96 k L 0 hl).1];rfl
 | some b =>
  obtain⟨j,h1,_⟩:=z97 k L 0 b hl
  rw[h1];rfl
theorem zik(L:Mk)(k:Ky)(v:LV):(stV L k v).length=if (lkM L k).isSome then L.length else L.length+1:=by
 induction L with
 | nil=>rfl
 | cons p L ih =>
  obtain⟨a,b⟩:=p
  rw[zg8,zk4]
  by_cases h:k=a
  ·rw[if_pos h,if_pos h];rfl
  ·rw[if_neg h,if_neg h,List.length_cons,ih]
   split<;>simp
theorem zj1{P:Program}{es:List (LV × LV)}{bs:List Nat}{clk:Nat}(hx:xval E x=some (.map (some r)))(hm:At M r (.map es bs clk)):ze P (.len .map x) E M=some (.val (I es.length) M):=by
 show ob (xval E x) _=_
 rw[hx,z0]
 show ob (atMap M r fun es _ _=>mkN es.length) _=_
 unfold atMap
 rw[hm.1]
 show ob (mkN es.length) (rv M)=_
 unfold mkN
 rw[z13];rfl
theorem zao{seen:List Nat}:∀ {bs:List Nat} {es:List (LV × LV)} {b:Nat} {kk v:LV},(b,kk,v) ∈ leftL seen bs es->∃ i:Nat,bs[i]?=some b /\ es[i]?=some (kk,v) /\ b ∉ seen
 | [],_,_,_,_,h=>nomatch h
 | c :: bs,[],_,_,_,h=>nomatch h
 | c :: bs,e :: es,b,kk,v,h=>by
  have h:(b,kk,v) ∈ ifb (memN c seen) (leftL seen bs es) ((c,e) :: leftL seen bs es):=h
  cases hm:memN c seen with
  | true =>
   rw[hm,zf] at h
   obtain⟨i,h1,h2,h3⟩:=zao h
   exact⟨i+1,h1,h2,h3⟩
  | false =>
   rw[hm,z8] at h
   rcases List.mem_cons.1 h with h|h
   ·cases h
    exact⟨0,rfl,rfl,fun hh=>by rw[z89.2 hh] at hm;cases hm⟩
   ·obtain⟨i,h1,h2,h3⟩:=zao h
    exact⟨i+1,h1,h2,h3⟩
theorem zeh{seen:List Nat}:∀ {bs:List Nat} {es:List (LV × LV)},leftL seen bs es=[]->bs.length=es.length->∀ b ∈ bs,b ∈ seen
 | [],_,_,_,b,hb=>nomatch hb
 | c :: bs,[],_,hl,_,_=>by simp at hl
 | c :: bs,e :: es,h,hl,b,hb=>by
  have h:ifb (memN c seen) (leftL seen bs es) ((c,e) :: leftL seen bs es)=[]:=h
  cases hm:memN c seen with
  | false=>rw[hm,z8] at h;cases h
  | true =>
   rw[hm,zf] at h
   rcases List.mem_cons.1 hb with rfl|hb
   ·exact z89.1 hm
   ·exact zeh h (by simpa using hl) b hb
theorem zcq{n:Nat}:∀ {bs:List Nat} {es:List (LV × LV)} {i:Nat} {e:LV × LV},bs.Nodup->bs[i]?=some n->es[i]?=some e->stampL n bs es=some e
 | [],_,i,_,_,h,_=>by simp at h
 | c :: bs,[],i,_,_,_,h=>by simp at h
 | c :: bs,f :: es,0,e,hn,h1,h2=>by
  obtain rfl:c=n:=by simpa using h1
  obtain rfl:f=e:=by simpa using h2
  show ifb (Nat.beq c c) (some f) _=_
  rw[show Nat.beq c c=true by simp];rfl
 | c :: bs,f :: es,i+1,e,hn,h1,h2=>by
  have hn':=List.nodup_cons.1 hn
  have hne:¬ c=n:=by
   rintro rfl
   exact hn'.1 (List.mem_of_getElem? (i:=i) (by simpa using h1))
  show ifb (Nat.beq c n) (some f) (stampL n bs es)=_
  rw[show Nat.beq c n=false by cases hb:Nat.beq c n;rfl;exact absurd (Nat.eq_of_beq_eq_true hb) hne,z8]
  exact zcq hn'.2 (by simpa using h1) (by simpa using h2)
theorem zdw{n:Nat}:∀ {l:List Nat},(∀ x ∈ l,x < n)->allLt n l=true
 | [],_=>rfl
 | x :: l,h=>by
  show ifb (Nat.ble (Nat.succ x) n) (allLt n l) false=true
  rw[Nat.ble_eq_true_of_le (h x (by simp)),zf]
  exact zdw fun y hy=>h y (by simp[hy])
theorem za4{n x:Nat}:∀ {l:List Nat},x ∈ l->x < n->anyLt n l=true
 | [],h,_=>nomatch h
 | y :: l,h,hx=>by
  show ifb (Nat.ble (Nat.succ y) n) true (anyLt n l)=true
  cases hb:Nat.ble (Nat.succ y) n with
  | true=>rfl
  | false =>
   rw[z8]
   rcases List.mem_cons.1 h with rfl|h
   ·rw[Nat.ble_eq_true_of_le hx] at hb;cases hb
   ·exact za4 h hx
end Go.Proofs.YtbfnnllgdioccaaGreatDoor.C
end
section
open Go PvL
set_option linter.unusedSimpArgs false
set_option linter.unusedVariables false
namespace Go.Proofs.YtbfnnllgdioccaaGreatDoor.C
def PL(a b i j:Nat)(G:Nat->Ky):Prop:=a < i /\ i<=j+1 /\ j < b /\ (∀ p,a < p->p < i->klt (G p) (G a)) /\ ∀ p,j < p->p < b->¬ klt (G p) (G a)
theorem PL.start{a b:Nat}{G:Nat->Ky}(h:a < b):PL a b (a+1) (b - 1) G:=⟨by omega,by omega,by omega,fun p h1 h2=>by omega,fun p h1 h2=>by omega⟩
theorem PL.up{a b i j:Nat}{G:Nat->Ky}(h:PL a b i j G)(hij:i<=j)(hl:klt (G i) (G a)):PL a b (i+1) j G :=
 ⟨by have:=h.1;omega,by omega,h.2.2.1,fun p h1 h2=>by
  by_cases hp:p=i
  ·subst hp;exact hl
  ·exact h.2.2.2.1 p h1 (by omega),h.2.2.2.2⟩
theorem PL.down{a b i j:Nat}{G:Nat->Ky}(h:PL a b i (j+1) G)(hij:i<=j+1)(hl:¬ klt (G (j+1)) (G a)):PL a b i j G :=
 ⟨h.1,hij,by have:=h.2.2.1;omega,h.2.2.2.1,fun p h1 h2=>by
  by_cases hp:p=j+1
  ·subst hp;exact hl
  ·exact h.2.2.2.2 p (by omega) h2⟩
theorem PL.swap{a b i j:Nat}{G:Nat->Ky}(h:PL a b i j G)(hij:i<=j)(h1:¬ klt (G i) (G a))(h2:klt (G j) (G a)):i < j /\ PL a b (i+1) (j - 1) (sw G i j):=by
 have hne:i ≠ j:=by rintro rfl;exact h1 h2
 have hai:=h.1
 have ha:sw G i j a=G a:=z4i (by omega) (by omega)
 refine⟨by omega,by omega,by omega,by have:=h.2.2.1;omega,fun p h3 h4=>?_,fun p h3 h4=>?_⟩
 ·rw[ha]
  by_cases hp:p=i
  ·subst hp;rw[sw_i];exact h2
  ·rw[z4i hp (by omega)];exact h.2.2.2.1 p h3 (by omega)
 ·rw[ha]
  by_cases hp:p=j
  ·subst hp;rw[sw_j];exact h1
  ·rw[z4i (by omega) hp];exact h.2.2.2.2 p (by omega) h4
def Parted(a b m:Nat)(G:Nat->Ky):Prop:=a<=m /\ m < b /\ (∀ p,a<=p->p < m->klt (G p) (G m)) /\ ∀ p,m < p->p < b->¬ klt (G p) (G m)
theorem PL.done{a b i j:Nat}{G:Nat->Ky}(h:PL a b i j G)(hij:j < i):Parted a b j (sw G j a):=by
 obtain⟨h1,h2,h3,h4,h5⟩:=h
 refine⟨by omega,h3,fun p g1 g2=>?_,fun p g1 g2=>?_⟩
 ·rw[sw_i]
  by_cases hp:p=a
  ·subst hp;rw[sw_j];exact h4 j (by omega) (by omega)
  ·rw[z4i (by omega) hp];exact h4 p (by omega) (by omega)
 ·rw[sw_i,z4i (by omega) (by omega)]
  exact h5 p g1 g2
def Lo(a b:Nat)(G:Nat->Ky):Prop:=a=0 ∨ ∀ t,a<=t->t < b->klt (G (a - 1)) (G t)
theorem Lo.sub{a b b':Nat}{G:Nat->Ky}(h:Lo a b G)(hb:b'<=b):Lo a b' G:=h.elim .inl fun h=>.inr fun t h1 h2=>h t h1 (by omega)
theorem Lo.sw{a b a' b':Nat}{G G':Nat->Ky}(h:Lo a b G)(hw:Sw a' b' G G')(ha:a<=a')(hb:b'<=b):Lo a b G':=by
 rcases h with h|h
 ·exact .inl h
 by_cases ha0:a=0
 ·exact .inl ha0
 refine .inr ?_
 rw[hw.out (t:=a - 1) (by omega)]
 exact(hw.wider ha hb).all (p:=fun k=>klt (G (a - 1)) k) h
def Out(a b a' b':Nat)(G:Nat->Ky):Prop:=∀ x y,a<=x->x < y->y < b->(x < a' ∨ b'<=y)->¬ klt (G y) (G x)
theorem Out.start{a b:Nat}{G:Nat->Ky}:Out a b a b G:=fun x y h1 h2 h3 h4=>by omega
theorem Out.sw{a b a' b':Nat}{G G':Nat->Ky}(h:Out a b a' b' G)(hw:Sw a' b' G G')(ha:a<=a')(hb:b'<=b):Out a b a' b' G':=by
 intro x y h1 h2 h3 h4
 by_cases hx:x < a' ∨ b'<=x
 ·rw[hw.out hx]
  by_cases hy:y < a' ∨ b'<=y
  ·rw[hw.out hy];exact h x y h1 h2 h3 h4
  ·exact hw.all (p:=fun k=>¬ klt k (G x)) (fun t h5 h6=>h x t h1 (by omega) (by omega) (by omega)) y (by omega) (by omega)
 ·rw[hw.out (t:=y) (by omega)]
  exact hw.all (p:=fun k=>¬ klt (G y) k) (fun t h5 h6=>h t y (by omega) (by omega) h3 (by omega)) x (by omega) (by omega)
theorem Out.fin{a b a' b':Nat}{G:Nat->Ky}(h:Out a b a' b' G)(hs:Srt a' b' G):Srt a b G:=fun x y h1 h2 h3=>by
 by_cases hx:x < a' ∨ b'<=y
 ·exact h x y h1 h2 h3 hx
 ·exact hs x y (by omega) h2 (by omega)
theorem Parted.sw{a b m:Nat}{G G':Nat->Ky}(h:Parted a b m G){a' b':Nat}(hw:Sw a' b' G G')(hr:(a<=a' /\ b'<=m) ∨(m+1<=a' /\ b'<=b)):Parted a b m G':=by
 obtain⟨h1,h2,h3,h4⟩:=h
 refine⟨h1,h2,?_,?_⟩
 ·intro p g1 g2
  rw[hw.out (t:=m) (by omega)]
  rcases hr with hr|hr
  ·exact(hw.wider hr.1 hr.2).all (p:=fun k=>klt k (G m)) h3 p g1 g2
  ·rw[hw.out (t:=p) (by omega)];exact h3 p g1 g2
 ·intro p g1 g2
  rw[hw.out (t:=m) (by omega)]
  rcases hr with hr|hr
  ·rw[hw.out (t:=p) (by omega)];exact h4 p g1 g2
  ·exact(hw.wider hr.1 hr.2).all (p:=fun k=>¬ klt k (G m)) (fun t g1 g2=>h4 t (by omega) g2) p (by omega) g2
theorem Out.left{a b a' b' m:Nat}{G G':Nat->Ky}(h:Out a b a' b' G)(hp:Parted a' b' m G)(hw:Sw a' m G G')(hs:Srt a' m G')(ha:a<=a')(hb:b'<=b):Out a b (m+1) b' G':=by
 have hm:=hp.1
 have hm2:=hp.2.1
 have hp':=hp.sw hw (.inl ⟨Nat.le_refl _,Nat.le_refl _⟩)
 have h':=h.sw (hw.wider (Nat.le_refl _) (by omega)) ha hb
 obtain⟨-,-,q3,q4⟩:=hp'
 intro x y h1 h2 h3 h4
 by_cases hx:x < a' ∨ b'<=y
 ·exact h' x y h1 h2 h3 hx
 have hxm:x<=m:=by omega
 by_cases hxe:x=m
 ·subst hxe;exact q4 y h2 (by omega)
 by_cases hy:y < m
 ·exact hs x y (by omega) h2 hy
 by_cases hye:y=m
 ·subst hye;exact z81 (q3 x (by omega) (by omega))
 ·exact fun hk=>q4 y (by omega) (by omega) (z5m hk (q3 x (by omega) (by omega)))
theorem Out.right{a b a' b' m:Nat}{G G':Nat->Ky}(h:Out a b a' b' G)(hp:Parted a' b' m G)(hw:Sw (m+1) b' G G')(hs:Srt (m+1) b' G')(ha:a<=a')(hb:b'<=b):Out a b a' m G':=by
 have hm:=hp.1
 have hm2:=hp.2.1
 have hp':=hp.sw hw (.inr ⟨Nat.le_refl _,Nat.le_refl _⟩)
 have h':=h.sw (hw.wider (by omega) (Nat.le_refl _)) ha hb
 obtain⟨-,-,q3,q4⟩:=hp'
 intro x y h1 h2 h3 h4
 by_cases hx:x < a' ∨ b'<=y
 ·exact h' x y h1 h2 h3 hx
 have hym:m<=y:=by omega
 by_cases hxe:x=m
 ·subst hxe;exact q4 y h2 (by omega)
 by_cases hx2:m < x
 ·exact hs x y (by omega) h2 (by omega)
 by_cases hye:y=m
 ·subst hye;exact z81 (q3 x (by omega) (by omega))
 ·exact fun hk=>q4 y (by omega) (by omega) (z5m hk (q3 x (by omega) (by omega)))
theorem Parted.lo{a b m n:Nat}{G:Nat->Ky}(h:Parted a b m G)(hi:Inj n G)(hb:b<=n):Lo (m+1) b G:=.inr fun t h1 h2=>by
 rw[show m+1 - 1=m by omega]
 have h3:=h.2.2.2 t (by omega) h2
 have hm2:=h.2.1
 rcases zhl (a:=G m) (b:=G t) (fun e=>absurd (hi m t (by omega) (by omega) e) (by omega)) with h4|h4
 ·exact h4
 ·exact absurd h4 h3
theorem Srt.pre{a i:Nat}{G:Nat->Ky}(h:Srt a i G){j:Nat}(hj:j<=i):Srt a j G:=fun x y h1 h2 h3=>h x y h1 h2 (by omega)
theorem Srt.swr{a i b:Nat}{G G':Nat->Ky}(h:Srt a i G){a':Nat}(hw:Sw a' b G G')(ha:i<=a'):Srt a i G':=fun x y h1 h2 h3=>by
 rw[hw.out (t:=x) (by omega),hw.out (t:=y) (by omega)]
 exact h x y h1 h2 h3
end Go.Proofs.YtbfnnllgdioccaaGreatDoor.C
end
section
open Go PvL Go.Proofs
set_option linter.unusedSimpArgs false
set_option linter.unusedVariables false
namespace Go.Proofs.YtbfnnllgdioccaaGreatDoor.C
abbrev cf:LV:=.func (.func 68) [] []
abbrev KT(M:Mem)(p n:Nat)(ty:TypeId)(G:Nat->Ky):Prop:=At M p (.cells true (tabL kyc G n) ty)
theorem z0n{M:Mem}{p n k:Nat}{ty:TypeId}{G:Nat->Ky}(h:KT M p n ty G)(hk:k < n):Rd M p (0+k*2) 2 [I (G k).1,I (G k).2]:=znq (enc:=kyc) (fun _=>rfl) h hk
theorem z0f{n k:Nat}{G:Nat->Ky}(hk:k < n)(x:Ky):z0c (tabL kyc G n) (0+k*2) [I x.1,I x.2]=some (tabL kyc (fun t=>if t=k then x else G t) n):=by
 have:=zkq (enc:=kyc) (sz:=2) (G:=G) (G':=fun t=>if t=k then x else G t) (n:=n) (k:=k) (fun _=>rfl) (by omega) hk (fun i _ hi=>by simp[hi])
 simpa using this
set_option maxHeartbeats 4000000 in
theorem zqr{M:Mem}{p n a b:Nat}{f:Bool}{e:Nat}{ty:TypeId}{G:Nat->Ky}(hA:KT M p n ty G)(hb:b<=n)(hab:a<=b)(hn:n<=1000) :
  za Tryz.prog 186 [.slice (some (p,0)) n f e,I a,I b,cf] M (fun w M'=>∃ G',Sw a b G G' /\ Srt a b G' /\ KT M' p n ty G' /\ Keep (fun i=>i=p) M M'):=by
 refine zd k186 rfl ?_
 dsimp only[x186,zM,zO,zI,zF,zS,zB,zL,zE,zN,zW,zC,zipE,Nat.reduceAdd]
 repeat' first|with_reducible intro _|refine sv ?_|refine sc ?_ ?_<;>(intro h;try exact sz h)|refine sg ?_ ?_<;>(intro h;first|exact sz h|refine sy h ?_)|exact sq|fail
 refine z9 (fun z E ms M'=>∃(i:Nat) (G':Nat->Ky),z=b+1 - i /\ a+1<=i /\ (i<=b ∨ i=a+1) /\ ms=[] /\ Has E [(0,.slice (some (p,0)) n f e),(1,I a),(2,I b),(3,cf),(8,I i)] /\ Sw a b G G' /\ Srt a i G' /\ KT M' p n ty G' /\ Keep (fun i=>i=p) M M')
  ?_ (b+1 - (a+1)) _ _ _ ⟨a+1,G,rfl,by omega,.inr rfl,rfl,.cons rfl (.cons rfl (.cons rfl (.cons rfl (.cons rfl .nil)))),.refl,Srt.short (by omega),hA,Keep.refl _ _⟩
 rintro z E ms M1 ⟨i,G1,rfl,hi,hib,rfl,hE,hw1,hs1,hA1,hk1⟩
 refine z0d hE ?_
 by_cases hlast:b<=i
 ·repeat' first|with_reducible intro _|refine sv ?_|refine sc ?_ ?_<;>(intro h;try exact sz h)|refine sg ?_ ?_<;>(intro h;first|exact sz h|refine sy h ?_)|exact sq|fail
  all_goals try(exfalso;omega)
  refine kf ?_
  exact⟨G1,hw1,fun x y h1 h2 h3=>hs1 x y h1 h2 (by omega),hA1,hk1⟩
 have hlt:i < b:=by omega
 repeat' first|with_reducible intro _|refine sv ?_|refine sc ?_ ?_<;>(intro h;try exact sz h)|refine sg ?_ ?_<;>(intro h;first|exact sz h|refine sy h ?_)|exact sq|fail
 all_goals try(exfalso;omega)
 refine z9 (fun z E ms M'=>∃(G':Nat->Ky),a<=z /\ z<=i /\ ms=[] /\ Has E [(0,.slice (some (p,0)) n f e),(1,I a),(2,I b),(3,cf),(8,I i),(9,I z)] /\ Sw a b G G' /\ Ins a (i+1) z G' /\ KT M' p n ty G' /\ Keep (fun i=>i=p) M M')
  ?_ i _ _ _ ⟨G1,by omega,Nat.le_refl _,rfl,.cons rfl (.cons rfl (.cons rfl (.cons rfl (.cons rfl (.cons rfl .nil))))),hw1,Ins.start hs1,hA1,hk1⟩
 rintro j E ms M2 ⟨G2,hj1,hj2,rfl,hE,hw2,hs2,hA2,hk2⟩
 refine z0d hE ?_
 by_cases hja:j=a
 ·subst hja
  repeat' first|with_reducible intro _|refine sv ?_|refine sc ?_ ?_<;>(intro h;try exact sz h)|refine sg ?_ ?_<;>(intro h;first|exact sz h|refine sy h ?_)|exact sq|fail
  all_goals try(exfalso;omega)
  refine zj (b+1 - (i+1)) (by omega) ⟨i+1,G2,rfl,by omega,by omega,rfl,.cons rfl (.cons rfl (.cons rfl (.cons rfl (.cons rfl .nil)))),hw2,hs2.done (.inl (Nat.le_refl _)),hA2,hk2⟩
 obtain⟨j',rfl⟩:∃ j',j=j' + 1:=⟨j - 1,by omega⟩
 have hz:(((j' + 1:Nat):Int) - 1).toNat=j':=by omega
 have hr1:=z0n hA2 (show j' + 1 < n by omega)
 have hr2:=z0n hA2 (show j' < n by omega)
 rw[<-hz] at hr2
 rw[hz] at hr2
 have hr3:Rd M2 p (0+(((j' + 1:Nat):Int) - 1).toNat*2) 2 [I (G2 j').1,I (G2 j').2]:=by rw[hz];exact hr2
 have co:=fun M'=>z1o (G2 (j' + 1)).1 (G2 (j' + 1)).2 (G2 j').1 (G2 j').2 M'
 have hlt9:=z0i (G2 (j' + 1)) (G2 j')
 (have hrd0:=hr1;have hrd1:=hr3;repeat' (first|(with_reducible intro _)|refine sv ?_|(refine sc ?_ ?_<;>(intro h;try exact sz h))|((with_reducible first|apply z1m|apply z1p|apply d_pure0);exact gd;exact rfl;exact rfl;(first|exact co _))|refine sg ?_ ?_<;>(intro h;first|exact sz h|refine sy h ?_)|exact sq|fail))
 ·rename_i hgt M5 hg5 q5
  have hA5:KT M5 p n ty G2:=hA2.grow hg5
  refine d_st (by exact gd) rfl rfl hA5 rfl rfl (z0f (by omega) (G2 j')) ?_
  intro M6 hU6 e6 hA6
  repeat' first|with_reducible intro _|refine sv ?_|refine sc ?_ ?_<;>(intro h;try exact sz h)|refine sg ?_ ?_<;>(intro h;first|exact sz h|refine sy h ?_)|exact sq|fail
  refine d_st (by exact gd) rfl rfl hA6 rfl rfl (by rw[hz];exact z0f (by omega) (G2 (j' + 1))) ?_
  intro M7 hU7 e7 hA7
  have hk7:Keep (fun i=>i=p) M M7:=xk
  have hlt8:=hlt9.1 h
  repeat' first|with_reducible intro _|refine sv ?_|refine sc ?_ ?_<;>(intro h;try exact sz h)|refine sg ?_ ?_<;>(intro h;first|exact sz h|refine sy h ?_)|exact sq|fail
  refine zj j' (by omega) ⟨sw G2 (j' + 1) j',by omega,by omega,rfl,.cons rfl (.cons rfl (.cons rfl (.cons rfl (.cons rfl (.cons ?_ .nil))))),.step hw2 (by omega) (by omega) (by omega) (by omega),hs2.step (by omega) hlt8,hA7,hk7⟩
  show some (I _)=some (I _)
  rw[show((j' + 1:Nat):Int) - 1=j' by omega]
 ·rename_i hgt M5 hg5 q5
  have hA5:KT M5 p n ty G2:=hA2.grow hg5
  have hk5:Keep (fun i=>i=p) M M5:=xk
  refine zj (b+1 - (i+1)) (by omega) ⟨i+1,G2,rfl,by omega,by omega,rfl,.cons rfl (.cons rfl (.cons rfl (.cons rfl (.cons rfl .nil)))),hw2,hs2.done (.inr (fun hk=>absurd (hlt9.2 hk) (Int.not_lt.2 h))),hA5,hk5⟩
set_option maxHeartbeats 16000000 in
theorem zqt{M:Mem}{p n a b:Nat}{f:Bool}{e:Nat}{ty:TypeId}{G:Nat->Ky}(hA:KT M p n ty G)(hb:b<=n)(hab:a < b)(hn:n<=1000)(hlo:Lo a b G) :
  za Tryz.prog 191 [.slice (some (p,0)) n f e,I a,I b,cf] M (fun w M'=>∃(q:Bool) (G':Nat->Ky),w=.bool q /\ (q=true->Srt a b G') /\ Sw a b G G' /\ KT M' p n ty G' /\ Keep (fun i=>i=p) M M'):=by
 refine zd k191 rfl ?_
 dsimp only[x191,zM,zO,zI,zF,zS,zB,zL,zE,zN,zW,zC,zipE,Nat.reduceAdd]
 repeat' first|with_reducible intro _|refine sv ?_|refine sc ?_ ?_<;>(intro h;try exact sz h)|refine sg ?_ ?_<;>(intro h;first|exact sz h|refine sy h ?_)|exact sq|fail
 refine z9 (fun z E ms M'=>∃(s i:Nat) (G':Nat->Ky),z=5 - s /\ s<=5 /\ a < i /\ i<=b /\ ms=[] /\ Has E [(0,.slice (some (p,0)) n f e),(1,I a),(2,I b),(3,cf),(9,I i),(10,I s)] /\ Sw a b G G' /\ Srt a i G' /\ KT M' p n ty G' /\ Keep (fun i=>i=p) M M')
  ?_ 5 _ _ _ ⟨0,a+1,G,rfl,by omega,by omega,by omega,rfl,.cons rfl (.cons rfl (.cons rfl (.cons rfl (.cons rfl (.cons rfl .nil))))),.refl,Srt.short (by omega),hA,Keep.refl _ _⟩
 rintro z E ms M1 ⟨s,i0,G1,rfl,hs5,hi0,hib0,rfl,hE,hw1,hs1,hA1,hk1⟩
 refine z0d hE ?_
 by_cases hlast:s=5
 ·subst hlast
  repeat' first|with_reducible intro _|refine sv ?_|refine sc ?_ ?_<;>(intro h;try exact sz h)|refine sg ?_ ?_<;>(intro h;first|exact sz h|refine sy h ?_)|exact sq|fail
  all_goals try(exfalso;omega)
  refine kf ?_
  exact⟨false,G1,rfl,fun h=>(by cases h),hw1,hA1,hk1⟩
 have hs6:s < 5:=by omega
 repeat' first|with_reducible intro _|refine sv ?_|refine sc ?_ ?_<;>(intro h;try exact sz h)|refine sg ?_ ?_<;>(intro h;first|exact sz h|refine sy h ?_)|exact sq|fail
 all_goals try(exfalso;omega)
 refine z22 (K:=fun x E ms M'=>x=.exit 2 /\ ms=[] /\ ∃ i,a < i /\ i<=b /\ (i=b ∨ klt (G1 i) (G1 (i - 1))) /\ Srt a i G1 /\ Has E [(0,.slice (some (p,0)) n f e),(1,I a),(2,I b),(3,cf),(9,I i),(10,I s)] /\ KT M' p n ty G1 /\ Keep (fun i=>i=p) M M') ?_ ?_
 ·refine z9 (fun z E ms M'=>∃ i,z=b - i /\ a < i /\ i<=b /\ Srt a i G1 /\ ms=[] /\ Has E [(0,.slice (some (p,0)) n f e),(1,I a),(2,I b),(3,cf),(9,I i),(10,I s)] /\ KT M' p n ty G1 /\ Keep (fun i=>i=p) M M')
   ?_ (b - i0) _ _ _ ⟨i0,rfl,hi0,hib0,hs1,rfl,.cons rfl (.cons rfl (.cons rfl (.cons rfl (.cons rfl (.cons rfl .nil))))),hA1,hk1⟩
  rintro z E ms M2 ⟨i,rfl,hi,hib,hs2,rfl,hE,hA2,hk2⟩
  refine z0d hE ?_
  by_cases hib2:i=b
  ·subst hib2
   repeat' first|with_reducible intro _|refine sv ?_|refine sc ?_ ?_<;>(intro h;try exact sz h)|refine sg ?_ ?_<;>(intro h;first|exact sz h|refine sy h ?_)|exact sq|fail
   all_goals try(exfalso;omega)
   exact⟨rfl,rfl,i,hi,hib,.inl rfl,hs2,.cons rfl (.cons rfl (.cons rfl (.cons rfl (.cons rfl (.cons rfl .nil))))),hA2,hk2⟩
  obtain⟨i',rfl⟩:∃ i',i=i' + 1:=⟨i - 1,by omega⟩
  have hz:(((i' + 1:Nat):Int) - 1).toNat=i':=by omega
  have hr1:=z0n hA2 (show i' + 1 < n by omega)
  have hr2:=z0n hA2 (show i' < n by omega)
  have hr3:Rd M2 p (0+(((i' + 1:Nat):Int) - 1).toNat*2) 2 [I (G1 i').1,I (G1 i').2]:=by rw[hz];exact hr2
  have co:=fun M'=>z1o (G1 (i' + 1)).1 (G1 (i' + 1)).2 (G1 i').1 (G1 i').2 M'
  have hlt9:=z0i (G1 (i' + 1)) (G1 i')
  (have hrd0:=hr1;have hrd1:=hr3;repeat' (first|(with_reducible intro _)|refine sv ?_|(refine sc ?_ ?_<;>(intro h;try exact sz h))|((with_reducible first|apply z1m|apply z1p|apply d_pure0);exact gd;exact rfl;exact rfl;(first|exact co _))|refine sg ?_ ?_<;>(intro h;first|exact sz h|refine sy h ?_)|exact sq|fail))
  all_goals try(exfalso;omega)
  ·rename_i hx M5 hg5 q5
   have hk5:Keep (fun i=>i=p) M M5:=xk
   refine zj (b - (i' + 1+1)) (by omega) ⟨i' + 1+1,rfl,by omega,by omega,?_,rfl,.cons rfl (.cons rfl (.cons rfl (.cons rfl (.cons rfl (.cons rfl .nil))))),hA2.grow hg5,hk5⟩
   exact(Ins.start hs2).done (.inr (fun hk=>absurd (hlt9.2 hk) (Int.not_lt.2 h)))
  ·rename_i hx M5 hg5 q5
   have hk5:Keep (fun i=>i=p) M M5:=xk
   exact⟨rfl,rfl,i' + 1,hi,hib,.inr (hlt9.1 h),hs2,.cons rfl (.cons rfl (.cons rfl (.cons rfl (.cons rfl (.cons rfl .nil))))),hA2.grow hg5,hk5⟩
 rintro x E ms M10 ⟨rfl,rfl,i,hi,hib,hst,hs2,hE,hA2,hk2⟩
 apply z14
 apply z3p
 refine z0d hE ?_
 by_cases hib2:i=b
 ·subst hib2
  repeat' first|with_reducible intro _|refine sv ?_|refine sc ?_ ?_<;>(intro h;try exact sz h)|refine sg ?_ ?_<;>(intro h;first|exact sz h|refine sy h ?_)|exact sq|fail
  all_goals try(exfalso;omega)
  refine kf ?_
  exact⟨true,G1,rfl,fun _=>hs2,hw1,hA2,hk2⟩
 have hib3:i < b:=by omega
 have hst:=hst.resolve_left hib2
 obtain⟨i',rfl⟩:∃ i',i=i' + 1:=⟨i - 1,by omega⟩
 have hst:klt (G1 (i' + 1)) (G1 i'):=hst
 have hz:(((i' + 1:Nat):Int) - 1).toNat=i':=by omega
 have hr1:=z0n hA2 (show i' + 1 < n by omega)
 have hr2:=z0n hA2 (show i' < n by omega)
 have hr3:Rd M10 p (0+(((i' + 1:Nat):Int) - 1).toNat*2) 2 [I (G1 i').1,I (G1 i').2]:=by rw[hz];exact hr2
 (have hrd0:=hr1;have hrd1:=hr3;repeat' (first|(with_reducible intro _)|refine sv ?_|(refine sc ?_ ?_<;>(intro h;try exact sz h))|refine sg ?_ ?_<;>(intro h;first|exact sz h|refine sy h ?_)|exact sq|fail))
 all_goals try(exfalso;omega)
 ·refine kf ?_
  exact⟨false,G1,rfl,fun h=>(by cases h),hw1,hA2,hk2⟩
 refine d_st (by exact gd) rfl rfl hA2 rfl rfl (z0f (by omega) (G1 i')) ?_
 intro M6 hU6 e6 hA6
 repeat' first|with_reducible intro _|refine sv ?_|refine sc ?_ ?_<;>(intro h;try exact sz h)|refine sg ?_ ?_<;>(intro h;first|exact sz h|refine sy h ?_)|exact sq|fail
 refine d_st (by exact gd) rfl rfl hA6 rfl rfl (by rw[hz];exact z0f (by omega) (G1 (i' + 1))) ?_
 intro M7 hU7 e7 hA7
 have hk7:Keep (fun i=>i=p) M M7:=xk
 have hw7:Sw a b G (sw G1 (i' + 1) i'):=.step hw1 (by omega) (by omega) (by omega) (by omega)
 have hA7:KT M7 p n ty (sw G1 (i' + 1) i'):=hA7
 have hs7:Srt a i' (sw G1 (i' + 1) i'):=(hs2.pre (by omega:i'<=i' + 1)).swr (a':=i') (b:=b) (.one (by omega) (by omega) (by omega) (by omega)) (Nat.le_refl _)
 have hlo7:=hlo.sw hw7 (Nat.le_refl _) (Nat.le_refl _)
 generalize sw G1 (i' + 1) i'=G7 at *
 refine zlm (by exact ox) ?_
 clear hr1 hr2 hr3 hA2 hk2 hU6 e6 hA6 hU7 e7 hA1 hk1 hs1 hs2 hst hi0
 apply z3p
 apply z6i
 refine z22 (K:=fun x E ms M'=>x=.norm /\ ms=[] /\ ∃ G',Sw a b G G' /\ Srt a (i' + 1) G' /\ Has E [(0,.slice (some (p,0)) n f e),(1,I a),(2,I b),(3,cf),(9,I ((i' + 1:Nat):Int)),(10,I s)] /\ KT M' p n ty G' /\ Keep (fun i=>i=p) M M') ?_ ?_
 ·by_cases hia:i'=a
  ·subst hia
   repeat' first|with_reducible intro _|refine sv ?_|refine sc ?_ ?_<;>(intro h;try exact sz h)|refine sg ?_ ?_<;>(intro h;first|exact sz h|refine sy h ?_)|exact sq|fail
   all_goals try(exfalso;omega)
   exact⟨rfl,rfl,G7,hw7,Srt.short (by omega),.cons rfl (.cons rfl (.cons rfl (.cons rfl (.cons rfl (.cons rfl .nil))))),hA7,hk7⟩
  repeat' first|with_reducible intro _|refine sv ?_|refine sc ?_ ?_<;>(intro h;try exact sz h)|refine sg ?_ ?_<;>(intro h;first|exact sz h|refine sy h ?_)|exact sq|fail
  all_goals try(exfalso;omega)
  have hi'0:((i' + 1:Nat):Int) - 1=(i':Int):=by omega
  refine z9 (fun z E ms M'=>∃(G':Nat->Ky),a<=z /\ z<=i' /\ ms=[] /\ Has E [(0,.slice (some (p,0)) n f e),(1,I a),(2,I b),(3,cf),(9,I ((i' + 1:Nat):Int)),(10,I s),(11,I z)] /\ Sw a b G G' /\ Ins a (i' + 1) z G' /\ Lo a b G' /\ KT M' p n ty G' /\ Keep (fun i=>i=p) M M')
   ?_ i' _ _ _ ⟨G7,by omega,Nat.le_refl _,rfl,.cons rfl (.cons rfl (.cons rfl (.cons rfl (.cons rfl (.cons rfl (.cons (by show some (I _)=some (I _);rw[hi'0]) .nil)))))),hw7,Ins.start hs7,hlo7,hA7,hk7⟩
  clear hw7 hA7 hk7 hs7 hlo7
  rintro j E ms M2 ⟨G2,hj1,hj2,rfl,hE,hw2,hs2,hlo2,hA2,hk2⟩
  refine z0d hE ?_
  by_cases hj0:j=0
  ·subst hj0
   repeat' first|with_reducible intro _|refine sv ?_|refine sc ?_ ?_<;>(intro h;try exact sz h)|refine sg ?_ ?_<;>(intro h;first|exact sz h|refine sy h ?_)|exact sq|fail
   all_goals try(exfalso;omega)
   exact⟨rfl,rfl,G2,hw2,hs2.done (.inl (by omega)),.cons rfl (.cons rfl (.cons rfl (.cons rfl (.cons rfl (.cons rfl .nil))))),hA2,hk2⟩
  obtain⟨j',rfl⟩:∃ j',j=j' + 1:=⟨j - 1,by omega⟩
  have hz:(((j' + 1:Nat):Int) - 1).toNat=j':=by omega
  have hr1:=z0n hA2 (show j' + 1 < n by omega)
  have hr2:=z0n hA2 (show j' < n by omega)
  have hr3:Rd M2 p (0+(((j' + 1:Nat):Int) - 1).toNat*2) 2 [I (G2 j').1,I (G2 j').2]:=by rw[hz];exact hr2
  have co:=fun M'=>z1o (G2 (j' + 1)).1 (G2 (j' + 1)).2 (G2 j').1 (G2 j').2 M'
  have hlt9:=z0i (G2 (j' + 1)) (G2 j')
  (have hrd0:=hr1;have hrd1:=hr3;repeat' (first|(with_reducible intro _)|refine sv ?_|(refine sc ?_ ?_<;>(intro h;try exact sz h))|((with_reducible first|apply z1m|apply z1p|apply d_pure0);exact gd;exact rfl;exact rfl;(first|exact co _))|refine sg ?_ ?_<;>(intro h;first|exact sz h|refine sy h ?_)|exact sq|fail))
  all_goals try(exfalso;omega)
  ·rename_i hgt M5 hg5 q5
   have hk5:Keep (fun i=>i=p) M M5:=xk
   exact⟨rfl,rfl,G2,hw2,hs2.done (.inr (fun hk=>absurd (hlt9.2 hk) (Int.not_lt.2 h))),.cons rfl (.cons rfl (.cons rfl (.cons rfl (.cons rfl (.cons rfl .nil))))),hA2.grow hg5,hk5⟩
  ·rename_i hgt M5 hg5 q5
   have hlt8:=hlt9.1 h
   have hja:a<=j':=by
    rcases hlo2 with h0|h0
    ·omega
    ·rcases Nat.lt_or_ge j' a with h1|h1
     ·obtain rfl:a=j' + 1:=by omega
      exact absurd hlt8 (z81 (h0 (j' + 1) (by omega) (by omega)))
     ·exact h1
   have hA5:KT M5 p n ty G2:=hA2.grow hg5
   refine d_st (by exact gd) rfl rfl hA5 rfl rfl (z0f (by omega) (G2 j')) ?_
   intro M6 hU6 e6 hA6
   repeat' first|with_reducible intro _|refine sv ?_|refine sc ?_ ?_<;>(intro h;try exact sz h)|refine sg ?_ ?_<;>(intro h;first|exact sz h|refine sy h ?_)|exact sq|fail
   refine d_st (by exact gd) rfl rfl hA6 rfl rfl (by rw[hz];exact z0f (by omega) (G2 (j' + 1))) ?_
   intro M7 hU7 e7 hA7
   have hk7:Keep (fun i=>i=p) M M7:=xk
   have hw7:Sw a b G2 (sw G2 (j' + 1) j'):=.one (by omega) (by omega) (by omega) (by omega)
   repeat' first|with_reducible intro _|refine sv ?_|refine sc ?_ ?_<;>(intro h;try exact sz h)|refine sg ?_ ?_<;>(intro h;first|exact sz h|refine sy h ?_)|exact sq|fail
   refine zj j' (by omega) ⟨sw G2 (j' + 1) j',by omega,by omega,rfl,.cons rfl (.cons rfl (.cons rfl (.cons rfl (.cons rfl (.cons rfl (.cons ?_ .nil)))))),hw2.trans hw7,hs2.step (by omega) hlt8,hlo2.sw hw7 (Nat.le_refl _) (Nat.le_refl _),hA7,hk7⟩
   show some (I _)=some (I _)
   rw[show((j' + 1:Nat):Int) - 1=j' by omega]
 clear hw7 hA7 hk7 hs7 hlo7
 rintro x E ms M11 ⟨rfl,rfl,G8,hw8,hs8,hE,hA8,hk8⟩
 apply z3p
 refine z0d hE ?_
 refine z22 (K:=fun x E ms M'=>x=.norm /\ ms=[] /\ ∃ G',Sw a b G G' /\ Srt a (i' + 1) G' /\ Has E [(0,.slice (some (p,0)) n f e),(1,I a),(2,I b),(3,cf),(9,I ((i' + 1:Nat):Int)),(10,I s)] /\ KT M' p n ty G' /\ Keep (fun i=>i=p) M M') ?_ ?_
 ·by_cases hbi:¬ b - (i' + 1)>=2
  ·repeat' first|with_reducible intro _|refine sv ?_|refine sc ?_ ?_<;>(intro h;try exact sz h)|refine sg ?_ ?_<;>(intro h;first|exact sz h|refine sy h ?_)|exact sq|fail
   all_goals try(exfalso;omega)
   exact⟨rfl,rfl,G8,hw8,hs8,.cons rfl (.cons rfl (.cons rfl (.cons rfl (.cons rfl (.cons rfl .nil))))),hA8,hk8⟩
  repeat' first|with_reducible intro _|refine sv ?_|refine sc ?_ ?_<;>(intro h;try exact sz h)|refine sg ?_ ?_<;>(intro h;first|exact sz h|refine sy h ?_)|exact sq|fail
  all_goals try(exfalso;omega)
  refine z9 (fun z E ms M'=>∃(j:Nat) (G':Nat->Ky),z=b - j /\ i' + 2<=j /\ j<=b /\ ms=[] /\ Has E [(0,.slice (some (p,0)) n f e),(1,I a),(2,I b),(3,cf),(9,I ((i' + 1:Nat):Int)),(10,I s),(12,I j)] /\ Sw a b G G' /\ Srt a (i' + 1) G' /\ KT M' p n ty G' /\ Keep (fun i=>i=p) M M')
   ?_ (b - (i' + 2)) _ _ _ ⟨i' + 2,G8,rfl,by omega,by omega,rfl,.cons rfl (.cons rfl (.cons rfl (.cons rfl (.cons rfl (.cons rfl (.cons rfl .nil)))))),hw8,hs8,hA8,hk8⟩
  clear hw8 hA8 hk8 hs8
  rintro z E ms M2 ⟨j,G2,rfl,hj1,hj2,rfl,hE,hw2,hs2,hA2,hk2⟩
  refine z0d hE ?_
  by_cases hjb:j=b
  ·subst hjb
   repeat' first|with_reducible intro _|refine sv ?_|refine sc ?_ ?_<;>(intro h;try exact sz h)|refine sg ?_ ?_<;>(intro h;first|exact sz h|refine sy h ?_)|exact sq|fail
   all_goals try(exfalso;omega)
   exact⟨rfl,rfl,G2,hw2,hs2,.cons rfl (.cons rfl (.cons rfl (.cons rfl (.cons rfl (.cons rfl .nil))))),hA2,hk2⟩
  obtain⟨j',rfl⟩:∃ j',j=j' + 1:=⟨j - 1,by omega⟩
  have hz:(((j' + 1:Nat):Int) - 1).toNat=j':=by omega
  have hr1:=z0n hA2 (show j' + 1 < n by omega)
  have hr2:=z0n hA2 (show j' < n by omega)
  have hr3:Rd M2 p (0+(((j' + 1:Nat):Int) - 1).toNat*2) 2 [I (G2 j').1,I (G2 j').2]:=by rw[hz];exact hr2
  have co:=fun M'=>z1o (G2 (j' + 1)).1 (G2 (j' + 1)).2 (G2 j').1 (G2 j').2 M'
  (have hrd0:=hr1;have hrd1:=hr3;repeat' (first|(with_reducible intro _)|refine sv ?_|(refine sc ?_ ?_<;>(intro h;try exact sz h))|((with_reducible first|apply z1m|apply z1p|apply d_pure0);exact gd;exact rfl;exact rfl;(first|exact co _))|refine sg ?_ ?_<;>(intro h;first|exact sz h|refine sy h ?_)|exact sq|fail))
  all_goals try(exfalso;omega)
  ·rename_i hgt M5 hg5 q5
   have hk5:Keep (fun i=>i=p) M M5:=xk
   exact⟨rfl,rfl,G2,hw2,hs2,.cons rfl (.cons rfl (.cons rfl (.cons rfl (.cons rfl (.cons rfl .nil))))),hA2.grow hg5,hk5⟩
  ·rename_i hgt M5 hg5 q5
   have hA5:KT M5 p n ty G2:=hA2.grow hg5
   refine d_st (by exact gd) rfl rfl hA5 rfl rfl (z0f (by omega) (G2 j')) ?_
   intro M6 hU6 e6 hA6
   repeat' first|with_reducible intro _|refine sv ?_|refine sc ?_ ?_<;>(intro h;try exact sz h)|refine sg ?_ ?_<;>(intro h;first|exact sz h|refine sy h ?_)|exact sq|fail
   refine d_st (by exact gd) rfl rfl hA6 rfl rfl (by rw[hz];exact z0f (by omega) (G2 (j' + 1))) ?_
   intro M7 hU7 e7 hA7
   have hk7:Keep (fun i=>i=p) M M7:=xk
   have hw7:Sw (i' + 1) b G2 (sw G2 (j' + 1) j'):=.one (by omega) (by omega) (by omega) (by omega)
   repeat' first|with_reducible intro _|refine sv ?_|refine sc ?_ ?_<;>(intro h;try exact sz h)|refine sg ?_ ?_<;>(intro h;first|exact sz h|refine sy h ?_)|exact sq|fail
   exact zj (b - (j' + 1+1)) (by omega) ⟨j' + 1+1,sw G2 (j' + 1) j',rfl,by omega,by omega,rfl,.cons rfl (.cons rfl (.cons rfl (.cons rfl (.cons rfl (.cons rfl (.cons rfl .nil)))))),hw2.trans (hw7.wider (by omega) (Nat.le_refl _)),hs2.swr hw7 (Nat.le_refl _),hA7,hk7⟩
 clear hw8 hA8 hk8 hs8
 rintro x E ms M12 ⟨rfl,rfl,G9,hw9,hs9,hE,hA9,hk9⟩
 apply zdd
 apply z3p
 refine z0d hE ?_
 repeat' first|with_reducible intro _|refine sv ?_|refine sc ?_ ?_<;>(intro h;try exact sz h)|refine sg ?_ ?_<;>(intro h;first|exact sz h|refine sy h ?_)|exact sq|fail
 exact zj (5 - (s+1)) (by omega) ⟨s+1,i' + 1,G9,rfl,by omega,by omega,by omega,rfl,.cons rfl (.cons rfl (.cons rfl (.cons rfl (.cons rfl (.cons rfl .nil))))),hw9,hs9,hA9,hk9⟩
