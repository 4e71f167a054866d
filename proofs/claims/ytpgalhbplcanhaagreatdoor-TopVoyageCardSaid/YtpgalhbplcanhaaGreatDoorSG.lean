/-
 Part of the proof of TopVoyage. No condition beyond those in each theorem.
-/
import Derived.Test.YtpgalhbplcanhaaGreatDoorSF
import Derived.Test.YtpgalhbplcanhaaGreatDoorSE
import Derived.Test.YtpgalhbplcanhaaGreatDoorSA
import Derived.Test.YtpgalhbplcanhaaGreatDoorSD
section
open Go PvL Go.Proofs
set_option linter.unusedSimpArgs false
set_option linter.unusedVariables false
namespace Go.Proofs.YtpgalhbplcanhaaGreatDoor.C
def TbOk(s:Cr)(t:List Int):Prop:=t.length=2*s.lines.length*2 ^ s.lines.length /\ ∀ v ∈ t,-1<=v /\ v<=1048576
theorem zsg{s:Cr}(hs:CrOk s){t:List Int}{set c:Nat}(hc:c < 2*s.lines.length){e:Int}(he:e ∈ earL s t set c):0<=e /\ e<=1048576:=by
 unfold earL at he
 obtain⟨x,hx,h⟩:=List.mem_filterMap.1 he
 obtain⟨b,hb,rfl⟩:=Option.map_eq_some_iff.1 h
 have:=za3 hs (z3o hc) hb
 omega
theorem TbOk.step{s:Cr}(hs:CrOk s){t:List Int}{set c:Nat}(h:TbOk s t)(hc:c < 2*s.lines.length):TbOk s (tabStep s set t c):=by
 unfold tabStep
 cases hm:minL (earL s t set c) with
 | none=>exact h
 | some e =>
  have he:=zsg hs hc (zd7 hm).1
  refine⟨by dsimp only;rw[List.length_set];exact h.1,fun v hv=>?_⟩
  rcases List.mem_or_eq_of_mem_set hv with hv|rfl
  ·exact h.2 v hv
  ·omega
theorem TbOk.steps{s:Cr}(hs:CrOk s){set:Nat}:∀(l:List Nat) {t:List Int},TbOk s t->(∀ c ∈ l,c < 2*s.lines.length)->TbOk s (l.foldl (tabStep s set) t)
 | [],t,h,_=>h
 | c :: l,t,h,hl=>TbOk.steps hs l (h.step hs (hl c (List.mem_cons_self ..))) fun d hd=>hl d (List.mem_cons_of_mem _ hd)
theorem TbOk.zero(s:Cr):TbOk s (tab0 s):=by
 unfold tab0
 exact⟨List.length_replicate ..,fun v hv=>by obtain rfl:=(List.mem_replicate.1 hv).2;exact⟨by decide,by decide⟩⟩
theorem TbOk.rows{s:Cr}(hs:CrOk s):∀ k,TbOk s ((List.range k).foldl (tabSet s) (tab0 s))
 | 0=>TbOk.zero s
 | k+1=>by
  rw[List.range_succ,List.foldl_append]
  exact TbOk.steps hs _ (TbOk.rows hs k) fun c hc=>(z0p.1 hc).1
set_option maxHeartbeats 16000000 in
theorem zp9{A:CrA}{s:Cr}{pc pm pk:Nat}{M:Mem}(hpl:PlM M A s pc pm pk)(hs:CrOk s) :
  ze Tryz.prog 40 [planv pc pk] M (fun v M'=>Keep (fun i=>i=pm ∨ i=pk) M M' /\ KnM M' s pm /\ KcM M' s pk /\ ∃ iT,v=.slice (some (iT,0)) (tabF s).length true 1 /\ M.next<=iT /\ At M' iT (.cells true ((tabF s).flatMap intz) 3)):=by
 have hn5:=hs.n5
 have hn1:=hs.n1
 have hcell:=hpl.ch.cells
 have hpc:=hcell.2
 have hpm:=hpl.ch.known.lt
 have hpk:=hpl.kc.lt
 have hp2:2 ^ s.lines.length<=32:=Nat.pow_le_pow_right (n:=2) (by omega) hn5
 have hsb:=z1w (k:=s.lines.length) (by omega)
 have hN:2*s.lines.length*2 ^ s.lines.length<=10*32:=Nat.mul_le_mul (by omega) hp2
 have hsh:=zqa s.lines.length
 refine zf k40 rfl ?_
 delta x40;refine un ?_
 repeat' first|with_reducible intro _|refine sv ?_|refine ss ?_ ?_<;>(intro h;first|exact sz h|refine sy h ?_)|exact sq|fail
 rename_i n1 M1 hn1' e1 e2
 refine z9h (t:=20) (v':=I ((2*s.lines.length*2 ^ s.lines.length:Nat):Int)) rfl (by rw[<-hsh]) ?_
 refine z9q (by exact gd) (zlh rfl rfl (Nat.le_refl _) (by omega) (by omega)) ?_
 have hnT:New M1 M1.next (.cells true (rep (2*s.lines.length*2 ^ s.lines.length) [I 0]) 3) (M1.push (.cells true (rep (2*s.lines.length*2 ^ s.lines.length) [I 0]) 3)):=⟨rfl,rfl⟩
 generalize hM2:M1.push (.cells true (rep (2*s.lines.length*2 ^ s.lines.length) [I 0]) 3)=M2 at hnT ⊢
 have e3:=hnT.next
 generalize hiT:M1.next=iT at hnT e3 ⊢
 rw[zkh] at hnT
 generalize hNN:2*s.lines.length*2 ^ s.lines.length=NN at *
 refine z9h (t:=21) (v':=.slice (some (iT,0)) NN true 1) rfl (by simp) ?_
 repeat' first|with_reducible intro _|refine sv ?_|refine ss ?_ ?_<;>(intro h;first|exact sz h|refine sy h ?_)|exact sq|fail
 rename_i n4 M3 hn4 e4 e5 M4 hu4 e6 a4
 have b1:At M4 n1 (.cells true [.ptr (some (pc,0)),.map (some pk)] 130):=xm
 have bT:At M4 iT (.cells true ((List.replicate NN (0:Int)).flatMap intz) 3):=xm
 have hg4:Grow M M4:=xg
 have hg4le:=hg4.le
 refine zk (fun n E ms M'=>∃(k:Nat) (t:List Int),n=NN - k /\ k<=NN /\ ms=[] /\ Has E [(1,.ptr (some (n1,0))),(3,I s.lines.length),(4,.ptr (some (n4,0))),(23,I NN),(24,I k)] /\ Keep (fun i=>i=iT) M4 M' /\ t.length=NN /\ (∀ i (hi:i < t.length),i < k->t[i]=-1) /\ At M' iT (.cells true (t.flatMap intz) 3)) ?_ NN _ _ _
  ⟨0,List.replicate NN 0,by omega,by omega,rfl,.cons rfl (.cons rfl (.cons rfl (.cons rfl (.cons rfl .nil)))),Keep.refl _ _,List.length_replicate ..,fun i _ h=>absurd h (Nat.not_lt_zero _),bT⟩
 rintro n E ms M5 ⟨kk,t,rfl,hk,rfl,hE,hk5,htl,hall,aT⟩
 refine z1h hE ?_
 have c4:At M5 n4 (.cells true [.slice (some (iT,0)) NN true 1] 63):=a4.keep hk5 (by omega)
 have hTl:=aT.2
 have hle5:=hk5.le
 by_cases hlast:kk=NN
 rotate_left
 ·have hlt:kk < NN:=by omega
  repeat' first|with_reducible intro _|refine sv ?_|refine ss ?_ ?_<;>(intro h;first|exact sz h|refine sy h ?_)|exact sq|fail
  refine x_st (by exact gd) rfl rfl aT rfl rfl (cs':=(t.set kk (-1)).flatMap intz) (by rw[show 0+kk*1=kk by omega];exact z5b t kk (-1) (by omega)) ?_
  intro M6 hu6 e7 a6
  repeat' first|with_reducible intro _|refine sv ?_|refine ss ?_ ?_<;>(intro h;first|exact sz h|refine sy h ?_)|exact sq|fail
  refine z0d (NN - (kk+1)) (by omega) ⟨kk+1,t.set kk (-1),rfl,by omega,rfl,.cons rfl (.cons rfl (.cons rfl (.cons rfl (.cons rfl .nil)))),hk5.upd hu6 (.inl rfl),by rw[List.length_set];exact htl,fun i hi h=>?_,a6⟩
  rw[List.getElem_set]
  split
  ·rfl
  ·exact hall i (by rw[List.length_set] at hi;exact hi) (by omega)
 subst hlast
 obtain rfl:t=tab0 s:=by
  unfold tab0
  rw[hNN]
  exact List.eq_replicate_iff.2 ⟨htl,fun v hv=>by
   obtain⟨i,hi,rfl⟩:=List.getElem_of_mem hv
   exact hall i hi (by omega)⟩
 have c1:=b1.keep hk5 (by omega)
 have hK5:Keep (fun i=>i=pm ∨ i=pk) M M5:=(hg4.to_keep _).trans hk5 (fun i hi=>.inr (by omega))
 have hkn5:KnM M5 s pm:=(hpl.ch.known.at hg4.le (hg4.old _ hpm)).at hk5.le (hk5.old _ (by omega) (by omega))
 have hkc5:KcM M5 s pk:=(hpl.kc.at hg4.le (hg4.old _ hpk)).at hk5.le (hk5.old _ (by omega) (by omega))
 have hMi:M.next<=iT:=by omega
 clear hall hE
 repeat' first|with_reducible intro _|refine sv ?_|refine ss ?_ ?_<;>(intro h;first|exact sz h|refine sy h ?_)|exact sq|fail
 refine zk (fun n E ms M'=>∃(k:Nat) (ds:List Nat),n=2 ^ s.lines.length - k /\ k<=2 ^ s.lines.length /\ ms=ds.map .mark /\ ds.Nodup /\ (∀ d ∈ ds,At M' d .defr /\ M5.next<=d) /\ Has E [(1,.ptr (some (n1,0))),(3,I s.lines.length),(4,.ptr (some (n4,0))),(32,I (2 ^ s.lines.length:Nat)),(33,I k)] /\ Keep (fun i=>i=pm ∨ i=pk) M M' /\ KnM M' s pm /\ KcM M' s pk /\ M5.next<=M'.next /\
   At M' n1 (.cells true [.ptr (some (pc,0)),.map (some pk)] 130) /\ At M' n4 (.cells true [.slice (some (iT,0)) kk true 1] 63) /\ At M' iT (.cells true (((List.range k).foldl (tabSet s) (tab0 s)).flatMap intz) 3)) ?_ (2 ^ s.lines.length) _ _ _
  ⟨0,[],(Nat.sub_zero _).symm,Nat.zero_le _,rfl,List.nodup_nil,fun d hd=>(by cases hd),.cons rfl (.cons rfl (.cons rfl (.cons (by rw[<-z5c];rfl) (.cons rfl .nil)))),hK5,hkn5,hkc5,Nat.le_refl _,c1,c4,aT⟩
 rintro n E _ M6 ⟨k,ds,rfl,hkl,rfl,hnd,hms,hE,hK6,hkn6,hkc6,hle6,d1,d4,dT⟩
 have hTb:=TbOk.rows hs k
 refine z1h hE ?_
 by_cases hlast:k=2 ^ s.lines.length
 ·subst hlast
  repeat' first|with_reducible intro _|refine sv ?_|refine ss ?_ ?_<;>(intro h;first|exact sz h|refine sy h ?_)|exact sq|fail
  refine z0m (.inr rfl) (by rw[z4x];exact hnd) (by rw[z4x];exact fun d hd=>(hms d hd).1) (fun M9 hm=>?_) (zer ds)
  rw[z4x] at hm
  have hdi:∀ d ∈ ds,M5.next<=d:=fun d hd=>(hms d hd).2
  have hkm:Keep (fun i=>M5.next<=i) M6 M9:=(Keep.refl _ M6).unmark hm (fun d hd=>.inl (hdi d hd))
  have hlen9:(tabF s).length=kk:=by rw[zf5];exact hNN
  refine⟨_,.tmp rfl .nil,hK6.trans hkm (fun i hi=>.inr (by omega)),hkn6.at hkm.le (hkm.old _ hkn6.lt (by omega)),hkc6.at hkm.le (hkm.old _ hkc6.lt (by omega)),iT,by rw[hlen9];rfl,hMi,dT.keep hkm (by omega)⟩
 have hlt:k < 2 ^ s.lines.length:=by omega
 have l1:=d1.2
 have l4:=d4.2
 have lT:=dT.2
 repeat' first|with_reducible intro _|refine sv ?_|refine ss ?_ ?_<;>(intro h;first|exact sz h|refine sy h ?_)|exact sq|fail
 rename_i n6 M7 hn6 e7 e8 M8 hu8 e9 a6
 have hg8:Grow M6 M8:=xg
 refine zz (by exact gd) rfl rfl (show AppOk Tryz.prog _ _ M8 _ from z7l (pc:=pc) (pk:=pk) (set:=(k:Int)) M8) ?_
 rintro w M9 ⟨np2,nsq,rfl,hg9,hp9,hs9,a9,b9⟩
 have hle9:=hg9.le
 have q1:=a9.2
 have q2:=b9.2
 repeat' first|with_reducible intro _|refine sv ?_|refine ss ?_ ?_<;>(intro h;first|exact sz h|refine sy h ?_)|exact sq|fail
 apply z4w
 exact rfl
 intro lb d l M10 M11 hlb hd e10 e11 hl e12 e13
 have hg11:Grow M6 M11:=((hg8.trans hg9).new hd).new hl
 have hle11:=hg11.le
 have hg911:Grow M9 M11:=hd.grow.trans hl.grow
 have hK11:=hK6.grow hg11
 have hch11:=hpl.chc hK11
 have hkn11:=hkn6.at hg11.le (hg11.old _ hkn6.lt)
 have hkc11:=hkc6.at hg11.le (hg11.old _ hkc6.lt)
 have hpm6:=hkn6.lt
 have hpk6:=hkc6.lt
 have hy:=z7s (A:=A) (s:=s) (pc:=pc) (pm:=pm) (pk:=pk) (np:=np2) (ns:=nsq) (set:=k) (M0:=M11) hch11.cells (a9.grow hg911) (b9.grow hg911) hn5 (by omega)
 have hn6M:M6.next<=n6:=by omega
 have hn6l:n6 < l:=by omega
 have hdmem:∀ d' ∈ d :: ds,At M11 d' .defr /\ M5.next<=d' /\ d' < l:=fun d' hd'=>by
  rcases List.mem_cons.1 hd' with rfl|hd'
  ·exact⟨At.new_old hl (At.new_same hd),by omega,by omega⟩
  ·obtain⟨h1,h2⟩:=hms d' hd'
   exact⟨h1.grow hg11,h2,by have:=h1.2;omega⟩
 have hnd':(d :: ds).Nodup:=List.nodup_cons.2 ⟨fun h=>by have:=(hms d h).1.2;omega,hnd⟩
 have e1':At M11 n1 (.cells true [.ptr (some (pc,0)),.map (some pk)] 130):=d1.grow hg11
 have e4':At M11 n4 (.cells true [.slice (some (iT,0)) kk true 1] 63):=d4.grow hg11
 have e6':At M11 n6 (.cells true [I k] 3):=(a6.grow hg9).grow hg911
 refine(hy l (fun i=>i=pm ∨ i=pk ∨ i=iT ∨ i=l) (fun dn T M'=>Keep (fun i=>i=pm ∨ i=pk) M M' /\ KnM M' s pm /\ KcM M' s pk /\ At M' iT (.cells true ((dn.foldl (tabStep s k) ((List.range k).foldl (tabSet s) (tab0 s))).flatMap intz) 3) /\ At M' n1 (.cells true [.ptr (some (pc,0)),.map (some pk)] 130) /\
   At M' n4 (.cells true [.slice (some (iT,0)) kk true 1] 63) /\ At M' n6 (.cells true [I k] 3) /\ At M' l (lb .ready none) /\ ∀ d' ∈ d :: ds,At M' d' .defr) (fun _ _=>False) ⟨?_,?_,fun T M M' h=>h.elim,?_⟩ ?_ ⟨hK11,hkn11,hkc11,dT.grow hg11,e1',e4',e6',At.new_same hl,fun d' hd'=>(hdmem d' hd').1⟩).mono ?_
 ·rintro i (rfl|rfl|rfl|rfl)<;>omega
 ·rintro dn T Mx My ⟨h1,h2,h3,h4,h5,h6,h7,h8,h9⟩ hle hg
  have hgo:∀ i,i < M11.next->My.get i=Mx.get i:=fun i hi=>hg i (.inl ⟨hi,id⟩)
  exact⟨⟨Nat.le_trans h1.le hle,fun i hi hf=>by rw[hgo i (by omega)];exact h1.old i hi hf⟩,h2.at hle (hgo _ (by omega)),h3.at hle (hgo _ (by omega)),h4.same hle (hgo _ (by omega)),h5.same hle (hgo _ (by omega)),h6.same hle (hgo _ (by omega)),h7.same hle (hgo _ (by omega)),h8.same hle (hgo _ (by omega)),fun d' hd'=>(h9 d' hd').same hle (hgo _ (by have:=(hdmem d' hd').2.2;omega))⟩
 ·rintro dn c rest v U T Mx hits ⟨rfl,hU⟩ hN0 hT hUd ⟨h1,h2,h3,h4,h5,h6,h7,h8,h9⟩
  have hcm:=z0p.1 (show c ∈ shootsL s k by rw[hits];simp)
  have hsub:∀ y ∈ dn,y < 2*s.lines.length:=fun y hy=>(z0p.1 (show y ∈ shootsL s k by rw[hits];simp[hy])).1
  have hTx:=TbOk.steps hs (set:=k) dn hTb hsub
  have hfold:(dn ++ [c]).foldl (tabStep s k) ((List.range k).foldl (tabSet s) (tab0 s))=tabStep s k (dn.foldl (tabStep s k) ((List.range k).foldl (tabSet s) (tab0 s))) c:=by rw[List.foldl_append];rfl
  rw[hfold]
  generalize dn.foldl (tabStep s k) ((List.range k).foldl (tabSet s) (tab0 s))=tx at *
  have hlx:tx.length=kk:=by rw[hTx.1];exact hNN
  refine z1s hlb h8 rfl ?_
  dsimp only[zipP]
  repeat' first|with_reducible intro _|refine sv ?_|refine ss ?_ ?_<;>(intro h;first|exact sz h|refine sy h ?_)|exact sq|fail
  rename_i n7 MA hnA e14 e15 MX huX e16 aX MC huC e17 aC
  have hle1:=h1.le
  have hlM:=h8.2
  have hkC:Keep (fun i=>i=l) Mx MC:=xk
  have hleC:=hkC.le
  refine zz (by exact gd) rfl rfl (show AppOk Tryz.prog _ _ MC _ from zgy (pc:=pc) (pk:=pk) (set:=k) (c:=c) (aT:=some (iT,0)) (n:=kk) (fT:=true) MC) ?_
  rintro w MD ⟨nq,nt,ne,nx,rfl,hgD,bq,be,bx,bt⟩
  have hleD:=hgD.le
  have hkD:=hkC.grow hgD
  have hkm:=h2.lt
  have hkk':=h3.lt
  have hplD:PlM MD A s pc pm pk:=hpl.keepm (h1.trans hkD (fun i hi=>.inr (by omega))) (h2.at hkD.le (hkD.old _ hkm (by omega))) (h3.at hkD.le (hkD.old _ hkk' (by omega)))
  have hTD:=h4.keep hkD (by omega)
  have a7D:At MD n7 (.cells true [I (c / 2:Nat),I (c % 2:Nat)] 47):=At.grow hgD (xm)
  have hlD:At MD l (lb .busy none):=aC.grow hgD
  have h1D:=h5.keep hkD (by omega)
  have h4D:=h6.keep hkD (by omega)
  have h6D:=h7.keep hkD (by omega)
  have hdD:∀ d' ∈ d :: ds,At MD d' .defr:=fun d' hd'=>(h9 d' hd').keep hkD (by have:=(hdmem d' hd').2.2;omega)
  refine zz (by exact gd) rfl rfl (show AppOk Tryz.prog _ _ MD _ from zp3 (fT:=true) hplD (zt3 hTD) hs hcm.1 hlt hTx.1 (fun v hv=>by have:=hTx.2 v hv;omega) bq be bx (by rw[hlx];exact bt)) ?_
  rintro w ME ⟨hkE,⟨hknE,hkcE⟩,rfl⟩
  have hleE:=hkE.le
  have hkxE:Keep (fun i=>i=pm ∨ i=pk ∨ i=iT ∨ i=l) Mx ME:=(hkD.weaken (fun i hi=>.inr (.inr (.inr hi)))).trans hkE (fun i hi=>.inl (hi.elim .inl (fun h=>.inr (.inl h))))
  have hTE:=hTD.keep hkE (by omega)
  have a7E:=a7D.keep hkE (by omega)
  have hlE:=hlD.keep hkE (by omega)
  have h1E:=h1D.keep hkE (by omega)
  have h4E:=h4D.keep hkE (by omega)
  have h6E:=h6D.keep hkE (by omega)
  have hdE:∀ d' ∈ d :: ds,At ME d' .defr:=fun d' hd'=>(hdD d' hd').keep hkE (by have:=(hdmem d' hd').2.1;omega)
  have hpmE:=hknE.lt
  have hpkE:=hkcE.lt
  have hdl:∀ d' ∈ d :: ds,M5.next<=d' /\ d' < l:=fun d' hd'=>(hdmem d' hd').2
  have hfin:∀ {MF MG:Mem} (ty:List Int),Keep (fun i=>i=iT) ME MF->At MF iT (.cells true (ty.flatMap intz) 3)->Upd MF l (lb .ready none) MG->At MG l (lb .ready none)->ty=tabStep s k tx c ->
    Keep (fun i=>(i=pm ∨ i=pk ∨ i=iT ∨ i=l) ∨ T i ∨ U i) Mx MG /\ ∃ T':Nat->Prop,(∀ i,T' i->(T i ∨ U i ∨ Mx.next<=i) /\ i < MG.next) /\ ((LV.bool true=.bool true /\ Keep (fun i=>i=pm ∨ i=pk) M MG /\ KnM MG s pm /\ KcM MG s pk /\ At MG iT (.cells true ((tabStep s k tx c).flatMap intz) 3) /\ At MG n1 (.cells true [.ptr (some (pc,0)),.map (some pk)] 130) /\
     At MG n4 (.cells true [.slice (some (iT,0)) kk true 1] 63) /\ At MG n6 (.cells true [I k] 3) /\ At MG l (lb .ready none) /\ ∀ d' ∈ d :: ds,At MG d' .defr) ∨(LV.bool true=.bool false /\ False)):=by
   intro MF MG ty hkF aF huG aG hty
   subst hty
   have hkG:Keep (fun i=>i=iT ∨ i=l) ME MG:=(hkF.weaken (fun i hi=>.inl hi)).upd huG (.inl (.inr rfl))
   have hkxG:Keep (fun i=>i=pm ∨ i=pk ∨ i=iT ∨ i=l) Mx MG:=hkxE.trans hkG (fun i hi=>.inl (hi.elim (fun h=>.inr (.inr (.inl h))) (fun h=>.inr (.inr (.inr h)))))
   exact⟨hkxG.weaken (fun i hi=>.inl hi),fun _=>False,fun i hi=>hi.elim,.inl ⟨rfl,h1.trans hkxG (fun i hi=>by
    rcases hi with hi|hi|hi|hi
    ·exact .inl (.inl hi)
    ·exact .inl (.inr hi)
    ·exact .inr (by omega)
    ·exact .inr (by omega)),hknE.at hkG.le (hkG.old _ hpmE (by omega)),hkcE.at hkG.le (hkG.old _ hpkE (by omega)),aF.upd_ne huG (by omega),h1E.keep hkG (by omega),h4E.keep hkG (by omega),h6E.keep hkG (by omega),aG,fun d' hd'=>(hdE d' hd').keep hkG (by have:=hdl d' hd';omega)⟩⟩
  cases hm:minL (earL s tx k c) with
  | none =>
   repeat' first|with_reducible intro _|refine sv ?_|refine ss ?_ ?_<;>(intro h;first|exact sz h|refine sy h ?_)|exact sq|fail
   rename_i MG huG e18 aG
   exact hfin tx (Keep.refl _ _) hTE huG aG (by unfold tabStep;rw[hm])
  | some e =>
   have hchE:∀ M',Grow ME M'->ChC M' A s pc pm:=fun M' hg=>(hpl.chc (h1.trans hkxE (fun i hi=>by
    rcases hi with hi|hi|hi|hi
    ·exact .inl (.inl hi)
    ·exact .inl (.inr hi)
    ·exact .inr (by omega)
    ·exact .inr (by omega)))).grow hg
   have hplc:=fun M' (hg:Grow ME M')=>zay (pk:=pk) (set:=k) (c:=c) (hchE M' hg) hn5 (by omega) (by omega)
   have hidx:plN s k c < tx.length:=by rw[hTx.1];exact zhy hlt hcm.1
   have hidx2:plN s k c < kk:=by omega
   repeat' first|with_reducible intro _|refine sv ?_|((with_reducible first|apply zj|apply zi|apply d_pure0);exact gd;exact rfl;exact rfl;(first|exact hplc _ (xg)))|refine ss ?_ ?_<;>(intro h;first|exact sz h|refine sy h ?_)|exact sq|fail
   rename_i MF0 hgF e18
   refine d_st (by exact gd) rfl rfl (hTE.grow hgF) rfl rfl (cs':=(tx.set (plN s k c) e).flatMap intz) (by rw[show 0+plN s k c*1=plN s k c by omega];exact z5b tx _ e hidx) ?_
   intro MF huF e19 aF
   repeat' first|with_reducible intro _|refine sv ?_|refine ss ?_ ?_<;>(intro h;first|exact sz h|refine sy h ?_)|exact sq|fail
   rename_i MG huG e20 aG
   exact hfin (tx.set (plN s k c) e) ((hgF.to_keep _).upd huF (.inl rfl)) aF huG aG (by unfold tabStep;rw[hm])
 ·rintro i (rfl|rfl|rfl) (hi|hi|hi|hi)
  all_goals first
   | omega
   |(exact absurd hi hpl.ch.ne)
   |(exact absurd hi hpl.nc)
 ·rintro v M12 ⟨hk12,_,T12,hT12,⟨h1,h2,h3,h4,h5,h6,h7,h8,h9⟩|h⟩
  rotate_left
  ·exact h.elim
  have hle12:=hk12.le
  have hkm:=h2.lt
  have hkk':=h3.lt
  refine z40 h8 (by simp) fun M13 hu13 e14 a13=>?_
  have hdl:∀ d' ∈ d :: ds,M5.next<=d' /\ d' < l:=fun d' hd'=>(hdmem d' hd').2
  have hk13:Keep (fun i=>i=l) M12 M13:=(Keep.refl _ _).upd hu13 (.inl rfl)
  repeat' first|with_reducible intro _|refine sv ?_|refine ss ?_ ?_<;>(intro h;first|exact sz h|refine sy h ?_)|exact sq|fail
  refine z0d (2 ^ s.lines.length - (k+1)) (by omega) ⟨k+1,d :: ds,rfl,by omega,rfl,hnd',fun d' hd'=>⟨(h9 d' hd').keep hk13 (by have:=hdl d' hd';omega),(hdl d' hd').1⟩,.cons rfl (.cons rfl (.cons rfl (.cons rfl (.cons rfl .nil)))),h1.trans hk13 (fun i hi=>.inr (by omega)),h2.at hk13.le (hk13.old _ hkm (by omega)),h3.at hk13.le (hk13.old _ hkk' (by omega)),by omega,h5.keep hk13 (by omega),h6.keep hk13 (by omega),?_⟩
  rw[List.range_succ,List.foldl_append]
  exact h4.keep hk13 (by omega)
theorem Vec.keep_ne{α:Type}{b q:Nat}{ty:TypeId}{enc:α->List LV}{M M':Mem}{v:LV}{l:List α}{F:Nat->Prop}(h:Vec b q ty enc M v l)(hk:Keep F M M')(hF:∀ i,At M i (.cells true (l.flatMap enc) (apE ty))->¬ F i):Vec b q ty enc M' v l :=
 h.imp id fun⟨i,h1,h2,h3⟩=>⟨i,h1,h2.keep hk (hF i h2),h3⟩
theorem zdq{M:Mem}{i:Nat}{o o':Bool}{c c':List LV}{t t':TypeId}(h:At M i (.cells o c t))(h':At M i (.cells o' c' t')):t=t':=by
 have:=h.1.symm.trans h'.1
 cases this;rfl
theorem zv2{s:Cr}{x:Int × Int}(h:rightP s x):shC (shN x)=.agg [I x.1,I x.2] /\ shN x < 2*s.lines.length:=by
 unfold rightP at h
 have h1:shN x / 2=x.1.toNat:=by unfold shN;omega
 have h2:shN x % 2=x.2.toNat:=by unfold shN;omega
 constructor
 ·unfold shC
  rw[h1,h2,Int.toNat_of_nonneg (by omega),Int.toNat_of_nonneg (by omega)]
 ·unfold shN;omega
abbrev shtc(x:Int × Int):List LV:=[I x.1,I x.2]
def metN(l:List (Int × Int)):Nat:=l.foldl (fun m x=>m ||| 2 ^ x.1.toNat) 0
theorem zjw:∀(l:List (Int × Int)) (m j:Nat),(l.foldl (fun m x=>m ||| 2 ^ x.1.toNat) m).testBit j=(m.testBit j || l.any fun x=>decide (x.1.toNat=j))
 | [],m,j=>by simp
 | x :: l,m,j=>by rw[List.foldl_cons,zjw l,z5d,List.any_cons,Bool.or_assoc]
theorem zo7{s:Cr}(hn:s.lines.length<=5):∀(l:List (Int × Int)) (m:Nat),m < 1024->(∀ x ∈ l,rightP s x)->l.foldl (fun m x=>m ||| 2 ^ x.1.toNat) m < 1024
 | [],m,h,_=>h
 | x :: l,m,h,hl=>by
  rw[List.foldl_cons]
  have:=hl x (List.mem_cons_self ..)
  unfold rightP at this
  exact zo7 hn l _ (zoc h (by omega)) fun y hy=>hl y (List.mem_cons_of_mem _ hy)
theorem zmw{s:Cr}{l:List (Int × Int)}{x:Int × Int}(h:OrdOk s l):OrdOk s (l ++ [x]) ↔ rightP s x /\ (metN l).testBit x.1.toNat=false:=by
 have hb:=zjw l 0 x.1.toNat
 unfold metN
 rw[hb,Nat.zero_testBit,Bool.false_or]
 unfold OrdOk at *
 constructor
 ·rintro⟨h1,h2⟩
  refine⟨h1 x (by simp),?_⟩
  rw[List.map_append,List.nodup_append] at h2
  rw[<-Bool.not_eq_true,List.any_eq_true]
  rintro⟨y,hy,e⟩
  have hy1:=h.1 y hy
  have hx1:=h1 x (by simp)
  unfold rightP at hy1 hx1
  have e:=of_decide_eq_true e
  exact h2.2.2 y.1 (List.mem_map_of_mem hy) x.1 (by simp) (by omega)
 ·rintro⟨h1,h2⟩
  refine⟨fun y hy=>?_,?_⟩
  ·rcases List.mem_append.1 hy with hy|hy
   ·exact h.1 y hy
   ·obtain rfl:=List.mem_singleton.1 hy;exact h1
  ·rw[List.map_append,List.nodup_append]
   refine⟨h.2,by simp,fun a ha b hb2=>?_⟩
   obtain⟨y,hy,rfl⟩:=List.mem_map.1 ha
   simp at hb2
   subst hb2
   intro e
   rw[<-Bool.not_eq_true,List.any_eq_true] at h2
   exact h2 ⟨y,hy,decide_eq_true (by rw[e])⟩
theorem zgf{s:Cr}{l:List (Int × Int)}(h:OrdOk s l)(k:Nat):OrdOk s (l.take k) :=
 ⟨fun x hx=>h.1 x (List.mem_of_mem_take hx),by rw[List.map_take];exact h.2.sublist (List.take_sublist ..)⟩
theorem zq5{s:Cr}(hs:CrOk s){l:List (Int × Int)}(h:OrdOk s l):l.length<=5:=by
 have h1:((l.map (·.1)).map Int.toNat).Nodup:=by
  refine List.pairwise_map.2 (List.Pairwise.imp_of_mem (fun {a b} ha hb hab=>?_) h.2)
  obtain⟨x,hx,rfl⟩:=List.mem_map.1 ha
  obtain⟨y,hy,rfl⟩:=List.mem_map.1 hb
  have h2:=h.1 x hx
  have h3:=h.1 y hy
  unfold rightP at h2 h3
  omega
 have h2:=z7n 5 _ h1 (fun k hk=>by
  obtain⟨a,ha,rfl⟩:=List.mem_map.1 hk
  obtain⟨x,hx,rfl⟩:=List.mem_map.1 ha
  have h2:=h.1 x hx
  have:=hs.n5
  unfold rightP at h2
  omega)
 rw[List.length_map,List.length_map] at h2
 exact h2
set_option maxHeartbeats 16000000 in
theorem zow{A:CrA}{s:Cr}{aI:Option (Nat × Nat)}{fI:Bool}{eI:Nat}{l:List (Int × Int)}{M:Mem}(hM:CrM M A s)(hl:SlA 2 shtc M aI l)(hlen:l.length<=1000000000000000):ze Tryz.prog 10 [crv A s,.slice aI l.length fI eI] M (fun v M'=>Grow M M' /\ ∃ sl,v=.tup [sl,I (TimesF s l).2] /\ Vec M.next 2 26 bdc M' sl (TimesF s l).1):=by
 refine zf k10 rfl ?_
 delta x10;refine un ?_
 have hc:=fun M' (hg:Grow M M')=>zfp (hM.grow hg)
 unfold TimesF
 repeat' first|with_reducible intro _|refine sv ?_|((with_reducible first|apply zz|apply z0w|apply x_call0);exact gd;exact rfl;exact rfl;(first|exact hc _ (xg)))|refine ss ?_ ?_<;>(intro h;first|exact sz h|refine sy h ?_)|exact sq|fail
 rename_i n2 M1 hn2 e1 e2 w M3 hq
 obtain⟨hg3,⟨hno,pk,rfl⟩|⟨hok,pc,pm,pk,rfl,hpl,h1,h2,h3⟩⟩:=hq
 ·have hle3:=hg3.le
  rw[if_neg hno]
  repeat' first|with_reducible intro _|refine sv ?_|refine ss ?_ ?_<;>(intro h;first|exact sz h|refine sy h ?_)|exact sq|fail
  refine kf ?_
  exact⟨xg,_,rfl,.nil⟩
 have hle3:=hg3.le
 rw[if_pos hok]
 have hpm:=hpl.ch.known.lt
 have hpk:=hpl.kc.lt
 have hn5:=hok.n5
 have hn1:=hok.n1
 repeat' first|with_reducible intro _|refine sv ?_|refine ss ?_ ?_<;>(intro h;first|exact sz h|refine sy h ?_)|exact sq|fail
 rename_i n6 M4 hn6 e3 e4 M5 hu5 e5 a6
 have hg5:Grow M3 M5:=xg
 have hg05:Grow M M5:=xg
 have hpl5:=hpl.grow hg5
 have hle5:=hg5.le
 clear hg5
 refine zk (fun n E ms M'=>∃ k:Nat,n=l.length - k /\ k<=l.length /\ ms=[] /\ Has E [(1,.slice aI l.length fI eI),(6,.ptr (some (n6,0))),(8,I (metN (l.take k):Nat)),(25,.slice aI l.length fI eI),(26,I l.length),(27,I k)] /\ Grow M5 M' /\ OrdOk s (l.take k)) ?_ l.length _ _ _
  ⟨0,by omega,by omega,rfl,.cons rfl (.cons rfl (.cons rfl (.cons rfl (.cons rfl (.cons rfl .nil))))),xg,fun x hx=>(by cases hx),List.nodup_nil⟩
 rintro n E ms M6 ⟨k,rfl,hk,rfl,hE,hg6,hord⟩
 have hle6:=hg6.le
 have d6:=a6.grow hg6
 have hmet:metN (l.take k) < 1024:=zo7 hn5 _ 0 (by omega) hord.1
 refine z1h hE ?_
 have hl6:=(hl.grow hg05).grow hg6
 by_cases hlast:k=l.length
 rotate_left
 ·have hlt:k < l.length:=by omega
  obtain⟨iI,oI,rfl,hrI⟩:=hl6.resolve_left (fun h=>by rw[h] at hlt;simp at hlt)
  have rI:=hrI k hlt
  have hiI:=rI.2
  have htk:l.take (k+1)=l.take k ++ [l[k]]:=List.take_succ_eq_append_getElem hlt
  have hstep:=zmw (x:=l[k]) hord
  rw[<-htk] at hstep
  have hmk:metN (l.take (k+1))=metN (l.take k) ||| 2 ^ (l[k]).1.toNat:=by unfold metN;rw[htk,List.foldl_append];rfl
  have hcr:=fun M' (hg:Grow M5 M')=>zp6 (x:=l[k]) (hpl5.ch.grow hg) ⟨hn1,hn5⟩
  generalize hx:l[k]=x at *
  by_cases hr:rightP s x
  ·have hr':=hr
   unfold rightP at hr'
   obtain⟨x1,x2⟩:=x
   obtain⟨i,rfl⟩:=Int.eq_ofNat_of_zero_le hr'.1.1
   have hi5:i < 5:=by have:=hr'.1.2;dsimp only at this;omega
   have hsb:=z1w (k:=i) (by omega)
   dsimp only at hr' hstep hmk hcr
   have rI:Rd M6 iI (oI+k*2) 2 [I (i:Int),I x2]:=rI
   rw[Int.toNat_natCast] at hstep hmk
   cases hb:(metN (l.take k)).testBit i with
   | true =>
    have hz:¬ andZ (metN (l.take k):Int) (shlZ 1 (i:Int))=0:=fun h=>by rw[z47,hb] at h;cases h
    have hnot:¬ OrdOk s l:=fun h=>by have:=(hstep.1 (zgf h (k+1))).2;rw[hb] at this;cases this
    rw[if_neg hnot]
    (have hrd0:=rI;repeat' (first|(with_reducible intro _)|refine sv ?_|((with_reducible first|apply zj|apply zi|apply d_pure0);exact gd;exact rfl;exact rfl;(first|exact hcr _ (xg)))|refine ss ?_ ?_<;>(intro h;first|exact sz h|refine sy h ?_)|exact sq|fail))
    all_goals try(exfalso;omega)
    all_goals ((refine kf ?_);exact⟨xg,_,rfl,.nil⟩)
   | false =>
    have hz:andZ (metN (l.take k):Int) (shlZ 1 (i:Int))=0:=(z47 _ _).2 hb
    have hor:=zk9 (metN (l.take k)) i
    rw[<-hmk] at hor
    (have hrd0:=rI;repeat' (first|(with_reducible intro _)|refine sv ?_|((with_reducible first|apply zj|apply zi|apply d_pure0);exact gd;exact rfl;exact rfl;(first|exact hcr _ (xg)))|refine ss ?_ ?_<;>(intro h;first|exact sz h|refine sy h ?_)|exact sq|fail))
    all_goals try(exfalso;omega)
    refine z0d (l.length - (k+1)) (by omega) ⟨k+1,rfl,by omega,rfl,.cons rfl (.cons rfl (.cons (by rw[<-hor];rfl) (.cons rfl (.cons rfl (.cons rfl .nil))))),xg,hstep.2 ⟨hr,hb⟩⟩
  ·have hnot:¬ OrdOk s l:=fun h=>hr (hstep.1 (zgf h (k+1))).1
   rw[if_neg hnot]
   unfold rightP at hr
   (have hrd0:=rI;repeat' (first|(with_reducible intro _)|refine sv ?_|((with_reducible first|apply zj|apply zi|apply d_pure0);exact gd;exact rfl;exact rfl;(first|exact hcr _ (xg)))|refine ss ?_ ?_<;>(intro h;first|exact sz h|refine sy h ?_)|exact sq|fail))
   all_goals try(exact absurd (by assumption) hr)
   all_goals ((refine kf ?_);exact⟨xg,_,rfl,.nil⟩)
 subst hlast
 rw[List.take_length] at hord
 rw[if_pos hord]
 have hl5:=zq5 hok hord
 have hst:=fun M' (hg:Grow M5 M')=>zb0 (pk:=pk) (ChC.mk (hpl5.ch.grow hg).cr (hpl5.ch.grow hg).cells)
 repeat' first|with_reducible intro _|refine sv ?_|((with_reducible first|apply zj|apply zi|apply d_pure0);exact gd;exact rfl;exact rfl;(first|exact hst _ (xg)))|refine ss ?_ ?_<;>(intro h;first|exact sz h|refine sy h ?_)|exact sq|fail
 rename_i M7 hg7 e7 n12 M8 hn12 e8 e9 M9 hu9 e10 a12
 have hg9:Grow M5 M9:=((hg6.trans hg7).new hn12).upd hu9 (by omega)
 have hk59:Keep (fun i=>i=pm ∨ i=pk) M5 M9:=hg9.to_keep _
 have hM5:M.next<=M5.next:=by omega
 have hpm5:pm < M5.next:=by omega
 have hpk5:pk < M5.next:=by omega
 have hn6:n6 < M5.next:=a6.2
 have hn6m:n6 ≠ pm:=by omega
 have hn6k:n6 ≠ pk:=by omega
 have hkn9:KnM M9 s pm:=hpl5.ch.known.at hg9.le (hg9.old _ hpm5)
 have hkc9:KcM M9 s pk:=hpl5.kc.at hg9.le (hg9.old _ hpk5)
 have d9:=a6.grow hg9
 have hn12b:M5.next<=n12:=by omega
 have hlM5:SlA 2 shtc M5 aI l:=hl.grow hg05
 have hiIlt:∀ i o,aI=some (i,o)->l ≠ []->i < M.next:=fun i o e hne=>by
  obtain⟨i',o',e',hr'⟩:=hl.resolve_left hne
  rw[e'] at e;cases e
  exact(hr' 0 (by cases l with|nil=>exact absurd rfl hne|cons a l=>simp)).2
 have hb9:n12+1<=M9.next:=by have:=a12.2;omega
 refine zk (fun n E ms M'=>∃(k:Nat) (out:List Bd) (x:Rch) (vo:LV),n=l.length - k /\ k<=l.length /\ ms=[] /\ Has E [(6,.ptr (some (n6,0))),(11,vo),(12,.ptr (some (n12,0))),(52,.slice aI l.length fI eI),(53,I l.length),(54,I k)] /\ Keep (fun i=>i=pm ∨ i=pk) M5 M' /\ KnM M' s pm /\ KcM M' s pk /\ n12+1<=M'.next /\
   At M' n6 (.cells true [.ptr (some (pc,0)),.map (some pk)] 130) /\ At M' n12 (.cells true (rchc x) 142) /\ Vec (n12+1) 2 26 bdc M' vo out /\ PoseOk x.1 /\ (0<=x.2 /\ x.2<=1048576) /\ out.length=k /\ timesG s (startR s) (l.map shN)=(timesG s x ((l.drop k).map shN)).map (fun r=>out ++ r)) ?_ l.length _ _ _
  ⟨0,[],startR s,_,by omega,by omega,rfl,.cons rfl (.cons rfl (.cons rfl (.cons rfl (.cons rfl (.cons rfl .nil))))),hk59,hkn9,hkc9,hb9,d9,a12,.nil,hok.start,⟨Int.le_refl 0,show(0:Int)<=1048576 by decide⟩,rfl,by simp⟩
 rintro n E ms M10 ⟨k,out,x,vo,rfl,hk,rfl,hE2,hk10,hkn10,hkc10,hle10,f6,f12,hvo,hxp,hxt,hol,htg⟩
 refine z1h hE2 ?_
 have hleK:=hk10.le
 by_cases hlast:k=l.length
 ·subst hlast
  rw[List.drop_length] at htg
  have htg:timesG s (startR s) (l.map shN)=some out:=by rw[htg];show some (out ++ [])=_;rw[List.append_nil]
  rw[htg]
  obtain⟨ao,fo,eo,hvs⟩:=hvo.shape
  repeat' first|with_reducible intro _|refine sv ?_|refine ss ?_ ?_<;>(intro h;first|exact sz h|refine sy h ?_)|exact sq|fail
  refine kf ?_
  refine⟨?_,_,rfl,hvo.imp id fun⟨i,q1,q2,q3⟩=>⟨i,q1,q2,by omega⟩⟩
  exact⟨by omega,fun i hi=>by rw[hk10.old i (by omega) (by omega)];exact hg05.old i hi⟩
 have hlt:k < l.length:=by omega
 have hpl10:=hpl5.keepm hk10 hkn10 hkc10
 obtain⟨iI,oI,rfl,hrI⟩:=hlM5.resolve_left (fun h=>by rw[h] at hlt;simp at hlt)
 have hiI:=hiIlt iI oI rfl (by intro h;rw[h] at hlt;simp at hlt)
 have rI:=(hrI k hlt).keep hk10 (by omega)
 have hr:=hord.1 _ (List.getElem_mem hlt)
 have hdr:=List.drop_eq_getElem_cons hlt
 rw[hdr,List.map_cons] at htg
 generalize hx:l[k]=y at *
 obtain⟨hsh,hc2⟩:=zv2 hr
 have htgs:timesG s x (shN y ::(l.drop (k+1)).map shN)=(match goF s x (shN y) with|none=>none|some b=>(timesG s (rchF s (shN y) b.2) ((l.drop (k+1)).map shN)).map (b :: ·)):=rfl
 rw[htgs] at htg
 have hgo:=fun M' (hg:Grow M10 M')=>zfo (x:=x) (c:=shN y) (hpl10.grow hg) hok hxp (by omega) hc2
 rw[hsh] at hgo
 have q6:=f6.2
 have q12:=f12.2
 (have hrd0:=rI;repeat' (first|(with_reducible intro _)|refine sv ?_|refine ss ?_ ?_<;>(intro h;first|exact sz h|refine sy h ?_)|exact sq|fail))
 rename_i n14 M11 hn14 e11 e12 M12 hu12 e13 a14
 have hg12:Grow M10 M12:=xg
 refine zz (by exact gd) rfl rfl (show AppOk Tryz.prog _ _ M12 _ from hgo M12 hg12) ?_
 rintro w M13 ⟨rfl,hk13,hkn13,hkc13⟩
 have hle13:=hk13.le
 have hg12le:=hg12.le
 have g6:=(f6.grow hg12).keep hk13 (by omega)
 have g12:=(f12.grow hg12).keep hk13 (by omega)
 have g14:=a14.keep hk13 (by omega)
 have hk513:Keep (fun i=>i=pm ∨ i=pk) M5 M13:=(hk10.grow hg12).trans hk13 (fun i hi=>.inl hi)
 have hvo13:Vec (n12+1) 2 26 bdc M13 vo out:=(hvo.grow hg12).imp id fun⟨i,q1,q2,q3⟩=>⟨i,q1,q2.keep hk13 (by omega),q3⟩
 have hpm13:=hkn13.lt
 have hpk13:=hkc13.lt
 cases hgf:goF s x (shN y) with
 | none =>
  rw[hgf] at htg
  have htg:timesG s (startR s) (l.map shN)=none:=htg
  rw[htg]
  repeat' first|with_reducible intro _|refine sv ?_|refine ss ?_ ?_<;>(intro h;first|exact sz h|refine sy h ?_)|exact sq|fail
  rename_i n15 M14 hn15 e14 e15 M15 hu15 e16 a15
  have hk515:Keep (fun i=>i=pm ∨ i=pk) M5 M15:=(hk513.new hn15).upd hu15 (.inr (by omega))
  refine kf ?_
  exact⟨⟨by have:=hk515.le;omega,fun i hi=>by rw[hk515.old i (by omega) (by omega)];exact hg05.old i hi⟩,_,rfl,.nil⟩
 | some b =>
  rw[hgf] at htg
  have hgb:=za3 hok (z3o hc2) hgf
  repeat' first|with_reducible intro _|refine sv ?_|refine ss ?_ ?_<;>(intro h;first|exact sz h|refine sy h ?_)|exact sq|fail
  rename_i n15 M14 hn15 e14 e15 M15 hu15 e16 a15 n69 M16 hn69 e17 e18
  have hvo16:Vec (n12+1) 2 26 bdc M16 vo out:=hvo13.imp id fun⟨i,q1,q2,q3⟩=>⟨i,q1,At.new_old hn69 (At.upd_ne hu15 (by have:=q2.2;omega) (At.new_old hn15 q2)),q3⟩
  have hw16:z08 2 1 (.slice (some (n69,0)) 1 true 2) M16=some ([b].flatMap bdc):=z5t (enc:=bdc) (l:=[b]) (fun _ _=>rfl) (fun k hk=>z3k (enc:=bdc) (l:=[b]) (At.new_same hn69) (fun _ _=>rfl) hk)
  refine zdm (by exact gd) (l':=[b]) hvo16 rfl rfl rfl (by simp) (by rw[List.length_singleton];omega) rfl hw16 (fun _=>rfl) (fun _=>rfl) (by omega) ?_
  intro vo17 M17 hvo17 e19 hk17
  have hle17:=hk17.le
  have hvb:∀ i o n f e,vo=.slice (some (i,o)) n f e->i < M10.next:=fun i o n f e h=>by
   rcases hvo with⟨_,q1⟩|⟨q,q1,q2,_⟩
   ·rw[q1] at h;cases h
   ·rw[q1] at h;cases h;exact q2.2
  have hF:∀ i,(i<=n12 ∨ M10.next<=i)->¬(n12+1<=i /\ ∃ o n f e,vo=.slice (some (i,o)) n f e):=fun i hi h=>by
   obtain⟨h1,o,n,f,e,h2⟩:=h
   have:=hvb _ _ _ _ _ h2
   omega
  have hk517:Keep (fun i=>i=pm ∨ i=pk) M5 M17:=(((hk513.new hn15).upd hu15 (.inr (by omega))).new hn69).trans hk17 (fun i hi=>.inr (by have:=hi.1;omega))
  have haf:=fun M' (hg:Grow M17 M')=>zaw (pk:=pk) (c:=shN y) (t:=b.2) ((hpl5.chc hk517).grow hg) hok hc2
  rw[hsh] at haf
  have g6':At M17 n6 (.cells true [.ptr (some (pc,0)),.map (some pk)] 130):=At.keep hk17 (hF _ (.inl (by omega))) (xm)
  have g12':At M17 n12 (.cells true (rchc x) 142):=At.keep hk17 (hF _ (.inl (by omega))) (xm)
  have g14':At M17 n14 (.cells true [I y.1,I y.2] 47):=At.keep hk17 (hF _ (.inr (by omega))) (xm)
  have g15':At M17 n15 (.cells true [I b.1,I b.2] 26):=At.keep hk17 (hF _ (.inr (by omega))) (xm)
  have hgm:∀ i,i < M13.next->M16.get i=M13.get i:=fun i hi=>by rw[hn69.grow.old i (by omega),z03 hu15 (by omega),hn15.grow.old i hi]
  have hkn17:KnM M17 s pm:=(hkn13.at (by omega) (hgm _ hpm13)).at hk17.le (hk17.old _ (by omega) (hF _ (.inl (by omega))))
  have hkc17:KcM M17 s pk:=(hkc13.at (by omega) (hgm _ hpk13)).at hk17.le (hk17.old _ (by omega) (hF _ (.inl (by omega))))
  repeat' first|with_reducible intro _|refine sv ?_|((with_reducible first|apply zj|apply zi|apply d_pure0);exact gd;exact rfl;exact rfl;(first|exact haf _ (xg)))|refine ss ?_ ?_<;>(intro h;first|exact sz h|refine sy h ?_)|exact sq|fail
  rename_i M18 hg18 e20 M19 hu19 e21 a19
  have hk519:Keep (fun i=>i=pm ∨ i=pk) M5 M19:=(hk517.grow hg18).upd hu19 (.inr hn12b)
  have hpm17:=hkn17.lt
  have hpk17:=hkc17.lt
  have hpmn:pm ≠ n12:=by omega
  have hpkn:pk ≠ n12:=by omega
  have hn6n:n6 ≠ n12:=by omega
  refine z0d (l.length - (k+1)) (by omega) ⟨k+1,out ++ [b],rchF s (shN y) b.2,vo17,rfl,by omega,rfl,.cons rfl (.cons rfl (.cons rfl (.cons rfl (.cons rfl (.cons rfl .nil))))),hk519,hkn17.at (by omega) (by rw[z03 hu19 hpmn,hg18.old _ hpm17]),hkc17.at (by omega) (by rw[z03 hu19 hpkn,hg18.old _ hpk17]),by omega,(g6'.grow hg18).upd_ne hu19 hn6n,a19,?_,ze6 hok (z3o hc2),⟨by show 0<=b.2;omega,by show b.2<=1048576;omega⟩,by rw[List.length_append];simp;omega,?_⟩
  ·exact(hvo17.grow hg18).imp id fun⟨i,q1,q2,q3⟩=>⟨i,q1,q2.upd_ne hu19 (by omega),q3⟩
  ·rw[htg]
   dsimp only
   cases timesG s (rchF s (shN y) b.2) ((l.drop (k+1)).map shN) with
   | none=>rfl
   | some r=>show some (out ++ b :: r)=some (out ++ [b] ++ r);rw[List.append_assoc];rfl
theorem ztg:∃ e,Tryz.prog.underlying 36=some (.slice e):=⟨47,by kernel_rfl⟩
instance:IsSl Tryz.prog 36:=⟨ztg⟩
abbrev shcc(c:Nat):List LV:=[I (c / 2:Nat),I (c % 2:Nat)]
theorem zgx{b:Nat}{v:LV}{l:List Nat}{M:Mem}(hv:Vec b 2 47 shcc M v l)(hnil:l=[]->∀ i,v ≠ .slice (some (i,0)) 0 false 2)(hlen:l.length<=1000000) :
  ze Tryz.prog 45 [v] M (fun w M'=>Vec M.next 2 47 shcc M' w l /\ Grow M M'):=by
 refine zf k45 rfl ?_
 delta x45;refine un ?_
 rcases hv with⟨rfl,rfl⟩|⟨i,rfl,ai,hb⟩
 ·repeat' first|with_reducible intro _|refine sv ?_|refine ss ?_ ?_<;>(intro h;first|exact sz h|refine sy h ?_)|exact sq|fail
  refine kf ?_
  exact⟨.nil,xg⟩
 ·by_cases h0:l=[]
  ·subst h0
   exact absurd rfl (hnil rfl i)
  have h0:0 < l.length:=List.length_pos_iff.2 h0
  repeat' first|with_reducible intro _|refine sv ?_|refine ss ?_ ?_<;>(intro h;first|exact sz h|refine sy h ?_)|exact sq|fail
  rename_i n5 M1 hn5 e1 e2
  have hw:z08 2 l.length (.slice (some (i,0)) l.length false 2) M1=some (l.flatMap shcc):=z5t (enc:=shcc) (fun x _=>rfl) (fun k hk=>z3k (enc:=shcc) (At.new_old hn5 ai) (fun x _=>rfl) hk)
  refine zdl (by exact gd) (old:=[]) rfl rfl rfl h0 (by omega) rfl rfl hw (z1e (fun x _=>rfl)) (.inr rfl) ?_
  intro n6 M2 hn6 e3 e4
  repeat' first|with_reducible intro _|refine sv ?_|refine ss ?_ ?_<;>(intro h;first|exact sz h|refine sy h ?_)|exact sq|fail
  refine kf ?_
  exact⟨.inr ⟨n6,by rw[Nat.zero_add];rfl,At.new_same hn6,by omega⟩,xg⟩
noncomputable def nextO(s:Cr)(e:Int):Nat->List Nat->Rch->Nat->Option (List Nat)
 | 0,l,x,left=>if left=0 then(if x.2=e then some l else none) else none
 | f+1,l,x,left=>if left=0 then(if x.2=e then some l else none) else
  (shootsL s left).findSome? fun c=>match goF s x c with
   | none=>none
   | some b=>if e < b.2 then none else nextO s e f (l ++ [c]) (rchF s c b.2) (restN left (c / 2))
abbrev bestV(nf ne np nx:Nat):LV:=.func (.func 43) [] [.ptr (some (nf,0)),.ptr (some (ne,0)),.ptr (some (np,0)),.ptr (some (nx,0))]
def BsPost(s:Cr)(pm pk nf b0:Nat)(o:Option (List Nat))(M:Mem)(w:LV)(M':Mem):Prop :=
 Keep (fun i=>i=pm ∨ i=pk ∨ i=nf) M M' /\ KnM M' s pm /\ KcM M' s pk /\ ∃ u,At M' nf (.cells true [u] 36) /\ ((w=.bool true /\ ∃ r,o=some r /\ Vec b0 2 47 shcc M' u r) ∨(w=.bool false /\ o=none))
structure BsPre (MB:Mem) (s:Cr) (pc pm pk nf ne np nx:Nat) (e:Int) (b0:Nat) (l:List Nat) (x:Rch) (left:Nat) (v:LV) (M:Mem):Prop where
 kp:Keep (fun i=>i=pm ∨ i=pk) MB M
 kn:KnM M s pm
 kc:KcM M s pk
 fo:∃ u,At M nf (.cells true [u] 36)
 en:At M ne (.cells true [I e] 3)
 pl:At M np (.cells true [.ptr (some (pc,0)),.map (some pk)] 130)
 nx:At M nx (.cells true [bestV nf ne np nx] 139)
 vec:Vec b0 2 47 shcc M v l
 nil:l=[]->∀ i,v ≠ .slice (some (i,0)) 0 false 2
 len:l.length+left<=100
 pos:PoseOk x.1
 tim:0<=x.2 /\ x.2<=5000000
set_option maxHeartbeats 8000000 in
theorem z71{MB:Mem}{A:CrA}{s:Cr}{pc pm pk nf ne np nx b0:Nat}{e:Int}(hpl:PlM MB A s pc pm pk)(hs:CrOk s)(he:-1<=e /\ e<=5000000)(hnf:MB.next<=nf){M:Mem}{l:List Nat}{x:Rch}{v:LV}(h:BsPre MB s pc pm pk nf ne np nx e b0 l x 0 v M) :
  ze Tryz.prog 43 [v,.agg (rchc x),I 0,.ptr (some (nf,0)),.ptr (some (ne,0)),.ptr (some (np,0)),.ptr (some (nx,0))] M (BsPost s pm pk nf b0 (if x.2=e then some l else none) M):=by
 obtain⟨hk,hkn,hkc,⟨u,hf⟩,hen,hp,hx,hv,hnil,hlen,hpo,htm⟩:=h
 obtain⟨ao,fo,eo,rfl⟩:=hv.shape
 have l1:=hf.2
 have l2:=hen.2
 have l3:=hkn.lt
 have l4:=hkc.lt
 have l5:=hkn.ne_at hf
 have l6:=hkc.ne_at hf
 have l7:ne ≠ nf:=fun h=>by subst h;exact absurd (zdq hf hen) (by decide)
 refine zf k43 rfl ?_
 delta x43;refine un ?_
 repeat' first|with_reducible intro _|refine sv ?_|refine ss ?_ ?_<;>(intro h;first|exact sz h|refine sy h ?_)|exact sq|fail
 rename_i n7 M1 hn7 e1 e2 n8 M2 hn8 e3 e4 n9 M3 hn9 e5 e6 n10 M4 hn10 e7 e8 M5 hu5 e9 a5 M6 hu6 e10 a6
 have hk6:Keep (fun i=>i=pm ∨ i=pk ∨ i=nf) M M6:=xk
 have hgo:∀ i,i < M.next->i ≠ nf->M6.get i=M.get i:=fun i hi hne=>by rw[z03 hu6 (by omega),z03 hu5 hne,hn10.grow.old i (by omega),hn9.grow.old i (by omega),hn8.grow.old i (by omega),hn7.grow.old i hi]
 have hv6:=Vec.keep_ne hv hk6 (fun i hi hf2=>hf2.elim (fun h=>hkn.ne_at hi h) (fun h=>h.elim (fun h=>hkc.ne_at hi h) (fun h=>by subst h;exact absurd (zdq hf hi) (by decide))))
 refine kf ?_
 refine⟨hk6,hkn.at hk6.le (hgo _ (by omega) (by omega)),hkc.at hk6.le (hgo _ (by omega) (by omega)),_,xm,?_⟩
 by_cases hx:x.2=e
 ·rw[if_pos hx,decide_eq_true hx]
  exact .inl ⟨rfl,l,rfl,hv6⟩
 ·rw[if_neg hx,decide_eq_false hx]
  exact .inr ⟨rfl,rfl⟩
noncomputable def stepG(s:Cr)(e:Int)(G:List Nat->Rch->Nat->Option (List Nat))(l:List Nat)(x:Rch)(left c:Nat):Option (List Nat) :=
 match goF s x c with|none=>none|some b=>if e < b.2 then none else G (l ++ [c]) (rchF s c b.2) (restN left (c / 2))
set_option maxHeartbeats 16000000 in
theorem zcf{MB:Mem}{A:CrA}{s:Cr}{pc pm pk nf ne np nx b0:Nat}{e:Int}(G:List Nat->Rch->Nat->Option (List Nat))(hpl:PlM MB A s pc pm pk)(hs:CrOk s)(he:-1<=e /\ e<=5000000)(hnf:MB.next<=nf){left:Nat}
  (IH:∀(M':Mem) (b':Nat) (l':List Nat) (x':Rch) (left':Nat) (v':LV),left' < left->b'<=M'.next->BsPre MB s pc pm pk nf ne np nx e b' l' x' left' v' M' ->
   ze Tryz.prog 43 [v',.agg (rchc x'),I left',.ptr (some (nf,0)),.ptr (some (ne,0)),.ptr (some (np,0)),.ptr (some (nx,0))] M' (BsPost s pm pk nf b' (G l' x' left') M'))
  {M:Mem} {l:List Nat} {x:Rch} {v:LV} (hb0:b0<=M.next) (hl0:left ≠ 0) (hl1:left < 2 ^ s.lines.length) (h:BsPre MB s pc pm pk nf ne np nx e b0 l x left v M) :
  ze Tryz.prog 43 [v,.agg (rchc x),I left,.ptr (some (nf,0)),.ptr (some (ne,0)),.ptr (some (np,0)),.ptr (some (nx,0))] M (BsPost s pm pk nf b0 ((shootsL s left).findSome? (stepG s e G l x left)) M):=by
 obtain⟨hk,hkn,hkc,⟨u,hf⟩,hen,hp,hx,hv,hnil,hlen,hpo,htm⟩:=h
 obtain⟨ao,fo,eo,rfl⟩:=hv.shape
 have hn5:=hs.n5
 have hp2:2 ^ s.lines.length<=32:=Nat.pow_le_pow_right (n:=2) (by omega) hn5
 have l1:=hf.2
 have l2:=hen.2
 have l3:=hkn.lt
 have l4:=hkc.lt
 have l5:=hkn.ne_at hf
 have l6:=hkc.ne_at hf
 have l7:ne ≠ nf:=fun h=>by subst h;exact absurd (zdq hf hen) (by decide)
 have l8:np ≠ nf:=fun h=>by subst h;exact absurd (zdq hf hp) (by decide)
 have l9:nx ≠ nf:=fun h=>by subst h;exact absurd (zdq hf hx) (by decide)
 have l10:=hp.2
 have l11:=hx.2
 have l12:=hkn.ne_at hen
 have l13:=hkc.ne_at hen
 have l14:=hkn.ne_at hp
 have l15:=hkc.ne_at hp
 have l16:=hkn.ne_at hx
 have l17:=hkc.ne_at hx
 refine zf k43 rfl ?_
 delta x43;refine un ?_
 repeat' first|with_reducible intro _|refine sv ?_|refine ss ?_ ?_<;>(intro h;first|exact sz h|refine sy h ?_)|exact sq|fail
 rename_i n7 M1 hn7 e1 e2 n8 M2 hn8 e3 e4 n9 M3 hn9 e5 e6 n10 M4 hn10 e7 e8
 have hg4:Grow M M4:=xg
 refine zz (by exact gd) rfl rfl (show AppOk Tryz.prog _ _ M4 _ from z7l (pc:=pc) (pk:=pk) (set:=(left:Int)) M4) ?_
 rintro w M5 ⟨np2,nsq,rfl,hg5,hp5,hs5,a5,b5⟩
 have hle5:=hg5.le
 have q1:=a5.2
 have q2:=b5.2
 repeat' first|with_reducible intro _|refine sv ?_|refine ss ?_ ?_<;>(intro h;first|exact sz h|refine sy h ?_)|exact sq|fail
 apply z4w
 exact rfl
 intro lb d ll M6 M7 hlb hd e10 e11 hl e12 e13
 have hg47:Grow M4 M7:=(hg5.trans hd.grow).trans hl.grow
 have hg57:Grow M5 M7:=hd.grow.trans hl.grow
 have hg7:Grow M M7:=hg4.trans hg47
 have hle7:=hg7.le
 have hleK:=hk.le
 have b7:At M7 n7 (.cells true [.slice ao l.length fo eo] 36):=At.grow hg47 (xm)
 have b8:At M7 n8 (.cells true (rchc x) 142):=At.grow hg47 (xm)
 have b9:At M7 n9 (.cells true [I left] 3):=At.grow hg47 (xm)
 have b10:At M7 n10 (.cells true [.bool false] 4):=At.grow hg47 (xm)
 have bd:At M7 d .defr:=At.new_old hl (At.new_same hd)
 have hch7:=hpl.chc ((hk.grow hg7))
 have hy:=z7s (A:=A) (s:=s) (pc:=pc) (pm:=pm) (pk:=pk) (np:=np2) (ns:=nsq) (set:=left) (M0:=M7) hch7.cells (a5.grow hg57) (b5.grow hg57) hn5 (by omega)
 have k1:pm < MB.next:=hpl.ch.known.lt
 have k2:pk < MB.next:=hpl.kc.lt
 have hdne:d ≠ n10 /\ d ≠ nf /\ d ≠ pm /\ d ≠ pk /\ d ≠ ll /\ n10 < d /\ n10 ≠ ll /\ n10 ≠ nf /\ n10 ≠ pm /\ n10 ≠ pk:=by omega
 let KF:Nat->Prop:=fun i=>i=pm ∨ i=pk ∨ i=nf ∨ i=n10 ∨ i=ll
 refine(hy ll KF (fun dn T M'=>Keep (fun i=>i=pm ∨ i=pk ∨ i=nf ∨ i=ll) M7 M' /\ KnM M' s pm /\ KcM M' s pk /\ (∃ u,At M' nf (.cells true [u] 36)) /\ At M' ll (lb .ready none) /\ dn.findSome? (stepG s e G l x left)=none)
  (fun T M'=>Keep KF M7 M' /\ KnM M' s pm /\ KcM M' s pk /\ At M' n10 (.cells true [.bool true] 4) /\ At M' ll (lb .done (some .ret)) /\ ∃ u r,At M' nf (.cells true [u] 36) /\ (shootsL s left).findSome? (stepG s e G l x left)=some r /\ Vec M7.next 2 47 shcc M' u r /\ ∀ i o n f e,u=.slice (some (i,o)) n f e->T i) ⟨?_,?_,?_,?_⟩ ?_ ⟨Keep.refl _ _,hkn.at hg7.le (hg7.old _ l3),hkc.at hg7.le (hg7.old _ l4),⟨u,hf.grow hg7⟩,At.new_same hl,rfl⟩).mono ?_
 ·rintro i (rfl|rfl|rfl|rfl|rfl)<;>omega
 ·rintro dn T Mx My ⟨h1,h2,h3,⟨u',h4⟩,h5,h6⟩ hle hg
  have hgo:∀ i,i < M7.next->My.get i=Mx.get i:=fun i hi=>hg i (.inl ⟨hi,id⟩)
  exact⟨⟨Nat.le_trans h1.le hle,fun i hi hf=>by rw[hgo i (by omega)];exact h1.old i hi hf⟩,h2.at hle (hgo _ (by omega)),h3.at hle (hgo _ (by omega)),⟨u',h4.same hle (hgo _ (by omega))⟩,h5.same hle (hgo _ (by omega)),h6⟩
 ·rintro T Mx My ⟨h1,h2,h3,h4,h5,u',r,h6,h7,h8,h9⟩ hle hg
  have hgo:∀ i,i < M7.next->My.get i=Mx.get i:=fun i hi=>hg i (.inl ⟨hi,id⟩)
  exact⟨⟨Nat.le_trans h1.le hle,fun i hi hf=>by rw[hgo i (by omega)];exact h1.old i hi hf⟩,h2.at hle (hgo _ (by omega)),h3.at hle (hgo _ (by omega)),h4.same hle (hgo _ (by omega)),h5.same hle (hgo _ (by omega)),u',r,h6.same hle (hgo _ (by omega)),h7,h8.imp id (fun⟨i,z1,z2,z3⟩=>⟨i,z1,z2.same hle (hg i (.inr (h9 _ _ _ _ _ z1))),z3⟩),h9⟩
 ·rintro dn c rest vv U T Mx hits ⟨rfl,hU⟩ hN0 hT hUd ⟨h1,h2,h3,⟨u',h4⟩,h5,h6⟩
  have hcm:=z0p.1 (show c ∈ shootsL s left by rw[hits];simp)
  have hc2:c < 2*s.lines.length:=hcm.1
  have hle1:=h1.le
  have hlM:=h5.2
  have hkMx:Keep (fun i=>i=pm ∨ i=pk ∨ i=nf) M Mx:=(hg7.to_keep (fun i=>i=pm ∨ i=pk ∨ i=nf)).trans h1 (fun i hi=>(by
    rcases hi with hi|hi|hi|hi
    ·exact .inl (.inl hi)
    ·exact .inl (.inr (.inl hi))
    ·exact .inl (.inr (.inr hi))
    ·exact .inr (by omega)))
  have hvx:Vec b0 2 47 shcc Mx (.slice ao l.length fo eo) l:=Vec.keep_ne hv hkMx (fun i hi hf2=>hf2.elim (fun h=>hkn.ne_at hi h) (fun h=>h.elim (fun h=>hkc.ne_at hi h) (fun h=>by subst h;exact absurd (zdq hf hi) (by decide))))
  have x7:=b7.keep h1 (by omega)
  have x8:=b8.keep h1 (by omega)
  have x9:=b9.keep h1 (by omega)
  have xe:=hen.keep hkMx (by rintro(h|h|h);exact hkn.ne_at hen h;exact hkc.ne_at hen h;exact l7 h)
  have xp:=hp.keep hkMx (by rintro(h|h|h);exact hkn.ne_at hp h;exact hkc.ne_at hp h;exact l8 h)
  have xx:=hx.keep hkMx (by rintro(h|h|h);exact hkn.ne_at hx h;exact hkc.ne_at hx h;exact l9 h)
  have hkBx:Keep (fun i=>i=pm ∨ i=pk) MB Mx:=hk.trans hkMx (fun i hi=>by omega)
  have xch:=hpl.keepm hkBx h2 h3
  have r1:=h4.2
  have r2:=h2.lt
  have r3:=h3.lt
  have r4:=xe.2
  have r5:=xp.2
  have r6:=xx.2
  have r7:=x7.2
  have hgo:=fun M' (hg:Grow Mx M')=>zfo (x:=x) (c:=c) (xch.grow hg) hs hpo htm hc2
  refine z1s hlb h5 rfl ?_
  dsimp only[zipP]
  clear hgo
  repeat' first|with_reducible intro _|refine sv ?_|refine ss ?_ ?_<;>(intro h;first|exact sz h|refine sy h ?_)|exact sq|fail
  rename_i n11 MA hnA e14 e15 MX huX e16 aX MC huC e17 aC
  have hkC:Keep (fun i=>i=ll) Mx MC:=xk
  have hleC:=hkC.le
  have xchC:PlM MC A s pc pm pk:=hpl.keepm (hkBx.trans hkC (fun i hi=>.inr (by omega))) (h2.at hleC (hkC.old _ r2 (by omega))) (h3.at hleC (hkC.old _ r3 (by omega)))
  have aXC:At MC n11 (.cells true (shcc c) 47):=xm
  refine zz (by exact gd) rfl rfl (show AppOk Tryz.prog _ _ MC _ from zfo (x:=x) (c:=c) xchC hs hpo htm hc2) ?_
  rintro w MD ⟨rfl,hkD,hknD,hkcD⟩
  have hleD:=hkD.le
  have hkxD:Keep (fun i=>i=pm ∨ i=pk ∨ i=ll) Mx MD:=(hkC.weaken (fun i hi=>.inr (.inr hi))).trans hkD (fun i hi=>.inl (hi.elim .inl (fun h=>.inr (.inl h))))
  have hkMD:Keep (fun i=>i=pm ∨ i=pk ∨ i=nf) M MD:=hkMx.trans hkxD (fun i hi=>by omega)
  have hkBD:Keep (fun i=>i=pm ∨ i=pk) MB MD:=hkBx.trans hkxD (fun i hi=>by omega)
  have hvD:Vec b0 2 47 shcc MD (.slice ao l.length fo eo) l:=Vec.keep_ne hv hkMD (fun i hi hf2=>hf2.elim (fun h=>hkn.ne_at hi h) (fun h=>h.elim (fun h=>hkc.ne_at hi h) (fun h=>by subst h;exact absurd (zdq hf hi) (by decide))))
  have y7:=x7.keep hkxD (by omega)
  have y8:=x8.keep hkxD (by omega)
  have y9:=x9.keep hkxD (by omega)
  have ye:=xe.keep hkxD (by omega)
  have yp:=xp.keep hkxD (by omega)
  have yx:=xx.keep hkxD (by omega)
  have yf:=h4.keep hkxD (by omega)
  have yl:=aC.keep hkD (by omega)
  have y11:=aXC.keep hkD (by omega)
  have y10:=(b10.keep h1 (by omega)).keep hkxD (by omega)
  have yd:=(bd.keep h1 (by omega)).keep hkxD (by omega)
  have hs7:(dn ++ [c]).findSome? (stepG s e G l x left)=stepG s e G l x left c:=by rw[List.findSome?_append,h6];show Option.or none _=_;rw[Option.none_or,List.findSome?_cons];cases stepG s e G l x left c<;>rfl
  have hs8:∀ r,stepG s e G l x left c=some r->(shootsL s left).findSome? (stepG s e G l x left)=some r:=fun r hr=>by rw[hits,List.findSome?_append,h6,List.findSome?_cons,hr];rfl
  have hskip:∀ {MF MG:Mem},Keep (fun i=>False) MD MF->Upd MF ll (lb .ready none) MG->At MG ll (lb .ready none)->stepG s e G l x left c=none ->
    Keep (fun i=>KF i ∨ T i ∨ U i) Mx MG /\ ∃ T':Nat->Prop,(∀ i,T' i->(T i ∨ U i ∨ Mx.next<=i) /\ i < MG.next) /\ ((LV.bool true=.bool true /\ Keep (fun i=>i=pm ∨ i=pk ∨ i=nf ∨ i=ll) M7 MG /\ KnM MG s pm /\ KcM MG s pk /\ (∃ u,At MG nf (.cells true [u] 36)) /\ At MG ll (lb .ready none) /\ (dn ++ [c]).findSome? (stepG s e G l x left)=none) ∨(LV.bool true=.bool false /\
     (Keep KF M7 MG /\ KnM MG s pm /\ KcM MG s pk /\ At MG n10 (.cells true [.bool true] 4) /\ At MG ll (lb .done (some .ret)) /\ ∃ u r,At MG nf (.cells true [u] 36) /\ (shootsL s left).findSome? (stepG s e G l x left)=some r /\ Vec M7.next 2 47 shcc MG u r /\ ∀ i o n f e,u=.slice (some (i,o)) n f e->T' i))):=by
   intro MF MG hkF huG aG hst
   have hkG:Keep (fun i=>i=ll) MD MG:=(hkF.weaken (fun i hi=>hi.elim)).upd huG (.inl rfl)
   have hkxG:Keep (fun i=>i=pm ∨ i=pk ∨ i=nf ∨ i=ll) Mx MG:=(hkxD.weaken (fun i hi=>by omega)).trans hkG (fun i hi=>by omega)
   have z1:=hknD.lt
   have z2:=hkcD.lt
   exact⟨hkxG.weaken (fun i hi=>.inl (by show i=pm ∨ i=pk ∨ i=nf ∨ i=n10 ∨ i=ll;omega)),fun _=>False,fun i hi=>hi.elim,.inl ⟨rfl,h1.trans hkxG (fun i hi=>.inl hi),hknD.at hkG.le (hkG.old _ z1 (by omega)),hkcD.at hkG.le (hkG.old _ z2 (by omega)),⟨u',yf.keep hkG (by omega)⟩,aG,by rw[hs7,hst]⟩⟩
  cases hgf:goF s x c with
  | none =>
   repeat' first|with_reducible intro _|refine sv ?_|refine ss ?_ ?_<;>(intro h;first|exact sz h|refine sy h ?_)|exact sq|fail
   rename_i n12 ME hnE e18 e19 MF huF e20 aF MG huG e21 aG
   exact hskip (xk) huG aG (by unfold stepG;rw[hgf])
  | some b =>
   have hgb:=za3 hs (z3o hc2) hgf
   have hbe:((some b).getD (0,0)).2=b.2:=rfl
   by_cases heb:e < b.2
   ·repeat' first|with_reducible intro _|refine sv ?_|refine ss ?_ ?_<;>(intro h;first|exact sz h|refine sy h ?_)|exact sq|fail
    all_goals try(exfalso;omega)
    rename_i n12 ME hnE e18 e19 MF huF e20 aF MG huG e21 aG
    exact hskip (xk) huG aG (by unfold stepG;rw[hgf];exact if_pos heb)
   ·repeat' first|with_reducible intro _|refine sv ?_|refine ss ?_ ?_<;>(intro h;first|exact sz h|refine sy h ?_)|exact sq|fail
    all_goals try(exfalso;omega)
    rename_i n12 ME hnE e18 e19 MF huF e20 aF
    have hkF:Keep (fun i=>False) MD MF:=xk
    have hleF:=hkF.le
    have hvF:Vec b0 2 47 shcc MF (.slice ao l.length fo eo) l:=Vec.keep_ne hvD hkF (fun i hi h=>h)
    refine z0w (by exact gd) rfl rfl (show AppOk Tryz.prog _ _ MF _ from zgx hvF hnil (by omega)) ?_
    rintro w MG ⟨hvG,hgG⟩
    have hleG:=hgG.le
    obtain⟨ag,fg,eg,rfl⟩:=Vec.shape hvG
    have w11:At MG n11 (.cells true (shcc c) 47):=(y11.keep hkF (fun h=>h)).grow hgG
    have w12:At MG n12 (.cells true [I b.1,I b.2] 26):=aF.grow hgG
    repeat' first|with_reducible intro _|refine sv ?_|refine ss ?_ ?_<;>(intro h;first|exact sz h|refine sy h ?_)|exact sq|fail
    rename_i n44 MH hnH e22 e23
    have hvH:Vec MF.next 2 47 shcc MH (.slice ag l.length fg eg) l:=Or.imp id (fun⟨i,z1,z2,z3⟩=>⟨i,z1,At.new_old hnH z2,z3⟩) hvG
    have hwH:z08 2 1 (.slice (some (n44,0)) 1 true 2) MH=some ([c].flatMap shcc):=z5t (enc:=shcc) (l:=[c]) (fun _ _=>rfl) (fun k hk=>z3k (enc:=shcc) (l:=[c]) (At.new_same hnH) (fun _ _=>rfl) hk)
    refine z8b (by exact gd) (l':=[c]) hvH rfl rfl rfl (by simp) (by rw[List.length_singleton];omega) rfl hwH (fun _=>rfl) (fun _=>rfl) (by omega) ?_
    intro v45 MI hvI e24 hkI
    have hleI:=hkI.le
    have hkDI:Keep (fun i=>False) MD MI:=((hkF.grow hgG).new hnH).trans hkI (fun i hi=>.inr (by omega))
    have z9:=y9.keep hkDI (fun h=>h)
    have z11:=y11.keep hkDI (fun h=>h)
    have zp:=yp.keep hkDI (fun h=>h)
    have zx:=yx.keep hkDI (fun h=>h)
    have z12:At MI n12 (.cells true [I b.1,I b.2] 26):=(At.new_old hnH w12).keep hkI (fun h=>by have:=w12.2;omega)
    have hkBI:Keep (fun i=>i=pm ∨ i=pk) MB MI:=hkBD.trans hkDI (fun i hi=>hi.elim)
    have haf:=fun M' (hg:Grow MI M')=>zaw (pk:=pk) (c:=c) (t:=b.2) ((hpl.chc hkBI).grow hg) hs hc2
    have hsb:=z1w (k:=c / 2) (by omega)
    repeat' first|with_reducible intro _|refine sv ?_|((with_reducible first|apply zj|apply zi|apply d_pure0);exact gd;exact rfl;exact rfl;(first|exact haf _ (xg)))|refine ss ?_ ?_<;>(intro h;first|exact sz h|refine sy h ?_)|exact sq|fail
    rename_i MJ hgJ hleJ
    have hkDJ:=hkDI.grow hgJ
    have hkBJ:=hkBI.grow hgJ
    have hvJ:Vec MF.next 2 47 shcc MJ v45 (l ++ [c]):=Or.imp id (fun⟨i,z1,z2,z3⟩=>⟨i,z1,z2.grow hgJ,z3⟩) hvI
    have hrl:=zbl hcm.2
    have hmd:=hknD.lt
    have hkd:=hkcD.lt
    have hih:=IH MJ MF.next (l ++ [c]) (rchF s c b.2) (restN left (c / 2)) v45 hrl (by omega) ⟨hkBJ,hknD.at hkDJ.le (hkDJ.old _ hmd (fun h=>h)),hkcD.at hkDJ.le (hkDJ.old _ hkd (fun h=>h)),⟨u',yf.keep hkDJ (fun h=>h)⟩,ye.keep hkDJ (fun h=>h),yp.keep hkDJ (fun h=>h),yx.keep hkDJ (fun h=>h),hvJ,fun h=>by simp at h,by rw[List.length_append,List.length_singleton];omega,ze6 hs (z3o hc2),by show 0<=b.2 /\ b.2<=5000000;omega⟩
    rw[<-zc0 left (c / 2)] at hih
    have q9:=(yl.keep hkDJ (fun h=>h)).2
    have q10:=(y10.keep hkDJ (fun h=>h)).2
    have qd:=(yd.keep hkDJ (fun h=>h)).2
    have hleDJ:=hkDJ.le
    have hstep:stepG s e G l x left c=G (l ++ [c]) (rchF s c b.2) (restN left (c / 2)):=by unfold stepG;rw[hgf];exact if_neg heb
    refine z0w (by exact gd) rfl rfl (show AppOk Tryz.prog (bestV nf ne np nx) _ MJ _ from hih) ?_
    rintro w MK ⟨hkK,hknK,hkcK,u2,hfK,hres⟩
    have hleKK:=hkK.le
    have hlK:=(yl.keep hkDJ (fun h=>h)).keep hkK (by omega)
    have h10K:=(y10.keep hkDJ (fun h=>h)).keep hkK (by omega)
    have hdK:=(yd.keep hkDJ (fun h=>h)).keep hkK (by omega)
    have qm:=hknK.lt
    have qk:=hkcK.lt
    have qf:=hfK.2
    have hkxK:Keep (fun i=>i=pm ∨ i=pk ∨ i=nf ∨ i=ll) Mx MK:=((hkxD.weaken (fun i hi=>by omega)).trans hkDJ (fun i hi=>hi.elim)).trans hkK (fun i hi=>by omega)
    have hlenx:Mx.next<=MF.next:=by omega
    rcases hres with⟨rfl,r,hr,hvK⟩|⟨rfl,hr⟩
    ·repeat' first|with_reducible intro _|refine sv ?_|refine ss ?_ ?_<;>(intro h;first|exact sz h|refine sy h ?_)|exact sq|fail
     rename_i MP huP e25 aP MQ huQ e26 aQ
     have hkP:Keep (fun i=>i=n10 ∨ i=ll) MK MQ:=((Keep.refl _ MK).upd huP (.inl (.inl rfl))).upd huQ (.inl (.inr rfl))
     have hkxQ:Keep KF Mx MQ:=(hkxK.weaken (fun i hi=>by show i=pm ∨ i=pk ∨ i=nf ∨ i=n10 ∨ i=ll;omega)).trans hkP (fun i hi=>.inl (by show i=pm ∨ i=pk ∨ i=nf ∨ i=n10 ∨ i=ll;omega))
     refine⟨hkxQ.weaken (fun i hi=>.inl hi),fun i=>∃ o n f e,u2=.slice (some (i,o)) n f e,fun i hi=>?_,.inr ⟨rfl,(h1.weaken (fun i hi=>by show i=pm ∨ i=pk ∨ i=nf ∨ i=n10 ∨ i=ll;omega)).trans hkxQ (fun i hi=>.inl hi),hknK.at hkP.le (hkP.old _ qm (by omega)),hkcK.at hkP.le (hkP.old _ qk (by omega)),aP.upd_ne huQ (by omega),aQ,u2,r,hfK.keep hkP (by omega),hs8 r (by rw[hstep];exact hr),Or.imp id (fun⟨i,z1,z2,z3⟩=>⟨i,z1,z2.keep hkP (by omega),by omega⟩) hvK,fun i o n f e h=>⟨o,n,f,e,h⟩⟩⟩
     obtain⟨o,n,f,e',h⟩:=hi
     rcases hvK with⟨_,z1⟩|⟨i',z1,z2,z3⟩
     ·rw[z1] at h;cases h
     ·rw[z1] at h;cases h
      have:=z2.2
      exact⟨.inr (.inr (by omega)),by omega⟩
    ·repeat' first|with_reducible intro _|refine sv ?_|refine ss ?_ ?_<;>(intro h;first|exact sz h|refine sy h ?_)|exact sq|fail
     rename_i MQ huQ e26 aQ
     have hkP:Keep (fun i=>i=ll) MK MQ:=(Keep.refl _ MK).upd huQ (.inl rfl)
     have hkxQ:Keep (fun i=>i=pm ∨ i=pk ∨ i=nf ∨ i=ll) Mx MQ:=hkxK.trans hkP (fun i hi=>by omega)
     exact⟨hkxQ.weaken (fun i hi=>.inl (by show i=pm ∨ i=pk ∨ i=nf ∨ i=n10 ∨ i=ll;omega)),fun _=>False,fun i hi=>hi.elim,.inl ⟨rfl,h1.trans hkxQ (fun i hi=>.inl hi),hknK.at hkP.le (hkP.old _ qm (by omega)),hkcK.at hkP.le (hkP.old _ qk (by omega)),⟨u2,hfK.keep hkP (by omega)⟩,aQ,by rw[hs7,hstep];exact hr⟩⟩
 ·rintro i (rfl|rfl|rfl) (hi|hi|hi|hi|hi)
  all_goals first
   | omega
   |(exact absurd hi hpl.ch.ne)
   |(exact absurd hi hpl.nc)
   |(have:=hpl.ch.cells.2;omega)
 ·rintro v M8 ⟨hk8,_,T8,hT8,⟨h1,h2,h3,⟨u',h4⟩,h5,h6⟩|⟨h1,h2,h3,h4,h5,u',r,h6,h7,h8,h9⟩⟩
  ·have hd8:At M8 d .defr:=bd.keep h1 (by omega)
   have c10:At M8 n10 (.cells true [.bool false] 4):=b10.keep h1 (by omega)
   have r1:=h4.2
   have r2:=h2.lt
   have r3:=h3.lt
   have r4:=c10.2
   have r5:=hd8.2
   refine z40 h5 (by simp) fun M9 hu9 e14 a9=>?_
   repeat' first|with_reducible intro _|refine sv ?_|refine ss ?_ ?_<;>(intro h;first|exact sz h|refine sy h ?_)|exact sq|fail
   rename_i M10 hu10 e15 a10
   refine z0m (.inr rfl) (by simp) (fun d' hd'=>by obtain rfl:=List.mem_singleton.1 hd';exact xm) fun M11 hm=>?_
   have hk11:Keep (fun i=>i=ll ∨ i=n10 ∨ i=d) M8 M11:=(((Keep.refl _ M8).upd hu9 (.inl (.inl rfl))).upd hu10 (.inl (.inr (.inl rfl)))).unmark hm (fun d' hd'=>by obtain rfl:=List.mem_singleton.1 hd';exact .inl (.inr (.inr rfl)))
   have d10:At M11 n10 (.cells true [.bool false] 4):=by
    have hku:Keep (fun i=>i=d) M10 M11:=(Keep.refl _ M10).unmark hm (fun d' hd'=>by obtain rfl:=List.mem_singleton.1 hd';exact .inl rfl)
    exact a10.keep hku (by omega)
   have hkM:Keep (fun i=>i=pm ∨ i=pk ∨ i=nf) M M11:=((hg7.to_keep (fun i=>i=pm ∨ i=pk ∨ i=nf)).trans h1 (fun i hi=>(by
    rcases hi with hi|hi|hi|hi
    ·exact .inl (.inl hi)
    ·exact .inl (.inr (.inl hi))
    ·exact .inl (.inr (.inr hi))
    ·exact .inr (by omega)))).trans hk11 (fun i hi=>.inr (by omega))
   exact⟨_,.cell1 rfl (Rd1.of_at d10 rfl).1 .nil,hkM,h2.at hk11.le (hk11.old _ r2 (by omega)),h3.at hk11.le (hk11.old _ r3 (by omega)),u',h4.keep hk11 (by omega),.inr ⟨rfl,h6⟩⟩
  ·have hd8:At M8 d .defr:=bd.keep h1 (by omega)
   have r1:=h6.2
   have r2:=h2.lt
   have r3:=h3.lt
   have r4:=h4.2
   have r5:=hd8.2
   refine z35 h5 (by simp) fun M9 hu9 e14 a9=>?_
   repeat' first|with_reducible intro _|refine sv ?_|refine ss ?_ ?_<;>(intro h;first|exact sz h|refine sy h ?_)|exact sq|fail
   refine z0m (.inr rfl) (by simp) (fun d' hd'=>by obtain rfl:=List.mem_singleton.1 hd';exact xm) fun M11 hm=>?_
   have hk11:Keep (fun i=>i=ll ∨ i=d) M8 M11:=((Keep.refl _ M8).upd hu9 (.inl (.inl rfl))).unmark hm (fun d' hd'=>by obtain rfl:=List.mem_singleton.1 hd';exact .inl (.inr rfl))
   have hkM:Keep (fun i=>i=pm ∨ i=pk ∨ i=nf) M M11:=((hg7.to_keep (fun i=>i=pm ∨ i=pk ∨ i=nf)).trans h1 (fun i hi=>(by
    rcases hi with hi|hi|hi|hi|hi
    ·exact .inl (.inl hi)
    ·exact .inl (.inr (.inl hi))
    ·exact .inl (.inr (.inr hi))
    ·exact .inr (by omega)
    ·exact .inr (by omega)))).trans hk11 (fun i hi=>.inr (by omega))
   have hfin:Vec b0 2 47 shcc M11 u' r:=h8.imp id (fun⟨i,z1,z2,z3⟩=>⟨i,z1,z2.keep hk11 (by omega),by omega⟩)
   exact⟨_,.cell1 rfl (Rd1.of_at (h4.keep hk11 (by omega)) rfl).1 .nil,hkM,h2.at hk11.le (hk11.old _ r2 (by omega)),h3.at hk11.le (hk11.old _ r3 (by omega)),u',h6.keep hk11 (by omega),.inl ⟨rfl,r,h7,hfin⟩⟩
theorem z6u(s:Cr)(e:Int)(f:Nat)(l:List Nat)(x:Rch)(left:Nat)(h:left ≠ 0):nextO s e (f+1) l x left=(shootsL s left).findSome? (stepG s e (nextO s e f) l x left):=by
 show(if left=0 then _ else _)=_
 rw[if_neg h]
 congr 1
theorem zox{MB:Mem}{A:CrA}{s:Cr}{pc pm pk nf ne np nx:Nat}{e:Int}(hpl:PlM MB A s pc pm pk)(hs:CrOk s)(he:-1<=e /\ e<=5000000)(hnf:MB.next<=nf) :
  ∀(f:Nat) (M:Mem) (b0:Nat) (l:List Nat) (x:Rch) (left:Nat) (v:LV),left<=f->left < 2 ^ s.lines.length->b0<=M.next->BsPre MB s pc pm pk nf ne np nx e b0 l x left v M ->
  ze Tryz.prog 43 [v,.agg (rchc x),I left,.ptr (some (nf,0)),.ptr (some (ne,0)),.ptr (some (np,0)),.ptr (some (nx,0))] M (BsPost s pm pk nf b0 (nextO s e f l x left) M):=by
 intro f
 induction f with
 | zero =>
  intro M b0 l x left v hf _ hb h
  obtain rfl:left=0:=by omega
  exact z71 hpl hs he hnf h
 | succ f ih =>
  intro M b0 l x left v hf hl hb h
  by_cases h0:left=0
  ·subst h0
   exact z71 hpl hs he hnf h
  ·rw[z6u s e f l x left h0]
   exact zcf (nextO s e f) hpl hs he hnf (fun M' b' l' x' left' v' hlt hb' h'=>ih M' b' l' x' left' v' (by omega) (by omega) hb' h') hb h0 hl h
noncomputable def allN(s:Cr):Nat:=2 ^ s.lines.length - 1
noncomputable def endS(s:Cr)(e:Int)(c:Nat):Int:=if 0<=TT s (allN s) c /\ (e < 0 ∨ TT s (allN s) c < e) then TT s (allN s) c else e
noncomputable def endB(s:Cr):Int:=(shootsL s (allN s)).foldl (endS s) (-1)
theorem zfv{s:Cr}(hs:CrOk s):∀(l:List Nat) (e:Int),(-1<=e /\ e<=1048576)->(∀ c ∈ l,c < 2*s.lines.length)->-1<=l.foldl (endS s) e /\ l.foldl (endS s) e<=1048576
 | [],e,h,_=>h
 | c :: l,e,h,hl=>by
  rw[List.foldl_cons]
  refine zfv hs l _ ?_ fun d hd=>hl d (List.mem_cons_of_mem _ hd)
  have hb:-1<=TT s (allN s) c /\ TT s (allN s) c<=1048576:=by
   have h1:plN s (allN s) c <(tabF s).length:=by rw[zf5];exact zhy (by unfold allN;have:=Nat.two_pow_pos s.lines.length;omega) (hl c (List.mem_cons_self ..))
   unfold TT
   rw[z00 h1]
   exact(TbOk.rows hs _).2 _ (List.getElem_mem h1)
  unfold endS
  split
  ·exact hb
  ·exact h
set_option maxHeartbeats 16000000 in
theorem zrc{A:CrA}{s:Cr}{M:Mem}(hM:CrM M A s):ze Tryz.prog 8 [crv A s] M (fun v M'=>Grow M M' /\ ((¬ CrOk s /\ v=.tup [.slice none 0 true 0,I 0,I 40]) ∨(CrOk s /\ endB s < 0 /\ v=.tup [.slice none 0 true 0,I 0,I 4]) ∨
  (CrOk s /\ 0<=endB s /\ ∃ u,v=.tup [u,I (endB s),I 0] /\ ∀ r,nextO s (endB s) (allN s) [] (startR s) (allN s)=some r->Vec M.next 2 47 shcc M' u r))):=by
 refine zf k8 rfl ?_
 delta x8;refine un ?_
 have hc:=fun M' (hg:Grow M M')=>zfp (hM.grow hg)
 repeat' first|with_reducible intro _|refine sv ?_|((with_reducible first|apply zz|apply z0w|apply x_call0);exact gd;exact rfl;exact rfl;(first|exact hc _ (xg)))|refine ss ?_ ?_<;>(intro h;first|exact sz h|refine sy h ?_)|exact sq|fail
 rename_i n1 M1 hn1 e1 e2 n3 M2 hn3 e3 e4 w M3 hq
 obtain⟨hg3,⟨hno,pk,rfl⟩|⟨hok,pc,pm,pk,rfl,hpl,h1,h2,h3⟩⟩:=hq
 ·have hle3:=hg3.le
  repeat' first|with_reducible intro _|refine sv ?_|refine ss ?_ ?_<;>(intro h;first|exact sz h|refine sy h ?_)|exact sq|fail
  refine kf ?_
  exact⟨xg,.inl ⟨hno,rfl⟩⟩
 ·have hle3:=hg3.le
  have hpm:=hpl.ch.known.lt
  have hpk:=hpl.kc.lt
  have hcell:=hpl.ch.cells
  have hpc:=hcell.2
  have hn5:=hok.n5
  have hn1':=hok.n1
  have hp2:2 ^ s.lines.length<=32:=Nat.pow_le_pow_right (n:=2) (by omega) hn5
  have hsb:=z1w (k:=s.lines.length) (by omega)
  have hall:shlZ 1 (s.lines.length:Int) - 1=((allN s:Nat):Int):=by rw[z5c];unfold allN;have:=Nat.two_pow_pos s.lines.length;omega
  repeat' first|with_reducible intro _|refine sv ?_|refine ss ?_ ?_<;>(intro h;first|exact sz h|refine sy h ?_)|exact sq|fail
  rename_i n5 M4 hn5' e5 e6 M5 hu5 e7 a5 n6 M6 hn6 e8 e9 M7 hu7 e10 a7
  have hg7:Grow M3 M7:=xg
  have b5:At M7 n5 (.cells true [.ptr (some (pc,0)),.map (some pk)] 130):=xm
  have b3:At M7 n3 (.cells true [I 0] 3):=xm
  have b6:At M7 n6 (.cells true [I (allN s:Nat)] 3):=by rw[<-hall];exact a7
  have hle7:=hg7.le
  have hn3M:n3 < M3.next:=by omega
  refine zz (by exact gd) rfl rfl (show AppOk Tryz.prog _ _ M7 _ from zp9 (hpl.grow hg7) hok) ?_
  rintro w M8 ⟨hk8,hkn8,hkc8,iT,rfl,hiT,aT⟩
  have hle8:=hk8.le
  have c5:=b5.keep hk8 (by omega)
  have c3:=b3.keep hk8 (by omega)
  have c6:=b6.keep hk8 (by omega)
  have q1:=aT.2
  have q2:=hkn8.lt
  have q3:=hkc8.lt
  repeat' first|with_reducible intro _|refine sv ?_|refine ss ?_ ?_<;>(intro h;first|exact sz h|refine sy h ?_)|exact sq|fail
  rename_i n7 M9 hn9 e11 e12 M10 hu10 e13 a10 M11 hu11 e14 a11
  have hk811:Keep (fun i=>i=n3) M8 M11:=xk
  refine zz (by exact gd) rfl rfl (show AppOk Tryz.prog _ _ M11 _ from z7l (pc:=pc) (pk:=pk) (set:=((allN s:Nat):Int)) M11) ?_
  rintro w M12 ⟨np2,nsq,rfl,hg12,hp12,hs12,a12,b12⟩
  have hle12:=hg12.le
  have q4:=a12.2
  have q5:=b12.2
  repeat' first|with_reducible intro _|refine sv ?_|refine ss ?_ ?_<;>(intro h;first|exact sz h|refine sy h ?_)|exact sq|fail
  apply z4w
  exact rfl
  intro lb d l M13 M14 hlb hd e15 e16 hl e17 e18
  have hg14:Grow M11 M14:=(hg12.trans hd.grow).trans hl.grow
  have hg1214:Grow M12 M14:=hd.grow.trans hl.grow
  have hle14:=hg14.le
  have hle811:=hk811.le
  have hk814:Keep (fun i=>i=n3) M8 M14:=hk811.grow hg14
  have d5:=c5.keep hk814 (by omega)
  have d6:=c6.keep hk814 (by omega)
  have dT:=aT.keep hk814 (by omega)
  have d3:At M14 n3 (.cells true [I (-1)] 3):=a11.grow hg14
  have d7:At M14 n7 (.cells true [.slice (some (iT,0)) (tabF s).length true 1] 63):=At.grow hg14 (xm)
  have hkn14:=hkn8.at hk814.le (hk814.old _ q2 (by omega))
  have hkc14:=hkc8.at hk814.le (hk814.old _ q3 (by omega))
  have bd:At M14 d .defr:=At.new_old hl (At.new_same hd)
  have hk314:Keep (fun i=>i=pm ∨ i=pk ∨ i=n3) M3 M14:=(((hg7.to_keep (fun i=>i=pm ∨ i=pk ∨ i=n3)).trans hk8 (fun i hi=>by omega))).trans hk814 (fun i hi=>by omega)
  have z1:=hpl.ch.ne
  have z2:=hpl.nc
  have z3:=hpl.nm
  have hg03:Grow M M3:=xg
  have hle03:=hg03.le
  have hg014:Grow M M14:=Keep.to_grow' hg03 hk314 (fun i hi=>by omega)
  have hC14:At M14 pc (.cells true (chc A s pm) 135):=hcell.keep hk314 (by omega)
  have q6:=hC14.2
  have hy:=z7s (A:=A) (s:=s) (pc:=pc) (pm:=pm) (pk:=pk) (np:=np2) (ns:=nsq) (set:=allN s) (M0:=M14) hC14 (a12.grow hg1214) (b12.grow hg1214) hn5 (by unfold allN;omega)
  have htl:(tabF s).length=2*s.lines.length*2 ^ s.lines.length:=zf5 s
  have hTb:TbOk s (tabF s):=TbOk.rows hok _
  have hN:2*s.lines.length*2 ^ s.lines.length<=10*32:=Nat.mul_le_mul (by omega) hp2
  refine(hy l (fun i=>i=n3 ∨ i=l) (fun dn T M'=>Keep (fun i=>i=n3 ∨ i=l) M14 M' /\ At M' n3 (.cells true [I (dn.foldl (endS s) (-1))] 3) /\ At M' l (lb .ready none)) (fun _ _=>False) ⟨?_,?_,fun T M M' h=>h.elim,?_⟩ ?_ ⟨Keep.refl _ _,d3,At.new_same hl⟩).mono ?_
  ·rintro i (rfl|rfl)<;>omega
  ·rintro dn T Mx My ⟨h1,h2,h3⟩ hle hg
   have hgo:∀ i,i < M14.next->My.get i=Mx.get i:=fun i hi=>hg i (.inl ⟨hi,id⟩)
   exact⟨⟨Nat.le_trans h1.le hle,fun i hi hf=>by rw[hgo i (by omega)];exact h1.old i hi hf⟩,h2.same hle (hgo _ (by omega)),h3.same hle (hgo _ (by omega))⟩
  ·rintro dn c rest vv U T Mx hits ⟨rfl,hU⟩ hN0 hT hUd ⟨k1,k2,k3⟩
   have hcm:=z0p.1 (show c ∈ shootsL s (allN s) by rw[hits];simp)
   have hc2:c < 2*s.lines.length:=hcm.1
   have hidx:plN s (allN s) c <(tabF s).length:=by rw[htl];exact zhy (by unfold allN;have:=Nat.two_pow_pos s.lines.length;omega) hc2
   have aTx:=dT.keep k1 (by omega)
   have rT:Rd1 Mx iT (0+plN s (allN s) c*1) (I (tabF s)[plN s (allN s) c]):=(z3k (enc:=intz) aTx (fun _ _=>rfl) hidx).nth (j:=0) rfl
   have hTT:TT s (allN s) c=(tabF s)[plN s (allN s) c]:=z00 hidx
   have hub:=hTb.2 _ (List.getElem_mem hidx)
   have hfold:(dn ++ [c]).foldl (endS s) (-1)=endS s (dn.foldl (endS s) (-1)) c:=by rw[List.foldl_append];rfl
   have heb:=zfv hok dn (-1) (by omega) (fun y hy=>(z0p.1 (show y ∈ shootsL s (allN s) by rw[hits];simp[hy])).1)
   have hle1:=k1.le
   have f5:=d5.keep k1 (by omega)
   have f6:=d6.keep k1 (by omega)
   have f7:=d7.keep k1 (by omega)
   have hgx:Grow M Mx:=Keep.to_grow' hg014 k1 (fun i hi=>by omega)
   have hCx:ChC Mx A s pc pm:=⟨hM.grow hgx,hC14.keep k1 (by omega)⟩
   have p1:=hCx.cells.2
   have hplc:=fun M' (hk':Keep (fun i=>i=l) Mx M')=>zay (pk:=pk) (set:=allN s) (c:=c) (ChC.mk (A:=A) (hM.grow (Keep.to_grow' hgx hk' (fun i hi=>by omega))) (hCx.cells.keep hk' (by omega))) hn5 (by unfold allN;omega) (by omega)
   have hend:endS s (dn.foldl (endS s) (-1)) c=if 0<=(tabF s)[plN s (allN s) c] /\ (dn.foldl (endS s) (-1) < 0 ∨(tabF s)[plN s (allN s) c] < dn.foldl (endS s) (-1)) then(tabF s)[plN s (allN s) c] else dn.foldl (endS s) (-1):=by unfold endS;rw[hTT]
   generalize dn.foldl (endS s) (-1)=en at *
   generalize (tabF s)[plN s (allN s) c]=tv at *
   refine z1s hlb k3 rfl ?_
   dsimp only[zipP]
   (have hrd0:=rT;repeat' (first|(with_reducible intro _)|refine sv ?_|((with_reducible first|apply zj|apply zi|apply d_pure0);exact gd;exact rfl;exact rfl;(first|exact hplc _ (xk)))|refine ss ?_ ?_<;>(intro h;first|exact sz h|refine sy h ?_)|exact sq|fail))
   all_goals first
    |(rename_i MZ huZ e30 aZ MY huY e31 aY
      have hkY:Keep (fun i=>i=n3 ∨ i=l) Mx MY:=xk
      refine⟨hkY.weaken (fun i hi=>.inl hi),fun _=>False,fun i hi=>hi.elim,.inl ⟨rfl,k1.trans hkY (fun i hi=>.inl hi),?_,aY⟩⟩
      rw[hfold,hend,if_pos (by omega)]
      exact aZ.upd_ne huY (by omega))
    |(rename_i MY huY e31 aY
      have hkY:Keep (fun i=>i=l) Mx MY:=xk
      refine⟨hkY.weaken (fun i hi=>.inl (.inr hi)),fun _=>False,fun i hi=>hi.elim,.inl ⟨rfl,k1.trans hkY (fun i hi=>.inl (.inr hi)),?_,aY⟩⟩
      rw[hfold,hend,if_neg (by omega)]
      exact k2.keep hkY (by omega))
  ·rintro i (rfl|rfl|rfl) (hi|hi)
   all_goals omega
  ·rintro v M15 ⟨hk15,_,T15,hT15,⟨k1,k2,k3⟩|h⟩
   rotate_left
   ·exact h.elim
   have heb:-1<=endB s /\ endB s<=1048576:=zfv hok _ (-1) (by omega) (fun y hy=>(z0p.1 hy).1)
   have k2:At M15 n3 (.cells true [I (endB s)] 3):=k2
   have hle15:=k1.le
   refine z40 k3 (by simp) fun M16 hu16 e19 a16=>?_
   have hk16:Keep (fun i=>i=n3 ∨ i=l) M14 M16:=k1.upd hu16 (.inl (.inr rfl))
   have hle16:=hk16.le
   have f3:=k2.upd_ne hu16 (show n3 ≠ l by omega)
   have f5:=d5.keep hk16 (by omega)
   have f6:=d6.keep hk16 (by omega)
   have fd:=bd.keep hk16 (by omega)
   have r3:=f3.2
   have r5:=f5.2
   have r6:=f6.2
   have rd:=fd.2
   have hg016:Grow M M16:=Keep.to_grow' hg014 hk16 (fun i hi=>by omega)
   have hC16:At M16 pc (.cells true (chc A s pm) 135):=hC14.keep hk16 (by omega)
   have q7:=hC16.2
   have q8:=hkn14.lt
   have q9:=hkc14.lt
   have hkn16:=hkn14.at hk16.le (hk16.old _ q8 (by omega))
   have hkc16:=hkc14.at hk16.le (hk16.old _ q9 (by omega))
   have hP16:PlM M16 A s pc pm pk:=⟨⟨hM.grow hg016,hC16,z1,hkn16⟩,hkc16,z2,z3⟩
   have hst:=fun M' (hg:Grow M16 M')=>zb0 (pk:=pk) (ChC.mk (hM.grow (hg016.trans hg)) (hC16.grow hg))
   by_cases hneg:endB s < 0
   ·repeat' first|with_reducible intro _|refine sv ?_|refine ss ?_ ?_<;>(intro h;first|exact sz h|refine sy h ?_)|exact sq|fail
    rename_i M17 hu17 e20 a17
    refine z0m (.inr rfl) (by simp) (fun d' hd'=>by obtain rfl:=List.mem_singleton.1 hd';exact xm) fun M18 hm=>?_
    have hk17:Keep (fun i=>i=n3) M16 M17:=(Keep.refl _ _).upd hu17 (.inl rfl)
    have hk18:Keep (fun i=>i=d) M17 M18:=(Keep.refl _ M17).unmark hm (fun d' hd'=>by obtain rfl:=List.mem_singleton.1 hd';exact .inl rfl)
    have f18:=a17.keep hk18 (by omega)
    exact⟨_,.tmp rfl (.cell1 rfl (Rd1.of_at f18 rfl).1 (.tmp rfl .nil)),Keep.to_grow' (Keep.to_grow' hg016 hk17 (fun i hi=>by omega)) hk18 (fun i hi=>by omega),.inr (.inl ⟨hok,hneg,rfl⟩)⟩
   ·repeat' first|with_reducible intro _|refine sv ?_|((with_reducible first|apply zj|apply zi|apply d_pure0);exact gd;exact rfl;exact rfl;(first|exact hst _ (xg)))|refine ss ?_ ?_<;>(intro h;first|exact sz h|refine sy h ?_)|exact sq|fail
    rename_i n10 M17 hn10 e20 e21 n11 M18 hn11 e22 e23 M19 hu19 e24 a19 M20 hg20 e25
    have hg1620:Grow M16 M20:=xg
    have hle20:=hg1620.le
    have g3:=f3.grow hg1620
    have g5:=f5.grow hg1620
    have g6:=f6.grow hg1620
    have gd':=fd.grow hg1620
    have g10:At M20 n10 (.cells true [.slice none 0 true 0] 36):=At.grow hg20 (xm)
    have g11:At M20 n11 (.cells true [bestV n10 n3 n5 n11] 139):=At.grow hg20 (xm)
    have r10:=g10.2
    have r11:=g11.2
    have w1:=hkn16.lt
    have w2:=hkc16.lt
    have hsz:allN s < 2 ^ s.lines.length:=by unfold allN;have:=Nat.two_pow_pos s.lines.length;omega
    have hb:=zox hP16 hok (e:=endB s) (nf:=n10) (ne:=n3) (np:=n5) (nx:=n11) (by omega) (by omega) (allN s) M20 M20.next [] (startR s) (allN s) (.slice none 0 true 0) (Nat.le_refl _) hsz (Nat.le_refl _) ⟨hg1620.to_keep _,hkn16.at hg1620.le (hg1620.old _ w1),hkc16.at hg1620.le (hg1620.old _ w2),⟨_,g10⟩,g3,g5,g11,.inl ⟨rfl,rfl⟩,(fun _ i h=>by cases h),by show 0+allN s<=100;omega,hok.start,⟨Int.le_refl 0,show(0:Int)<=5000000 by decide⟩⟩
    refine z0w (by exact gd) rfl rfl (show AppOk Tryz.prog (bestV n10 n3 n5 n11) _ M20 _ from hb) ?_
    rintro w M21 ⟨hk21,hkn21,hkc21,u,hf21,hres⟩
    have hle21:=hk21.le
    have y3:=g3.keep hk21 (by omega)
    have y6:=g6.keep hk21 (by omega)
    have yd:=gd'.keep hk21 (by omega)
    have r21:=hf21.2
    repeat' first|with_reducible intro _|refine sv ?_|refine ss ?_ ?_<;>(intro h;first|exact sz h|refine sy h ?_)|exact sq|fail
    rename_i M22 hu22 e26 a22
    refine z0m (.inr rfl) (by simp) (fun d' hd'=>by obtain rfl:=List.mem_singleton.1 hd';exact xm) fun M23 hm=>?_
    have hk22:Keep (fun i=>i=n3) M21 M22:=(Keep.refl _ _).upd hu22 (.inl rfl)
    have hk23:Keep (fun i=>i=d) M22 M23:=(Keep.refl _ M22).unmark hm (fun d' hd'=>by obtain rfl:=List.mem_singleton.1 hd';exact .inl rfl)
    have f23:=a22.keep hk23 (by omega)
    have hgE:Grow M M23:=Keep.to_grow' (Keep.to_grow' (Keep.to_grow' (hg016.trans hg1620) hk21 (fun i hi=>by omega)) hk22 (fun i hi=>by omega)) hk23 (fun i hi=>by omega)
    refine⟨_,.tmp rfl (.cell1 rfl (Rd1.of_at f23 rfl).1 (.tmp rfl .nil)),hgE,.inr (.inr ⟨hok,by omega,u,rfl,fun r hr=>?_⟩)⟩
    rcases hres with⟨_,r',hr',hv⟩|⟨_,hno⟩
    ·rw[hr] at hr'
     cases hr'
     exact Or.imp id (fun⟨i,y1,y2,y3⟩=>⟨i,y1,(y2.keep hk22 (by omega)).keep hk23 (by omega),by omega⟩) hv
    ·rw[hr] at hno;cases hno
end Go.Proofs.YtpgalhbplcanhaaGreatDoor.C
end
section
open PvL
set_option linter.unusedSimpArgs false
set_option linter.unusedVariables false
namespace Go.Proofs.YtpgalhbplcanhaaGreatDoor.C
def CovN(s:Cr):Nat->List Nat->Prop
 | set,[]=>set=0
 | set,c :: l=>c < 2*s.lines.length /\ set.testBit (c / 2)=true /\ CovN s (restN set (c / 2)) l
noncomputable def runE(s:Cr):Rch->List Nat->Option Rch
 | x,[]=>some x
 | x,c :: l=>match goF s x c with|none=>none|some b=>runE s (rchF s c b.2) l
theorem zf0(s:Cr):∀(l:List Nat) (x:Rch) (c:Nat),runE s x (l ++ [c])=match runE s x l with|none=>none|some y=>(goF s y c).map fun b=>rchF s c b.2
 | [],x,c=>by
  show(match goF s x c with|none=>none|some b=>some (rchF s c b.2))=_
  show _=(goF s x c).map fun b=>rchF s c b.2
  cases goF s x c<;>rfl
 | a :: l,x,c=>by
  show(match goF s x a with|none=>none|some b=>runE s (rchF s a b.2) (l ++ [c]))=match (match goF s x a with|none=>none|some b=>runE s (rchF s a b.2) l) with|none=>none|some y=>(goF s y c).map fun b=>rchF s c b.2
  cases goF s x a with
  | none=>rfl
  | some b=>exact zf0 s l _ c
theorem z98(s:Cr):∀(l:List Nat) (x:Rch),(timesG s x l=none ↔ runE s x l=none) /\ ∀ bs,timesG s x l=some bs->bs.length=l.length /\ ∃ y,runE s x l=some y /\ y.2=(bs.getLast?.map (·.2)).getD x.2
 | [],x=>⟨⟨fun h=>(by cases h),fun h=>(by cases h)⟩,fun bs h=>by cases h;exact⟨rfl,x,rfl,rfl⟩⟩
 | c :: l,x=>by
  have e1:timesG s x (c :: l)=match goF s x c with|none=>none|some b=>(timesG s (rchF s c b.2) l).map (b :: ·):=rfl
  have e2:runE s x (c :: l)=match goF s x c with|none=>none|some b=>runE s (rchF s c b.2) l:=rfl
  rw[e1,e2]
  cases goF s x c with
  | none=>exact⟨⟨fun _=>rfl,fun _=>rfl⟩,fun bs h=>by cases h⟩
  | some b =>
   obtain⟨h1,h2⟩:=z98 s l (rchF s c b.2)
   dsimp only
   refine⟨⟨fun h=>h1.1 (by cases ht:timesG s (rchF s c b.2) l with|none=>rfl|some r=>rw[ht] at h;cases h),fun h=>by rw[h1.2 h];rfl⟩,fun bs h=>?_⟩
   cases ht:timesG s (rchF s c b.2) l with
   | none=>rw[ht] at h;cases h
   | some r =>
    rw[ht] at h
    cases h
    obtain⟨g1,y,g2,g3⟩:=h2 r ht
    refine⟨by rw[List.length_cons,List.length_cons,g1],y,g2,?_⟩
    rw[g3]
    cases r with
    | nil=>rfl
    | cons a r=>rw[List.getLast?_cons_cons];rw[List.getLast?_cons];rfl
theorem zdd{a j k:Nat}(ha:a < 1048576)(hj:j < 20)(hk:k < 20):restN (restN a j) k=restN (restN a k) j:=by
 have h1:restN a j<=a:=by unfold restN;omega
 have h2:restN a k<=a:=by unfold restN;omega
 refine Nat.eq_of_testBit_eq fun i=>?_
 rw[z2g (by omega) hk,z2g ha hj,z2g (by omega) hj,z2g ha hk,Bool.and_assoc,Bool.and_assoc,Bool.and_comm (!decide (j=i))]
theorem zkj{a k:Nat}:restN a k<=a:=by unfold restN;omega
theorem zj3{s:Cr}(hn:s.lines.length<=5):∀(l:List Nat) (set c:Nat),set < 1048576->(CovN s set (l ++ [c]) ↔ c < 2*s.lines.length /\ set.testBit (c / 2)=true /\ CovN s (restN set (c / 2)) l)
 | [],set,c,_=>Iff.rfl
 | a :: l,set,c,hs=>by
  have e1:CovN s set (a :: l ++ [c]) ↔ a < 2*s.lines.length /\ set.testBit (a / 2)=true /\ CovN s (restN set (a / 2)) (l ++ [c]):=Iff.rfl
  have e2:CovN s (restN set (c / 2)) (a :: l) ↔ a < 2*s.lines.length /\ (restN set (c / 2)).testBit (a / 2)=true /\ CovN s (restN (restN set (c / 2)) (a / 2)) l:=Iff.rfl
  have h1:=zkj (a:=set) (k:=a / 2)
  rw[e1,e2,zj3 hn l _ c (by omega)]
  constructor
  ·rintro⟨g1,g2,g3,g4,g5⟩
   rw[z2g hs (by omega),Bool.and_eq_true] at g4
   refine⟨g3,g4.1,g1,?_,?_⟩
   ·rw[z2g hs (by omega),g2,Bool.true_and]
    have:=g4.2
    simp at this ⊢
    omega
   ·rw[zdd hs (by omega) (by omega)];exact g5
  ·rintro⟨g1,g2,g3,g4,g5⟩
   rw[z2g hs (by omega),Bool.and_eq_true] at g4
   refine⟨g3,g4.1,g1,?_,?_⟩
   ·rw[z2g hs (by omega),g2,Bool.true_and]
    have:=g4.2
    simp at this ⊢
    omega
   ·rw[zdd hs (by omega) (by omega)];exact g5
theorem zh9{s:Cr}(hs:CrOk s){t:List Int}{set c:Nat}(hc:c < 2*s.lines.length){e:Int}(he:e ∈ earL s t set c):0<=e:=by
 unfold earL at he
 obtain⟨x,hx,h⟩:=List.mem_filterMap.1 he
 obtain⟨b,hb,rfl⟩:=Option.map_eq_some_iff.1 h
 have:=za3 hs (c:=c) (by omega) hb
 omega
theorem zfc{s:Cr}(hs:CrOk s){set c:Nat}(h1:set < 2 ^ s.lines.length)(h2:c < 2*s.lines.length) :
  (TT s set c=-1 /\ (set.testBit (c / 2)=false ∨ earL s (tabF s) set c=[])) ∨(0<=TT s set c /\ set.testBit (c / 2)=true /\ TT s set c ∈ earL s (tabF s) set c /\ ∀ e ∈ earL s (tabF s) set c,TT s set c<=e):=by
 rw[zub h1 h2]
 cases hb:set.testBit (c / 2) with
 | false=>exact .inl ⟨rfl,.inl rfl⟩
 | true =>
  rw[if_pos rfl]
  cases hm:minL (earL s (tabF s) set c) with
  | none=>exact .inl ⟨rfl,.inr (zjy.1 hm)⟩
  | some e =>
   obtain⟨g1,g2⟩:=zd7 hm
   exact .inr ⟨zh9 hs h2 g1,rfl,g1,g2⟩
theorem zpr{s:Cr}{t:List Int}{set c:Nat}{e:Int}:e ∈ earL s t set c ↔ ∃ x b,x ∈ befL s t set c /\ goF s x c=some b /\ e=b.2:=by
 unfold earL
 rw[List.mem_filterMap]
 constructor
 ·rintro⟨x,h1,h2⟩
  obtain⟨b,h3,rfl⟩:=Option.map_eq_some_iff.1 h2
  exact⟨x,b,h1,h3,rfl⟩
 ·rintro⟨x,b,h1,h2,rfl⟩
  exact⟨x,h1,by rw[h2];rfl⟩
theorem zpq{s:Cr}{t:List Int}{set c:Nat}{x:Rch}:x ∈ befL s t set c ↔(restN set (c / 2)=0 /\ x=startR s) ∨(restN set (c / 2) ≠ 0 /\ ∃ y,y < 2*s.lines.length /\ t.getD (plN s (restN set (c / 2)) y) 0 ≠ -1 /\ x=rchF s y (t.getD (plN s (restN set (c / 2)) y) 0)):=by
 unfold befL
 split
 ·rename_i h
  rw[List.mem_singleton]
  exact⟨fun e=>.inl ⟨h,e⟩,fun e=>e.elim (fun e=>e.2) (fun e=>absurd h e.1)⟩
 ·rename_i h
  rw[List.mem_filterMap]
  constructor
  ·rintro⟨y,h1,h2⟩
   split at h2
   ·cases h2
    exact .inr ⟨h,y,List.mem_range.1 h1,by assumption,rfl⟩
   ·cases h2
  ·rintro(e|⟨_,y,h1,h2,rfl⟩)
   ·exact absurd e.1 h
   ·exact⟨y,List.mem_range.2 h1,if_pos h2⟩
theorem zr3{s:Cr}(hs:CrOk s):∀(n set c:Nat),set<=n->set < 2 ^ s.lines.length->c < 2*s.lines.length->TT s set c ≠ -1->∃ l,CovN s set (l ++ [c]) /\ runE s (startR s) (l ++ [c])=some (rchF s c (TT s set c)):=by
 intro n
 induction n with
 | zero =>
  intro set c h0 hset hc hT
  obtain rfl:set=0:=by omega
  rcases zfc hs hset hc with⟨k1,_⟩|⟨_,k2,_⟩
  ·exact absurd k1 hT
  ·rw[Nat.zero_testBit] at k2;cases k2
 | succ n ih =>
  intro set c h0 hset hc hT
  have hn5:=hs.n5
  have hp2:2 ^ s.lines.length<=32:=Nat.pow_le_pow_right (n:=2) (by omega) hn5
  rcases zfc hs hset hc with⟨k1,_⟩|⟨k1,k2,k3,_⟩
  ·exact absurd k1 hT
  ·have hrl:=zbl k2
   obtain⟨x,b,hx,hb,he⟩:=zpr.1 k3
   rcases zpq.1 hx with⟨hr0,rfl⟩|⟨hr0,y,hy,hyT,rfl⟩
   ·refine⟨[],⟨hc,k2,hr0⟩,?_⟩
    rw[zf0,he]
    show(goF s (startR s) c).map _=_
    rw[hb];rfl
   ·obtain⟨l,g1,g2⟩:=ih (restN set (c / 2)) y (by omega) (by omega) hy hyT
    refine⟨l ++ [y],(zj3 hn5 _ set c (by omega)).2 ⟨hc,k2,g1⟩,?_⟩
    rw[zf0,g2,he]
    show(goF s (rchF s y (TT s (restN set (c / 2)) y)) c).map _=_
    have hb:goF s (rchF s y (TT s (restN set (c / 2)) y)) c=some b:=hb
    rw[hb];rfl
