/-
 Part of the proof of TapeWhole. No condition beyond those in each theorem.
-/
import Derived.Test.YtbfnnllgdioccaaGreatDoorSB
import Derived.Test.YtbfnnllgdioccaaGreatDoorSC
import Derived.Test.YtbfnnllgdioccaaGreatDoorSA
import Derived.Test.YtbfnnllgdioccaaGreatDoorTW
import Derived.Test.YtbfnnllgdioccaaGreatDoorTX
section
open Go PvL Go.Proofs
set_option linter.unusedSimpArgs false
set_option linter.unusedVariables false
variable {μ:Md}
namespace Go.Proofs.YtbfnnllgdioccaaGreatDoor.C
theorem zha{bs:List Nat}{i:Nat}(h:i < bs.length):bs[i]?=some (bs.getD i 0):=by
 rw[List.getD_eq_getElem?_getD,List.getElem?_eq_getElem h];rfl
theorem zcb{bs:List Nat}(hn:bs.Nodup){i j:Nat}(hi:i < bs.length)(hj:j < bs.length)(he:bs[i]=bs[j]):i=j:=by
 unfold List.Nodup at hn
 rw[List.pairwise_iff_getElem] at hn
 rcases Nat.lt_trichotomy i j with h|h|h
 ·exact absurd he (hn i j hi hj h)
 ·exact h
 ·exact absurd he.symm (hn j i hj hi h)
set_option maxHeartbeats 4000000 in
theorem zou{M:Mem}{pb r clk l:Nat}{ty:TypeId}{L:Mk}{bs:List Nat}(hpb:At M pb (.cells true [.map (some r)] ty))(hm:At M r (.map (encK L) bs clk))(hok:StOk bs clk L.length)(A:Nat->Prop)(Iv:List Nat->Mem->Prop)
  (hA:∀ i,A i->i ≠ r /\ i ≠ M.next)
  (stab:∀ is M1 M2,Iv is M1->M1.next<=M2.next->(∀ i,i < M1.next->i ≠ M.next->M2.get i=M1.get i)->Iv is M2)
  (step:∀ is i k v M1,is.Nodup->(∀ j ∈ is,j < L.length)->i ∉ is->L[i]?=some (k,v)->M.next < M1.next->Iv is M1->RoundOk Tryz.prog l [kyv k] M1 (fun w M2=>w=.bool true /\ Iv (is ++ [i]) M2 /\ Keep A M1 M2))
  (h0:Iv [] M) :
  CallN Tryz.prog 144 [.func (.yield l) [] [],.ptr (some (pb,0))] M (fun w M'=>∃ is,is.Nodup /\ (∀ i,i < L.length ↔ i ∈ is) /\ Iv is M' /\ M.next<=M'.next):=by
 refine z3b k144 rfl ?_
 dsimp only[x144,zM,zO,zI,zF,zS,zB,zL,zE,zN,zW,zC,zipE,Nat.reduceAdd]
 repeat' first|with_reducible intro _|refine sv ?_|refine sc ?_ ?_<;>(intro h;try exact sz h)|refine sg ?_ ?_<;>(intro h;first|exact sz h|refine sy h ?_)|exact sq|fail
 refine z5z (by exact gd) (zqh rfl hm) ?_
 have hN:New M M.next (.iter (some r) clk [] clk) (M.push (.iter (some r) clk [] clk)):=⟨rfl,rfl⟩
 generalize M.push (.iter (some r) clk [] clk)=M1 at *
 have hit:=At.new_same hN
 have hm1:=At.new_old hN hm
 have hi1:=stab [] M M1 h0 (by rw[hN.next];omega) (fun i hi _=>hN.grow.old i hi)
 have hnx:=hN.next
 have hrl:=hm.2
 generalize hit0:M.next=it at *
 repeat' first|with_reducible intro _|refine sv ?_|refine sc ?_ ?_<;>(intro h;try exact sz h)|refine sg ?_ ?_<;>(intro h;first|exact sz h|refine sy h ?_)|exact sq|fail
 refine z9 (fun z E ms M'=>∃(is:List Nat) (last:Nat),z=L.length - is.length /\ is.Nodup /\ (∀ j ∈ is,j < L.length) /\ (is=[] ∨ last=clk) /\ ms=[] /\ Has E [(0,.func (.yield l) [] []),(5,.ptr (some (it,0)))] /\ At M' it (.iter (some r) clk (is.map fun i=>bs.getD i 0) last) /\ At M' r (.map (encK L) bs clk) /\ Iv is M' /\ it < M'.next)
  ?_ (L.length - 0) _ _ _ ⟨[],clk,rfl,List.nodup_nil,fun _ h=>(nomatch h),.inl rfl,rfl,.cons rfl (.cons rfl .nil),hit,hm1,hi1,by omega⟩
 clear hN hit hm1 hi1 hnx h0 hm hpb
 rintro z E ms M2 ⟨is,last,rfl,hnd,hlt,hla,rfl,hE,hit,hm,hI,hnx⟩
 refine z0d hE ?_
 have hes:bs.length=(encK L).length:=by rw[hok.len];simp[encK]
 have hall:allLt clk bs=true:=zdw hok.lt
 by_cases hl:leftL (is.map fun i=>bs.getD i 0) bs (encK L)=[]
 ·have hst:(is.map fun i=>bs.getD i 0)=[] ∨ encK L=[] ∨ anyLt last bs=true:=by
   rcases hla with rfl|rfl
   ·exact .inl rfl
   ·cases bs with
    | nil=>exact .inr (.inl (List.length_eq_zero_iff.1 (by rw[<-hes];rfl)))
    | cons b bs=>exact .inr (.inr (za4 (x:=b) (by simp) (hok.lt b (by simp))))
  apply z6i
  apply zkx
  refine z5z (by exact gd) (zo4 rfl hit hm hes hall hst hl) ?_
  repeat' first|with_reducible intro _|refine sv ?_|refine sc ?_ ?_<;>(intro h;try exact sz h)|refine sg ?_ ?_<;>(intro h;first|exact sz h|refine sy h ?_)|exact sq|fail
  refine kf ?_
  refine⟨is,hnd,fun i=>⟨fun hi=>?_,fun hi=>hlt i hi⟩,hI,by omega⟩
  have hib:i < bs.length:=by rw[hok.len];exact hi
  have hmem:=zeh hl hes (bs[i]) (List.getElem_mem hib)
  obtain⟨j,hj,hj2⟩:=List.mem_map.1 hmem
  have hjb:j < bs.length:=by rw[hok.len];exact hlt j hj
  have h1:bs[j]=bs[i]:=by
   have h2:=zha hjb
   rw[List.getElem?_eq_getElem hjb] at h2
   exact(Option.some.inj h2).trans hj2
  have h3:j=i:=zcb hok.nodup hjb hib h1
  rw[<-h3];exact hj
 have hst:(is.map fun i=>bs.getD i 0)=[] ∨ encK L=[] ∨ anyLt last bs=true:=by
  rcases hla with rfl|rfl
  ·exact .inl rfl
  ·cases bs with
   | nil=>exact .inr (.inl (List.length_eq_zero_iff.1 (by rw[<-hes];rfl)))
   | cons b bs=>exact .inr (.inr (za4 (x:=b) (by simp) (hok.lt b (by simp))))
 apply z6i
 apply zkx
 refine zo0 (by exact gd) rfl hit hm hall hst hl ?_
 intro b kk v hmem M3 hU3 e3 hit3
 obtain⟨i,hi1,hi2,hi3⟩:=zao hmem
 have hib:i < bs.length:=(List.getElem?_eq_some_iff.1 hi1).1
 have hbi:bs.getD i 0=b:=by
  have h2:=zha hib
  rw[hi1] at h2
  exact(Option.some.inj h2).symm
 have hil:i < L.length:=by rw[<-hok.len];exact hib
 have hni:i ∉ is:=fun hh=>hi3 (List.mem_map.2 ⟨i,hh,hbi⟩)
 have hrit:r ≠ it:=by omega
 have hm3:=At.upd_ne hU3 hrit hm
 obtain⟨⟨k,v'⟩,hL⟩:∃ p,L[i]?=some p:=⟨L[i],List.getElem?_eq_getElem hil⟩
 have hkk:kk=kyv k /\ v=v':=by
  have h2:(encK L)[i]?=some (kyv k,v'):=by unfold encK;rw[List.getElem?_map,hL];rfl
  rw[h2] at hi2
  cases hi2
  exact⟨rfl,rfl⟩
 obtain⟨rfl,rfl⟩:=hkk
 have hseen:(is.map fun i=>bs.getD i 0) ++ [b]=(is ++ [i]).map fun i=>bs.getD i 0:=by rw[List.map_append,<- hbi];rfl
 have hent:stampL b bs (encK L)=some (kyv k,v):=zcq hok.nodup hi1 hi2
 have hI3:=stab is M2 M3 hI (by omega) (fun i hi hne=>z36 hU3 hne)
 have hleft:L.length - (is ++ [i]).length < L.length - is.length:=by
  have:=pig L.length (is ++ [i]) (by
   rw[List.nodup_append]
   exact⟨hnd,by simp,fun a ha b hb=>by
    obtain rfl:b=i:=by simpa using hb
    rintro rfl;exact hni ha⟩) (fun x hx=>by
   rcases List.mem_append.1 hx with hx|hx
   ·exact hlt x hx
   ·obtain rfl:x=i:=by simpa using hx
    exact hil)
  rw[List.length_append] at this ⊢
  simp only[List.length_cons,List.length_nil] at this ⊢
  omega
 repeat' first|with_reducible intro _|refine sv ?_|refine sc ?_ ?_<;>(intro h;try exact sz h)|refine sg ?_ ?_<;>(intro h;first|exact sz h|refine sy h ?_)|exact sq|fail
 refine z5z (by exact gd) (zqa rfl hit3 hm3 hes hent) ?_
 rw[hseen] at hit3
 clear hU3
 repeat' first|with_reducible intro _|refine sv ?_|refine sc ?_ ?_<;>(intro h;try exact sz h)|refine sg ?_ ?_<;>(intro h;first|exact sz h|refine sy h ?_)|exact sq|fail
 rename_i n4 M4 hN4 e4 e4' M5 hU5 e5 hA5
 have hit5:At M5 it (.iter (some r) clk ((is ++ [i]).map fun i=>bs.getD i 0) clk):=xm
 have hm5:At M5 r (.map (encK L) bs clk):=xm
 have hI5:=stab is M3 M5 hI3 (by omega) (fun j hj hne=>by rw[z36 hU5 (by omega),hN4.grow.old j hj])
 clear hN4 hU5
 refine zq (by exact gd) rfl rfl (show AppOk Tryz.prog _ _ M5 _ from step is i k v M5 hnd hlt hni hL (by omega) hI5) ?_
 rintro w M6 ⟨rfl,hI6,hk6⟩
 have hm6:=hm5.keep hk6 (fun h=>(hA _ h).1 rfl)
 have hit6:=hit5.keep hk6 (fun h=>(hA _ h).2 rfl)
 have hl6:=hk6.le
 repeat' first|with_reducible intro _|refine sv ?_|refine sc ?_ ?_<;>(intro h;try exact sz h)|refine sg ?_ ?_<;>(intro h;first|exact sz h|refine sy h ?_)|exact sq|fail
 refine zj (L.length - (is ++ [i]).length) hleft ⟨is ++ [i],clk,rfl,?_,?_,.inr rfl,rfl,.cons rfl (.cons rfl .nil),hit6,hm6,hI6,by omega⟩
 ·rw[List.nodup_append]
  exact⟨hnd,by simp,fun a ha b hb=>by
   obtain rfl:b=i:=by simpa using hb
   rintro rfl;exact hni ha⟩
 ·intro j hj
  rcases List.mem_append.1 hj with hj|hj
  ·exact hlt j hj
  ·obtain rfl:j=i:=by simpa using hj
   exact hil
theorem zr1{P:Program}{f:FuncId}{xf:XF}(h:cFn P f=some xf):∃ fd,fnOf P f=some fd:=by
 unfold cFn at h
 split at h
 ·cases h
 ·rename_i fd hfd;exact⟨fd,hfd⟩
theorem zhj{m:Nat}{k:Ky}{M M':Mem}{ty:TypeId}(hn:New M m (.cells true [I k.1,I k.2] ty) M'):z0e 2 1 (.slice (some (m,0)) 1 true 2) M'=some ([k].flatMap kyc) :=
 z3v (enc:=kyc) (l:=[k]) (fun _ _=>rfl) (fun k' hk'=>z2x (enc:=kyc) (l:=[k]) (At.new_same hn) (fun _ _=>rfl) hk')
def kAt(L:Mk)(i:Nat):Ky:=((L[i]?).map (·.1)).getD (0,0)
abbrev kseq(pb:Nat):LV:=.func (.func 144) [] [.ptr (some (pb,0))]
set_option maxHeartbeats 8000000 in
theorem zd3{M:Mem}{pb r clk:Nat}{ty:TypeId}{L:Mk}{bs:List Nat}(hpb:At M pb (.cells true [.map (some r)] ty))(hm:At M r (.map (encK L) bs clk))(hok:StOk bs clk L.length)(hL:L.length<=1000) :
  CallN Tryz.prog 167 [zsl,kseq pb] M (fun w M'=>∃ is:List Nat,is.Nodup /\ (∀ i,i < L.length ↔ i ∈ is) /\ Vec M.next 2 114 kyc M' w (is.map (kAt L)) /\ Grow M M'):=by
 refine z3b k167 rfl ?_
 dsimp only[x167,zM,zO,zI,zF,zS,zB,zL,zE,zN,zW,zC,zipE,Nat.reduceAdd]
 repeat' first|with_reducible intro _|refine sv ?_|refine sc ?_ ?_<;>(intro h;try exact sz h)|refine sg ?_ ?_<;>(intro h;first|exact sz h|refine sy h ?_)|exact sq|fail
 rename_i m2 M2 hN2 e2 e2'
 have hm2:At M2 m2 (.cells true [zsl] 177):=xm
 have hg2:=hN2.grow
 have hpb2:=At.grow hg2 hpb
 have hmm2:=At.grow hg2 hm
 have hrl:=hm.2
 clear hN2
 apply znw
 exact rfl
 exact zr1 k144
 intro lb d0 ly M16 M17 hlb hd0 e16 e16' hly e17 e17'
 have hg17:Grow M2 M17:=hd0.grow.trans hly.grow
 have hd17:At M17 d0 .defr:=At.new_old hly (At.new_same hd0)
 have hly17:=At.new_same hly
 have hm17:=At.grow hg17 hm2
 refine(zou (l:=ly) (At.grow hg17 hpb2) (At.grow hg17 hmm2) hok (fun i=>i=m2 ∨ i=ly ∨ M17.next < i) (fun(is:List Nat) M'=>∃ v,At M' m2 (.cells true [v] 177) /\ Vec (M17.next+1) 2 114 kyc M' v (is.map (kAt L)) /\ At M' ly (lb .ready none) /\ At M' d0 .defr /\ Keep (fun i=>i=m2 ∨ i=ly) M17 M') ?_ ?_ ?_ ⟨_,hm17,.inl ⟨rfl,rfl⟩,hly17,hd17,Keep.refl _ _⟩).mono ?_
 ·intro i hi;omega
 ·rintro is M3 M4 ⟨v,h1,h2,h3,h4,h5⟩ hle hg
  refine⟨v,h1.same hle (hg _ h1.2 (by omega)),h2.imp id (fun⟨i,g1,g2,g3⟩=>⟨i,g1,g2.same hle (hg _ g2.2 (by omega)),g3⟩),h3.same hle (hg _ h3.2 (by omega)),h4.same hle (hg _ h4.2 (by omega)),⟨Nat.le_trans h5.le hle,fun i hi hf=>?_⟩⟩
  rw[hg i (by have:=h5.le;omega) (by omega)]
  exact h5.old i hi hf
 ·rintro is i k v0 M3 hnd hlt hni hLi hnx ⟨v,h1,h2,h3,h4,h5⟩
  have hkA:kAt L i=k:=by unfold kAt;rw[hLi];rfl
  have hlen:is.length+1<=L.length:=by
   have:=pig L.length (is ++ [i]) (by
    rw[List.nodup_append]
    exact⟨hnd,by simp,fun a ha b hb=>by
     obtain rfl:b=i:=by simpa using hb
     rintro rfl;exact hni ha⟩) (fun x hx=>by
    rcases List.mem_append.1 hx with hx|hx
    ·exact hlt x hx
    ·obtain rfl:x=i:=by simpa using hx
     exact(List.getElem?_eq_some_iff.1 hLi).1)
   rw[List.length_append] at this
   exact this
  refine zeu hlb h3 rfl ?_
  dsimp only[zipP]
  repeat' first|with_reducible intro _|refine sv ?_|refine sc ?_ ?_<;>(intro h;try exact sz h)|refine sg ?_ ?_<;>(intro h;first|exact sz h|refine sy h ?_)|exact sq|fail
  rename_i n4 M4 hN4 e4 e4' M5 hU5 e5 hA5 M6 hU6 e6 hA6 n7 M7 hN7 e7 e7'
  have k1:At M7 m2 (.cells true [v] 177):=xm
  have k4:At M7 d0 .defr:=xm
  have k3:At M7 ly (lb .busy none):=xm
  have kk:Keep (fun i=>i=ly) M3 M7:=xk
  have k2:=h2.keep kk (fun i hi=>by omega)
  have hl7:=kk.le
  clear hN4 hU5 hU6 hA5 hA6
  refine z39 (l':=[k]) (by exact gd) k2 rfl rfl rfl (by simp) (by simp;omega) rfl (zhj hN7) (fun _=>rfl) (fun _=>rfl) (by omega) ?_
  intro v8 M8 hv8 e8 hk8
  have g1:=k1.keep hk8 (fun h=>by have:=h.1;omega)
  have g3:=k3.keep hk8 (fun h=>by have:=h.1;omega)
  have g4:=k4.keep hk8 (fun h=>by have:=h.1;omega)
  have gk:Keep (fun i=>i=m2 ∨ i=ly ∨ M17.next < i) M3 M8:=(kk.weaken (fun i hi=>.inr (.inl hi))).trans hk8 (fun i hi=>.inl (.inr (.inr (by have:=hi.1;omega))))
  have gk5:Keep (fun i=>i=m2 ∨ i=ly) M17 M8:=(h5.trans kk (fun i hi=>.inl (.inr hi))).trans hk8 (fun i hi=>.inr (by have:=hi.1;omega))
  clear hN7 kk k1 k2 k3 k4 hk8
  obtain⟨a8,f8,e8',rfl⟩:=hv8.shape
  repeat' first|with_reducible intro _|refine sv ?_|refine sc ?_ ?_<;>(intro h;try exact sz h)|refine sg ?_ ?_<;>(intro h;first|exact sz h|refine sy h ?_)|exact sq|fail
  rename_i M9 hU9 e9 hA9 M10 hU10 e10 hA10
  refine⟨rfl,⟨_,xm,?_,hA10,xm,(gk5.upd hU9 (.inl (.inl rfl))).upd hU10 (.inl (.inr rfl))⟩,(gk.upd hU9 (.inl (.inl rfl))).upd hU10 (.inl (.inr (.inl rfl)))⟩
  rw[List.map_append]
  show Vec _ _ _ _ _ _ (is.map (kAt L) ++ [kAt L i])
  rw[hkA]
  exact hv8.keep (((Keep.refl (fun i=>i=m2 ∨ i=ly) _).upd hU9 (.inl (.inl rfl))).upd hU10 (.inl (.inr rfl))) (fun i hi=>by omega)
 rintro w M18 ⟨is,hnd,hall,⟨v,h1,h2,h3,h4,h5⟩,hnx⟩
 have hg18:Grow M M18:=Keep.to_grow' (hg2.trans hg17) h5 (fun i hi=>by omega)
 have hl18:=h5.le
 clear h5
 refine zlt h3 (by simp) fun M19 hu19 e19 a19=>?_
 have g1:=At.upd_ne hu19 (show m2 ≠ ly by omega) h1
 have g4:=At.upd_ne hu19 (show d0 ≠ ly by omega) h4
 have hg19:Grow M M19:=hg18.upd hu19 (by omega)
 have g2:=h2.keep ((Keep.refl (fun i=>i=ly) _).upd hu19 (.inl rfl)) (fun i hi=>by omega)
 clear hu19 h1 h2 h4 a19 h3
 obtain⟨a8,f8,e8,rfl⟩:=g2.shape
 repeat' first|with_reducible intro _|refine sv ?_|refine sc ?_ ?_<;>(intro h;try exact sz h)|refine sg ?_ ?_<;>(intro h;first|exact sz h|refine sy h ?_)|exact sq|fail
 refine zc4 (.inr rfl) (by simp[dnat]) (fun d hd=>by simp[dnat] at hd;subst hd;exact g4) fun M22 hm=>⟨_,.tmp rfl .nil,is,hnd,hall,?_,?_⟩
 ·rcases g2 with⟨h1,h2⟩|⟨i,h1,h2,h3⟩
  ·exact .inl ⟨h1,h2⟩
  ·exact .inr ⟨i,h1,h2.unmark hm (by simp[dnat];omega),by omega⟩
 ·exact hg19.unmark hm (fun d hd=>by simp[dnat] at hd;subst hd;omega)
theorem Sw.mem{n:Nat}{G G':Nat->Ky}(h:Sw 0 n G G')(k:Ky):(∃ t,t < n /\ G' t=k) ↔ ∃ t,t < n /\ G t=k:=by
 constructor
 ·rintro⟨t,ht,hk⟩
  have:=h.all (p:=fun k=>∃ t,t < n /\ G t=k) (fun t _ ht=>⟨t,ht,rfl⟩) t (Nat.zero_le _) ht
  rw[hk] at this;exact this
 ·induction h with
  | refl=>exact id
  | @step G' i j _ h1 h2 h3 h4 ih =>
   intro hk
   obtain⟨t,ht,hk⟩:=ih hk
   by_cases hi:t=i
   ·subst hi;exact⟨j,h4,by rw[sw_j];exact hk⟩
   ·by_cases hj:t=j
    ·subst hj;exact⟨i,h2,by rw[sw_i];exact hk⟩
    ·exact⟨t,ht,by rw[z4i hi hj];exact hk⟩
theorem zg5{ks:List Ky}:(List.range ks.length).map (fun i=>ks.getD i (0,0))=ks:=by
 refine List.ext_getElem (by simp) fun i h1 h2=>?_
 simp only[List.getElem_map,List.getElem_range]
 rw[List.getD_eq_getElem?_getD,List.getElem?_eq_getElem h2];rfl
theorem zot{M:Mem}{a:Option (Nat × Nat)}{f:Bool}{e:Nat}:za Tryz.prog 186 [.slice a 0 f e,I 0,I 0,cf] M (fun w M'=>M'=M):=by
 refine zd k186 rfl ?_
 dsimp only[x186,zM,zO,zI,zF,zS,zB,zL,zE,zN,zW,zC,zipE,Nat.reduceAdd]
 repeat' first|with_reducible intro _|refine sv ?_|refine su ?_|(refine sc ?_ ?_<;>(intro h;try exact sz h))|refine sg ?_ ?_<;>(intro h;first|exact sz h|refine sy h ?_)|exact sq|fail
 refine kf ?_
 rfl
theorem zow{M:Mem}{a:Option (Nat × Nat)}{f:Bool}{e:Nat}{lim:Int}:za Tryz.prog 168 [.slice a 0 f e,I 0,I 0,I lim,cf] M (fun w M'=>M'=M):=by
 refine zd k168 rfl ?_
 dsimp only[x168,zM,zO,zI,zF,zS,zB,zL,zE,zN,zW,zC,zipE,Nat.reduceAdd]
 repeat' first|with_reducible intro _|refine sv ?_|refine su ?_|(refine sc ?_ ?_<;>(intro h;try exact sz h))|((with_reducible first|apply zq|apply z0b|apply x_call0);exact gd;exact rfl;exact rfl;(first|exact zot))|refine sg ?_ ?_<;>(intro h;first|exact sz h|refine sy h ?_)|exact sq|fail
 rename_i hq
 subst hq
 repeat' first|with_reducible intro _|refine sv ?_|refine sc ?_ ?_<;>(intro h;try exact sz h)|refine sg ?_ ?_<;>(intro h;first|exact sz h|refine sy h ?_)|exact sq|fail
 refine kf ?_
 rfl
set_option maxHeartbeats 4000000 in
theorem zfb{M:Mem}{b:Nat}{v:LV}{ks:List Ky}(hv:Vec b 2 114 kyc M v ks)(hl:ks.length<=200)(hn:ks.Nodup) :
  za Tryz.prog 143 [v,cf] M (fun _ M'=>∃ ks',Vec b 2 114 kyc M' v ks' /\ ks'.Pairwise klt /\ (∀ k,k ∈ ks' ↔ k ∈ ks) /\ ks'.length=ks.length /\ Keep (fun i=>b<=i) M M'):=by
 have cl:=zom (M:=M) (n:=ks.length) (by omega)
 have hw:=z38 (z:=(ks.length:Int)) (by omega)
 rcases hv with⟨rfl,rfl⟩|⟨i,rfl,hA,hbi⟩
 ·refine zd k143 rfl ?_
  dsimp only[x143,zM,zO,zI,zF,zS,zB,zL,zE,zN,zW,zC,zipE,Nat.reduceAdd]
  repeat' first|with_reducible intro _|refine sv ?_|refine sc ?_ ?_<;>(intro h;try exact sz h)|((with_reducible first|apply zq|apply z0b|apply x_call0);exact gd;exact rfl;exact rfl;(first|exact cl))|refine sg ?_ ?_<;>(intro h;first|exact sz h|refine sy h ?_)|exact sq|fail
  rename_i hq
  obtain⟨k,rfl,hk1,hk2,rfl⟩:=hq
  repeat' first|with_reducible intro _|refine sv ?_|refine sc ?_ ?_<;>(intro h;try exact sz h)|((with_reducible first|apply zq|apply z0b|apply x_call0);exact gd;exact rfl;exact rfl;(first|exact zow))|refine sg ?_ ?_<;>(intro h;first|exact sz h|refine sy h ?_)|exact sq|fail
  rename_i hq
  subst hq
  refine kf ?_
  exact⟨[],.inl ⟨rfl,rfl⟩,List.Pairwise.nil,fun _=>Iff.rfl,rfl,Keep.refl _ _⟩
 ·have hT:KT M i ks.length (apE 114) (fun i=>ks.getD i (0,0)):=by
   show At M i (.cells true (tabL kyc (fun i=>ks.getD i (0,0)) ks.length) (apE 114))
   unfold tabL
   rw[zg5];exact hA
  have hij:Inj ks.length (fun i=>ks.getD i (0,0)):=fun x y hx hy hxy=>by
   simp only[List.getD_eq_getElem?_getD,List.getElem?_eq_getElem hx,List.getElem?_eq_getElem hy,Option.getD_some] at hxy
   unfold List.Nodup at hn
   rw[List.pairwise_iff_getElem] at hn
   rcases Nat.lt_trichotomy x y with h|h|h
   ·exact absurd hxy (hn x y hx hy h)
   ·exact h
   ·exact absurd hxy.symm (hn y x hy hx h)
  have hmem:∀ k,(∃ t,t < ks.length /\ ks.getD t (0,0)=k) ↔ k ∈ ks:=fun k=>by
   rw[List.mem_iff_getElem]
   constructor
   ·rintro⟨t,ht,h⟩;exact⟨t,ht,by rw[List.getD_eq_getElem?_getD,List.getElem?_eq_getElem ht] at h;exact h⟩
   ·rintro⟨t,ht,h⟩;exact⟨t,ht,by rw[List.getD_eq_getElem?_getD,List.getElem?_eq_getElem ht];exact h⟩
  refine zd k143 rfl ?_
  dsimp only[x143,zM,zO,zI,zF,zS,zB,zL,zE,zN,zW,zC,zipE,Nat.reduceAdd]
  repeat' first|with_reducible intro _|refine sv ?_|refine sc ?_ ?_<;>(intro h;try exact sz h)|refine sg ?_ ?_<;>(intro h;first|exact sz h|refine sy h ?_)|exact sq|fail
  rw[hw]
  repeat' first|with_reducible intro _|refine sv ?_|refine sc ?_ ?_<;>(intro h;try exact sz h)|((with_reducible first|apply zq|apply z0b|apply x_call0);exact gd;exact rfl;exact rfl;(first|exact cl))|refine sg ?_ ?_<;>(intro h;first|exact sz h|refine sy h ?_)|exact sq|fail
  rename_i hq
  obtain⟨k,rfl,hk1,hk2,rfl⟩:=hq
  repeat' first|with_reducible intro _|refine sv ?_|refine sc ?_ ?_<;>(intro h;try exact sz h)|((with_reducible first|apply zq|apply z0b|apply x_call0);exact gd;exact rfl;exact rfl;(first|exact zqs (p:=i) (n:=ks.length) (f:=false) (e:=2) (by omega) (ks.length+1) (a:=0) (by omega) hT (Nat.le_refl _) (Nat.zero_le _) hij (.inl rfl) (by omega)))|refine sg ?_ ?_<;>(intro h;first|exact sz h|refine sy h ?_)|exact sq|fail
  rename_i hq
  obtain⟨G',hsw,hsr,hT',hkp⟩:=hq
  have hm2:=Sw.mem hsw
  have hij2:=hsw.inj (Nat.le_refl _) hij
  refine kf ?_
  refine⟨(List.range ks.length).map G',.inr ⟨i,by simp,hT',hbi⟩,?_,fun k=>?_,by simp,hkp.weaken (fun j hj=>by omega)⟩
  ·rw[List.pairwise_iff_getElem]
   intro x y hx hy hxy
   simp only[List.length_map,List.length_range] at hx hy
   simp only[List.getElem_map,List.getElem_range]
   rcases zhl (a:=G' x) (b:=G' y) (fun he=>by have:=hij2 x y hx hy he;omega) with h|h
   ·exact h
   ·exact absurd h (hsr x y (Nat.zero_le _) hxy hy)
  ·rw[List.mem_map,<- hmem,<- hm2]
   constructor
   ·rintro⟨t,ht,h⟩;exact⟨t,List.mem_range.1 ht,h⟩
   ·rintro⟨t,ht,h⟩;exact⟨t,List.mem_range.2 ht,h⟩
end Go.Proofs.YtbfnnllgdioccaaGreatDoor.C
end
section
open Go PvL
set_option linter.unusedSimpArgs false
set_option linter.unusedVariables false
namespace Go.Proofs.YtbfnnllgdioccaaGreatDoor.C
def FsV1(M:Mem)(a:Option (Nat × Nat))(L:List Fr):Prop:=L=[] ∨ ∃ i o,a=some (i,o) /\ ∀ k (hk:k < L.length),∃ b g,Rd M i (o+k*3) 3 [I L[k].1,I L[k].2.1,.slice b L[k].2.2.length g 1] /\ SlI M b L[k].2.2
theorem FsV1.to{M:Mem}{a:Option (Nat × Nat)}{L:List Fr}(h:FsV1 M a L):FsV M a L :=
 h.imp id fun⟨i,o,h1,h2⟩=>⟨i,o,h1,fun k hk=>by
  obtain⟨b,g,h3,h4⟩:=h2 k hk
  exact⟨b,g,1,h3,h4⟩⟩
end Go.Proofs.YtbfnnllgdioccaaGreatDoor.C
end
section
open Go PvL Go.Proofs
set_option linter.unusedSimpArgs false
set_option linter.unusedVariables false
variable {μ:Md}
namespace Go.Proofs.YtbfnnllgdioccaaGreatDoor.C
theorem zol{M:Mem}{r:Nat}:za Tryz.prog 113 [.map (some r)] M (MkAt kseq (.cells true [.map (some r)] 107) M):=by
 refine zd k113 rfl ?_
 dsimp only[x113,zM,zO,zI,zF,zS,zB,zL,zA,zE,zN,zW,zC,zipE,Nat.reduceAdd]
 repeat' first|with_reducible intro _|refine sv ?_|refine sc ?_ ?_<;>(intro h;try exact sz h)|refine sg ?_ ?_<;>(intro h;first|exact sz h|refine sy h ?_)|exact sq|fail
 rename_i n1 M1 hN1 e1 e1'
 refine kf ?_
 exact⟨n1,rfl,At.new_same hN1,by omega,by omega,hN1.grow⟩
theorem zee{L:Mk}{i:Nat}(h:i < L.length):kAt L i=L[i].1:=by unfold kAt;rw[List.getElem?_eq_getElem h];rfl
theorem zn3{L:Mk}{is:List Nat}(hL:(L.map (·.1)).Nodup)(hnd:is.Nodup)(hall:∀ i,i < L.length ↔ i ∈ is):(is.map (kAt L)).Nodup /\ (∀ k,k ∈ is.map (kAt L) ↔ k ∈ L.map (·.1)) /\ (is.map (kAt L)).length<=L.length:=by
 refine⟨?_,fun k=>?_,?_⟩
 ·unfold List.Nodup at hnd hL ⊢
  rw[List.pairwise_map]
  refine hnd.imp_of_mem fun {i j} hi hj hne he=>?_
  have hi':=(hall i).2 hi
  have hj':=(hall j).2 hj
  rw[zee hi',zee hj'] at he
  refine hne (zcb (bs:=(List.range L.length)) List.nodup_range (by simpa using hi') (by simpa using hj') ?_)
  simp only[List.getElem_range]
  rw[List.pairwise_iff_getElem] at hL
  rcases Nat.lt_trichotomy i j with h|h|h
  ·exact absurd (by rw[List.getElem_map,List.getElem_map];exact he) (hL i j (by simpa using hi') (by simpa using hj') h)
  ·exact h
  ·exact absurd (by rw[List.getElem_map,List.getElem_map];exact he.symm) (hL j i (by simpa using hj') (by simpa using hi') h)
 ·rw[List.mem_map,List.mem_map]
  constructor
  ·rintro⟨i,hi,rfl⟩
   have hi':=(hall i).2 hi
   exact⟨L[i],List.getElem_mem hi',(zee hi').symm⟩
  ·rintro⟨p,hp,rfl⟩
   obtain⟨i,hi,rfl⟩:=List.mem_iff_getElem.1 hp
   exact⟨i,(hall i).1 hi,zee hi⟩
 ·rw[List.length_map]
  exact pig L.length is hnd fun i hi=>(hall i).2 hi
theorem zgm{M:Mem}{pb r clk:Nat}{ty:TypeId}{L:Mk}{bs:List Nat}(hpb:At M pb (.cells true [.map (some r)] ty))(hm:At M r (.map (encK L) bs clk))(hok:StOk bs clk L.length)(hL:L.length<=1000)(hN:(L.map (·.1)).Nodup) :
  CallN Tryz.prog 142 [kseq pb] M (fun w M'=>∃ ks:List Ky,ks.Nodup /\ (∀ k,k ∈ ks ↔ k ∈ L.map (·.1)) /\ ks.length<=L.length /\ Vec M.next 2 114 kyc M' w ks /\ Grow M M'):=by
 refine z3b k142 rfl ?_
 dsimp only[x142,zM,zO,zI,zF,zS,zB,zL,zE,zN,zW,zC,zipE,Nat.reduceAdd]
 repeat' first|with_reducible intro _|refine sv ?_|refine sc ?_ ?_<;>(intro h;try exact sz h)|refine sg ?_ ?_<;>(intro h;first|exact sz h|refine sy h ?_)|exact sq|fail
 refine z8p (by exact gd) rfl rfl (zd3 hpb hm hok hL) ?_
 rintro w M' ⟨is,hnd,hall,hv,hg⟩
 obtain⟨h1,h2,h3⟩:=zn3 hN hnd hall
 obtain⟨a,f,e,rfl⟩:=hv.shape
 repeat' first|with_reducible intro _|refine sv ?_|refine sc ?_ ?_<;>(intro h;try exact sz h)|refine sg ?_ ?_<;>(intro h;first|exact sz h|refine sy h ?_)|exact sq|fail
 refine kf ?_
 exact⟨_,h1,h2,h3,hv,hg⟩
theorem zbj{M:Mem}{pb r clk:Nat}{ty:TypeId}{L:Mk}{bs:List Nat}(hpb:At M pb (.cells true [.map (some r)] ty))(hm:At M r (.map (encK L) bs clk))(hok:StOk bs clk L.length)(hL:L.length<=200)(hN:(L.map (·.1)).Nodup) :
  CallN Tryz.prog 112 [kseq pb,cf] M (fun w M'=>∃ ks:List Ky,ks.Pairwise klt /\ (∀ k,k ∈ ks ↔ k ∈ L.map (·.1)) /\ ks.length<=L.length /\ Vec M.next 2 114 kyc M' w ks /\ Grow M M'):=by
 refine z3b k112 rfl ?_
 dsimp only[x112,zM,zO,zI,zF,zS,zB,zL,zA,zE,zN,zW,zC,zipE,Nat.reduceAdd]
 repeat' first|with_reducible intro _|refine sv ?_|refine sc ?_ ?_<;>(intro h;try exact sz h)|refine sg ?_ ?_<;>(intro h;first|exact sz h|refine sy h ?_)|exact sq|fail
 refine z8p (by exact gd) rfl rfl (zgm hpb hm hok (by omega) hN) ?_
 rintro w M' ⟨ks,h1,h2,h3,hv,hg⟩
 obtain⟨a,f,e,rfl⟩:=hv.shape
 repeat' first|with_reducible intro _|refine sv ?_|refine sc ?_ ?_<;>(intro h;try exact sz h)|((with_reducible first|apply zq|apply z0b|apply x_call0);exact gd;exact rfl;exact rfl;(first|exact zfb hv (by omega) h1))|refine sg ?_ ?_<;>(intro h;first|exact sz h|refine sy h ?_)|exact sq|fail
 rename_i hq
 obtain⟨ks',hv',h4,h5,h6,hk⟩:=hq
 have hg2:=Keep.to_grow' hg hk (fun i hi=>hi)
 repeat' first|with_reducible intro _|refine sv ?_|refine sc ?_ ?_<;>(intro h;try exact sz h)|refine sg ?_ ?_<;>(intro h;first|exact sz h|refine sy h ?_)|exact sq|fail
 refine kf ?_
 exact⟨ks',h4,fun k=>(h5 k).trans (h2 k),by omega,hv',hg2⟩
abbrev FW:=Ky × Option (Nat × Nat) × Nat × Bool × Nat
abbrev fwc(x:FW):List LV:=[I x.1.1,I x.1.2,.slice x.2.1 x.2.2.1 x.2.2.2.1 x.2.2.2.2]
def FwV(M:Mem)(x:FW)(f:Fr):Prop:=x.1=fky f /\ x.2.2.1=f.2.2.length /\ SlI M x.2.1 f.2.2
inductive FwL (M:Mem):List FW->List Fr->Prop
 | nil:FwL M [] []
 | cons {x:FW} {f:Fr} {xs:List FW} {fs:List Fr} (h:FwV M x f) (h':FwL M xs fs):FwL M (x :: xs) (f :: fs)
theorem FwL.len{M:Mem}{xs:List FW}{fs:List Fr}(h:FwL M xs fs):xs.length=fs.length:=by
 induction h with
 | nil=>rfl
 | cons _ _ ih=>simp[ih]
theorem FwL.at{M:Mem}{xs:List FW}{fs:List Fr}(h:FwL M xs fs):∀ {k:Nat} (h1:k < xs.length) (h2:k < fs.length),FwV M xs[k] fs[k]:=by
 induction h with
 | nil=>intro k h1;simp at h1
 | cons h _ ih =>
  intro k h1 h2
  cases k with
  | zero=>exact h
  | succ k=>exact ih (by simpa using h1) (by simpa using h2)
theorem FwV.grow{M M':Mem}{x:FW}{f:Fr}(h:FwV M x f)(hg:Grow M M'):FwV M' x f:=⟨h.1,h.2.1,h.2.2.grow hg⟩
theorem zp8{b:Nat}{ty:TypeId}{M:Mem}{v:LV}{xs:List FW}{fs:List Fr}(hv:Vec b 3 ty fwc M v xs)(hl:FwL M xs fs):∃ a f e,v=.slice a fs.length f e /\ FsV M a fs:=by
 obtain⟨a,f,e,h1,h2⟩:=hv.rd (fun _ _=>rfl)
 refine⟨a,f,e,by rw[<-hl.len];exact h1,?_⟩
 rcases h2 with rfl|⟨i,o,rfl,h3⟩
 ·left
  have:=hl.len
  exact List.length_eq_zero_iff.1 (by rw[<-this];rfl)
 ·refine .inr ⟨i,o,rfl,fun k hk=>?_⟩
  have hk':k < xs.length:=by rw[hl.len];exact hk
  have h4:=h3 k hk'
  obtain⟨g1,g2,g3⟩:=hl.at hk' hk
  refine⟨xs[k].2.1,xs[k].2.2.2.1,xs[k].2.2.2.2,?_,g3⟩
  have e1:xs[k].1.1=fs[k].1:=congrArg Prod.fst g1
  have e2:xs[k].1.2=fs[k].2.1:=congrArg Prod.snd g1
  rw[<-e1,<- e2,<- g2]
  exact h4
inductive FwL1 (M:Mem):List FW->List Fr->Prop
 | nil:FwL1 M [] []
 | cons {x:FW} {f:Fr} {xs:List FW} {fs:List Fr} (h:FwV M x f) (h1:f.2.2 ≠ []->x.2.2.2.2=1) (h':FwL1 M xs fs):FwL1 M (x :: xs) (f :: fs)
theorem FwL1.l{M:Mem}{xs:List FW}{fs:List Fr}(h:FwL1 M xs fs):FwL M xs fs:=by
 induction h with
 | nil=>exact .nil
 | cons h _ _ ih=>exact .cons h ih
theorem FwL1.snoc{M:Mem}{xs:List FW}{fs:List Fr}{x:FW}{f:Fr}(h:FwL1 M xs fs)(h':FwV M x f)(h1:f.2.2 ≠ []->x.2.2.2.2=1):FwL1 M (xs ++ [x]) (fs ++ [f]):=by
 induction h with
 | nil=>exact .cons h' h1 .nil
 | cons h h2 _ ih=>exact .cons h h2 ih
theorem FwL1.grow{M M':Mem}{xs:List FW}{fs:List Fr}(h:FwL1 M xs fs)(hg:Grow M M'):FwL1 M' xs fs:=by
 induction h with
 | nil=>exact .nil
 | cons h h2 _ ih=>exact .cons (h.grow hg) h2 ih
theorem FwL1.one{M:Mem}{xs:List FW}{fs:List Fr}(h:FwL1 M xs fs):∀ {k:Nat} (h1:k < xs.length) (h2:k < fs.length),fs[k].2.2 ≠ []->xs[k].2.2.2.2=1:=by
 induction h with
 | nil=>intro k h1;simp at h1
 | cons h h2 _ ih =>
  intro k g1 g2
  cases k with
  | zero=>exact h2
  | succ k=>exact ih (by simpa using g1) (by simpa using g2)
theorem zn1{b:Nat}{ty:TypeId}{M:Mem}{v:LV}{xs:List FW}{fs:List Fr}(hv:Vec b 3 ty fwc M v xs)(hl1:FwL1 M xs fs)(hne:∀ x ∈ fs,x.2.2 ≠ []):∃ a f e,v=.slice a fs.length f e /\ FsV1 M a fs:=by
 have hl:=hl1.l
 obtain⟨a,f,e,h1,h2⟩:=hv.rd (fun _ _=>rfl)
 refine⟨a,f,e,by rw[<-hl.len];exact h1,?_⟩
 rcases h2 with rfl|⟨i,o,rfl,h3⟩
 ·left
  have:=hl.len
  exact List.length_eq_zero_iff.1 (by rw[<-this];rfl)
 ·refine .inr ⟨i,o,rfl,fun k hk=>?_⟩
  have hk':k < xs.length:=by rw[hl.len];exact hk
  have h4:=h3 k hk'
  obtain⟨g1,g2,g3⟩:=hl.at hk' hk
  have g4:=hl1.one hk' hk (hne _ (List.getElem_mem hk))
  refine⟨xs[k].2.1,xs[k].2.2.2.1,?_,g3⟩
  have e1:xs[k].1.1=fs[k].1:=congrArg Prod.fst g1
  have e2:xs[k].1.2=fs[k].2.1:=congrArg Prod.snd g1
  rw[<-e1,<- e2,<- g2,<- g4]
  exact h4
theorem z73{m:Nat}{x:FW}{M M':Mem}{ty:TypeId}(hn:New M m (.cells true (fwc x) ty) M'):z0e 3 1 (.slice (some (m,0)) 1 true 3) M'=some ([x].flatMap fwc) :=
 z3v (enc:=fwc) (l:=[x]) (fun _ _=>rfl) (fun k' hk'=>z2x (enc:=fwc) (l:=[x]) (At.new_same hn) (fun _ _=>rfl) hk')
set_option maxHeartbeats 8000000 in
theorem zjf{M:Mem}{r:Nat}{R:Rk}{J:List Fr}(hR:RkM M r R)(hJ:RJ R J)(hne:∀ x ∈ J,x.2.2 ≠ [])(hlen:R.length<=1000000) :
  CallN Tryz.prog 64 [.map (some r)] M (fun w M'=>((J.length<=128 /\ ∃ a f e,w=.tup [.slice a J.length f e,.bool true] /\ FsV1 M' a J) ∨(128 < J.length /\ w=.tup [zsl,.bool false])) /\ Grow M M'):=by
 obtain⟨L,bs,clk,hm,hok,hL⟩:=hR
 have hLl:=hL.len
 have hkeys:=hL.keys
 have hJl:=hJ.len
 have hN:(L.map (·.1)).Nodup:=by rw[hkeys];exact hJ.n
 refine z3b k64 rfl ?_
 dsimp only[x64,zM,zO,zI,zF,zS,zB,zL,zA,zE,zN,zW,zC,zipE,Nat.reduceAdd]
 have hel:(encK L).length=L.length:=by simp[encK]
 by_cases hbig:128 < R.length
 ·repeat' first|with_reducible intro _|refine sv ?_|refine sc ?_ ?_<;>(intro h;try exact sz h)|refine sg ?_ ?_<;>(intro h;first|exact sz h|refine sy h ?_)|exact sq|fail
  refine z3m (by exact gd) (zj1 rfl hm) ?_
  repeat' first|with_reducible intro _|refine sv ?_|refine sc ?_ ?_<;>(intro h;try exact sz h)|refine sg ?_ ?_<;>(intro h;first|exact sz h|refine sy h ?_)|exact sq|fail
  all_goals try(exfalso;omega)
  refine kf ?_
  exact⟨.inr ⟨by omega,rfl⟩,Grow.refl _⟩
 repeat' first|with_reducible intro _|refine sv ?_|refine sc ?_ ?_<;>(intro h;try exact sz h)|refine sg ?_ ?_<;>(intro h;first|exact sz h|refine sy h ?_)|exact sq|fail
 refine z3m (by exact gd) (zj1 rfl hm) ?_
 repeat' first|with_reducible intro _|refine sv ?_|refine sc ?_ ?_<;>(intro h;try exact sz h)|((with_reducible first|apply zey|apply ze7);exact gd;exact rfl;exact rfl;(first|exact zol))|refine sg ?_ ?_<;>(intro h;first|exact sz h|refine sy h ?_)|exact sq|fail
 all_goals try(exfalso;omega)
 rename_i pb M1 hpb q1 q1' hg1 q1''
 refine z8p (by exact gd) rfl rfl (zbj hpb (At.grow hg1 hm) hok (by omega) hN) ?_
 rintro w M2 ⟨ks,hsrt,hmem,hkl,hv,hg2⟩
 have hks:=hJ.frames hsrt (fun k=>by rw[hmem,hkeys])
 have hgM2:=hg1.trans hg2
 obtain⟨a2,f2,e2,rfl,hrd⟩:=hv.rd (fun _ _=>rfl)
 repeat' first|with_reducible intro _|refine sv ?_|refine sc ?_ ?_<;>(intro h;try exact sz h)|refine sg ?_ ?_<;>(intro h;first|exact sz h|refine sy h ?_)|exact sq|fail
 have hb0:M2.next=M2.next:=rfl
 refine z9 (fun z E ms M'=>∃(k:Nat) (xs:List FW) (v:LV),z=ks.length - k /\ k<=ks.length /\ ms=[] /\ Has E [(0,.map (some r)),(12,.slice a2 ks.length f2 e2),(13,I ks.length),(14,I k),(4,v)] /\ Vec M2.next 3 48 fwc M' v xs /\ FwL1 M xs ((ks.take k).map (frK R)) /\ Grow M2 M')
  ?_ (ks.length - 0) _ _ _ ⟨0,[],_,rfl,Nat.zero_le _,rfl,.cons rfl (.cons rfl (.cons rfl (.cons rfl (.cons rfl .nil)))),Vec.nil,.nil,Grow.refl _⟩
 rintro z E ms M3 ⟨k,xs,v,rfl,hk,rfl,hE,hvx,hfx,hg3⟩
 refine z0d hE ?_
 obtain⟨a3,f3,e3,rfl⟩:=hvx.shape
 by_cases hlast:k=ks.length
 ·subst hlast
  rw[List.take_length,hks] at hfx
  have hfx':=hfx.grow (hgM2.trans hg3)
  repeat' first|with_reducible intro _|refine sv ?_|refine sc ?_ ?_<;>(intro h;try exact sz h)|refine sg ?_ ?_<;>(intro h;first|exact sz h|refine sy h ?_)|exact sq|fail
  refine kf ?_
  obtain⟨a,f,e,he,hfs⟩:=zn1 hvx hfx' hne
  exact⟨.inl ⟨by omega,a,f,e,by rw[he];rfl,hfs⟩,hgM2.trans hg3⟩
 have hlt:k < ks.length:=by omega
 rcases hrd with h0|⟨i2,o2,rfl,hrd⟩
 ·rw[h0] at hlt;exact absurd hlt (Nat.not_lt_zero _)
 have hr3:=(hrd k hlt).grow hg3
 have hkk:=hL.look ks[k]
 have hfr:frK R ks[k]=(ks[k].1,ks[k].2,(lkK R ks[k]).getD []):=rfl
 have htk:(ks.take (k+1)).map (frK R)=(ks.take k).map (frK R) ++ [frK R ks[k]]:=by rw[List.take_succ_eq_append_getElem hlt,List.map_append];rfl
 obtain⟨av,fv,ev,hve,hv1,hvs⟩:=hkk
 generalize (lkK R ks[k]).getD []=smp at *
 have hmr:=At.grow (hgM2.trans hg3) hm
 have hlke:=hve
 generalize ks[k]=kk at *
 have hxl:xs.length=k:=by rw[hfx.l.len];simp;omega
 (have hrd0:=hr3;repeat' (first|(with_reducible intro _)|refine sv ?_|(refine sc ?_ ?_<;>(intro h;try exact sz h))|refine sg ?_ ?_<;>(intro h;first|exact sz h|refine sy h ?_)|exact sq|fail))
 rename_i n4 M4 hN4 q4 q4' M5 hU5 q5 hA5
 have hm5:At M5 r (.map (encK L) bs clk):=by have:=hm.2;have:=hgM2.le;have:=hg3.le;exact xm
 have lk5:∀ {E:Env} {x y:XO} (m:Mem),At m r (.map (encK L) bs clk)->xval E x=some (.map (some r))->xval E y=some (kyv kk)->ze Tryz.prog (.lkp 114 zsl false x y) E m=some (.val (.slice av smp.length fv ev) m):=fun m hm hx hy=>by
  have:=zhs hm hx hy
  rw[hve] at this;exact this
 have hkp5:Keep (fun _=>False) M3 M5:=xk
 have hl5:=hkp5.le
 have hvx5:=hvx.keep hkp5 (fun i hi=>hi.elim)
 have hl3:=hg3.le
 have hg5:Grow M2 M5:=xg
 have hrl:=hm.2
 have hM2:=hgM2.le
 clear hU5 hN4
 repeat' first|with_reducible intro _|refine sv ?_|refine sc ?_ ?_<;>(intro h;try exact sz h)|refine sg ?_ ?_<;>(intro h;first|exact sz h|refine sy h ?_)|exact sq|fail
 refine z54 (by exact gd) (lk5 _ hm5 rfl rfl) (fun m=>At m r (.map (encK L) bs clk)) (fun m hm=>lk5 m hm rfl rfl) ?_
 repeat' first|with_reducible intro _|refine sv ?_|refine sc ?_ ?_<;>(intro h;try exact sz h)|refine sg ?_ ?_<;>(intro h;first|exact sz h|refine sy h ?_)|exact sq|fail
 rename_i n6 M6 hN6 q6 q6'
 have hvx6:=hvx5.grow hN6.grow
 have hg6:Grow M2 M6:=hg5.trans hN6.grow
 have hfx2:FwL1 M (xs ++ [(kk,av,smp.length,fv,ev)]) ((ks.take (k+1)).map (frK R)):=by
  rw[htk,hfr]
  exact hfx.snoc ⟨rfl,rfl,hvs⟩ hv1
 have hl6:=hg6.le
 refine zh0 (l':=[(kk,av,smp.length,fv,ev)]) (by exact gd) hvx6 rfl rfl rfl (by simp) (by simp;omega) rfl (z73 (x:=(kk,av,smp.length,fv,ev)) hN6) (fun _=>rfl) (fun _=>rfl) (by omega) ?_
 intro v7 M7 hv7 e7 hk7
 have hg7:Grow M2 M7:=Keep.to_grow' hg6 hk7 (fun i hi=>hi.1)
 obtain⟨a7,f7,e7',rfl⟩:=hv7.shape
 have hob:∀ i,i < M2.next->¬(M2.next<=i /\ ∃ o n f e,LV.slice a3 xs.length f3 e3=.slice (some (i,o)) n f e):=fun i hi h=>by omega
 repeat' first|with_reducible intro _|refine sv ?_|refine sc ?_ ?_<;>(intro h;try exact sz h)|refine sg ?_ ?_<;>(intro h;first|exact sz h|refine sy h ?_)|exact sq|fail
 exact zj (ks.length - (k+1)) (by omega) ⟨k+1,_,_,rfl,by omega,rfl,.cons rfl (.cons rfl (.cons rfl (.cons rfl (.cons rfl .nil)))),hv7,hfx2,hg7⟩
section
variable {P:Program} [Orc P] {sz:Nat} {E:Env} {M:Mem} {K:Env->Mem->Prop} {l:List XG} {g:Option (Nat × Bool)} {st:List Mem} {n:Nat} {xs:List (Nat × Nat × (Mem->Prop))} {ld:List (XG × XK)} {x y z':XO} {r:Nat} {R:Rk} {k:Ky} {v:LV} {smp:List Int}
end
def RkB(R:Rk):Prop:=∀ k,((lkK R k).getD []).length<=64
theorem RkB.nil:RkB []:=fun k=>Nat.zero_le _
theorem RkB.add{R:Rk}(h:RkB R){f:Fr}(hf:f.2.2.length<=64):RkB (rkA R f):=fun k=>by
 unfold rkA
 rw[zhp]
 split
 ·rw[Option.getD_some,z1e]
  have:=h (fky f)
  omega
 ·exact h k
def FrOk(L:List Fr):Prop:=∀ x ∈ L,frB x=true
theorem FrOk.k{L:List Fr}(h:FrOk L):∀ x ∈ L,FrK x:=fun x hx=>by have:=z9a (h x hx);exact⟨this.1,this.2.1,this.2.2.1,this.2.2.2.1⟩
theorem z68{x:Fr}(h:frB x=true):1<=x.2.2.length /\ x.2.2.length<=64:=by
 have:=zak (x:=x) (by unfold errF;rw[h];rfl)
 omega
theorem zfl{α β:Type}{f:β->α->β}{b:β}{L:List α}{k:Nat}(h:k < L.length):(L.take (k+1)).foldl f b=f ((L.take k).foldl f b) L[k]:=by
 rw[List.take_succ_eq_append_getElem h,List.foldl_append];rfl
theorem Rd1.nem{M:Mem}{i o r:Nat}{v:LV}{es:List (LV × LV)}{bs:List Nat}{c:Nat}(h:Rd1 M i o v)(hm:At M r (.map es bs c)):i ≠ r:=fun e=>by
 subst e
 have h1:=h.1
 unfold load1 atCells at h1
 rw[hm.1] at h1
 cases h1
theorem Rd.nem{M:Mem}{i o n r:Nat}{v:List LV}{es:List (LV × LV)}{bs:List Nat}{c:Nat}(h:Rd M i o n v)(hm:At M r (.map es bs c)):i ≠ r:=fun e=>by
 subst e
 have h1:=h.1
 unfold loadN atCells at h1
 rw[hm.1] at h1
 cases h1
theorem SlI.keepm{M M':Mem}{r:Nat}{es:List (LV × LV)}{bs:List Nat}{c:Nat}{a:Option (Nat × Nat)}{l:List Int}(h:SlI M a l)(hm:At M r (.map es bs c))(hk:Keep (fun i=>i=r) M M'):SlI M' a l :=
 h.imp id fun⟨i,o,h1,h2⟩=>⟨i,o,h1,fun k hk'=>(h2 k hk').keep hk (Rd1.nem (h2 k hk') hm)⟩
theorem FsV.keepm{M M':Mem}{r:Nat}{es:List (LV × LV)}{bs:List Nat}{c:Nat}{a:Option (Nat × Nat)}{L:List Fr}(h:FsV M a L)(hm:At M r (.map es bs c))(hk:Keep (fun i=>i=r) M M'):FsV M' a L :=
 h.imp id fun⟨i,o,h1,h2⟩=>⟨i,o,h1,fun k hk'=>by
  obtain⟨b,g,u,h3,h4⟩:=h2 k hk'
  exact⟨b,g,u,h3.keep hk (Rd.nem h3 hm),SlI.keepm h4 hm hk⟩⟩
end Go.Proofs.YtbfnnllgdioccaaGreatDoor.C
end
section
open Go PvL
set_option linter.unusedSimpArgs false
set_option linter.unusedVariables false
namespace Go.Proofs.YtbfnnllgdioccaaGreatDoor.C
structure GdL (J:List Fr):Prop where
 s:SrtJ J
 b:∀ x ∈ J,frB x=true
theorem zr2{x:Fr}(h:frB x=true):FrK x:=by have:=z9a h;exact⟨this.1,this.2.1,this.2.2.1,this.2.2.2.1⟩
theorem GdL.k{J:List Fr}(h:GdL J):∀ x ∈ J,FrK x:=fun x hx=>zr2 (h.b x hx)
theorem GdL.nd{J:List Fr}(h:GdL J):(J.map fky).Nodup:=h.s.keys.imp fun hk e=>by subst e;exact z1i _ hk
theorem zko{a b:List Int}(ha:smsB a=true)(hb:smsB b=true):smsB (z0o a b)=true:=by
 unfold smsB btB at *
 simp only[Bool.and_eq_true,decide_eq_true_eq] at *
 rw[z1e]
 exact⟨by omega,znn ha.2 hb.2⟩
theorem zjx{g f:Fr}(hg:frB g=true)(hf:frB f=true):frB (g.1,g.2.1,z0o g.2.2 f.2.2)=true:=by
 have h1:=z9a hg
 have h2:=z9a hf
 unfold frB btB
 simp only[Bool.and_eq_true,decide_eq_true_eq]
 exact⟨⟨h1.1,h1.2.1⟩,⟨h1.2.2.1,h1.2.2.2.1⟩,zko h1.2.2.2.2 h2.2.2.2.2⟩
theorem zgd{f:Fr}(hf:frB f=true):∀ {J:List Fr},(∀ x ∈ J,frB x=true)->∀ x ∈ addR J f,frB x=true
 | [],_=>fun x hx=>by
  have hx:x ∈ [f]:=hx
  have:x=f:=by simpa using hx
  rw[this];exact hf
 | g :: l,h=>fun x hx=>by
  unfold addR at hx
  split at hx
  ·rcases List.mem_cons.1 hx with rfl|hx
   ·exact zjx (h g (by simp)) hf
   ·exact h x (by simp[hx])
  ·split at hx
   ·rcases List.mem_cons.1 hx with rfl|hx
    ·exact hf
    ·exact h x hx
   ·rcases List.mem_cons.1 hx with rfl|hx
    ·exact h x (by simp)
    ·exact zgd hf (fun y hy=>h y (by simp[hy])) x hx
theorem zh6{L:List Fr}:∀ {J:List Fr},(∀ x ∈ J,frB x=true)->(∀ x ∈ L,frB x=true)->∀ x ∈ L.foldl addR J,frB x=true:=by
 induction L with
 | nil=>intro J h _;exact h
 | cons f L ih=>intro J h h';exact ih (zgd (h' f (by simp)) h) fun x hx=>h' x (by simp[hx])
theorem zei:∀ {J:List Fr} {k:Ky} {l:List Int},lkJ J k=some l->∃ x ∈ J,fky x=k /\ x.2.2=l
 | x :: J,k,l,h=>by
  rw[z8v] at h
  by_cases hk:k=fky x
  ·rw[if_pos hk] at h
   exact⟨x,by simp,hk.symm,Option.some.inj h⟩
  ·rw[if_neg hk] at h
   obtain⟨y,h1,h2⟩:=zei h
   exact⟨y,by simp[h1],h2⟩
end Go.Proofs.YtbfnnllgdioccaaGreatDoor.C
end
section
open Go PvL Go.Proofs
set_option linter.unusedSimpArgs false
set_option linter.unusedVariables false
variable {μ:Md}
namespace Go.Proofs.YtbfnnllgdioccaaGreatDoor.C
theorem RkM.nil{M M':Mem}{r:Nat}(hN:New M r (.map [] [] 0) M'):RkM M' r []:=⟨[],[],0,At.new_same hN,⟨rfl,List.nodup_nil,fun _ h=>nomatch h⟩,.nil⟩
def GeB(N:Nat->Prop)(v:LV):Prop:=∀ i o n f e,v=.slice (some (i,o)) n f e->n ≠ 0->¬ N i
theorem GeB.vec{N:Nat->Prop}{b' sz:Nat}{ty:TypeId}{M:Mem}{v:LV}{l:List Int}(h:Vec b' sz ty intc M v l)(hb:∀ i,N i->i < b'):GeB N v:=fun i o n f e hv _=>by
 rcases h with⟨_,rfl⟩|⟨j,rfl,_,h3⟩
 ·cases hv
 ·cases hv;exact fun hN=>by have:=hb _ hN;omega
theorem SlV.ge{N N':Nat->Prop}{M:Mem}{v:LV}{l:List Int}(h:SlV M v l)(hg:GeB N v)(hb:∀ i,N' i->N i ∨ M.next<=i):GeB N' v:=fun i o n f e hv hn hN=>by
 have hg0:=hg i o n f e hv hn
 obtain⟨a,f',e',rfl,h0,h2⟩:=h
 cases hv
 rcases h2 with rfl|⟨i',o',h3,h4⟩
 ·exact absurd rfl hn
 ·cases h3
  have h5:=(h4 0 (by omega)).2
  rcases hb i hN with h6|h6
  ·exact hg0 h6
  ·omega
theorem SlV.keepb{N:Nat->Prop}{M M':Mem}{F:Nat->Prop}{v:LV}{l:List Int}(h:SlV M v l)(hg:GeB N v)(hk:Keep F M M')(hF:∀ i,F i->N i):SlV M' v l:=by
 obtain⟨a,f,e,rfl,h0,h2⟩:=h
 refine⟨a,f,e,rfl,h0,h2.imp id fun⟨i,o,h3,h4⟩=>⟨i,o,h3,fun k hk'=>(h4 k hk').keep hk (fun hf=>?_)⟩⟩
 exact hg i o _ _ _ (by rw[h3]) (by omega) (hF i hf)
theorem zm2{b:Nat->Prop}{L:Mk}{k:Ky}{v:LV}(h:∀ p ∈ L,GeB b p.2)(hv:GeB b v):∀ p ∈ stV L k v,GeB b p.2:=by
 induction L with
 | nil =>
  intro p hp
  obtain rfl:p=(k,v):=by simpa [stV] using hp
  exact hv
 | cons q L ih =>
  obtain⟨x,y⟩:=q
  intro p hp
  rw[zg8] at hp
  split at hp
  ·rcases List.mem_cons.1 hp with rfl|hp
   ·exact hv
   ·exact h p (List.mem_cons_of_mem _ hp)
  ·rcases List.mem_cons.1 hp with rfl|hp
   ·exact h _ List.mem_cons_self
   ·exact ih (fun p hp=>h p (List.mem_cons_of_mem _ hp)) p hp
def RkMb(b:Nat->Prop)(M:Mem)(r:Nat)(R:Rk):Prop:=∃ L bs clk,At M r (.map (encK L) bs clk) /\ StOk bs clk L.length /\ RkL M L R /\ ∀ p ∈ L,GeB b p.2
theorem RkL.keepb{b:Nat->Prop}{M M':Mem}{F:Nat->Prop}{L:Mk}{R:Rk}(h:RkL M L R)(hg:∀ p ∈ L,GeB b p.2)(hk:Keep F M M')(hF:∀ i,F i->b i):RkL M' L R:=by
 induction h with
 | nil=>exact .nil
 | cons h _ ih=>exact .cons (h.keepb (hg _ List.mem_cons_self) hk hF) (ih (fun p hp=>hg p (List.mem_cons_of_mem _ hp)))
theorem RkMb.keep{b:Nat->Prop}{M M':Mem}{F:Nat->Prop}{r:Nat}{R:Rk}(h:RkMb b M r R)(hk:Keep F M M')(hF:∀ i,F i->b i)(hr:¬ b r):RkMb b M' r R:=by
 obtain⟨L,bs,clk,h1,h2,h3,h4⟩:=h
 exact⟨L,bs,clk,hk.at h1 (fun hf=>hr (hF r hf)),h2,h3.keepb h4 hk hF,h4⟩
theorem RkMb.grow{b:Nat->Prop}{M M':Mem}{r:Nat}{R:Rk}(h:RkMb b M r R)(hg:Grow M M'):RkMb b M' r R:=by
 obtain⟨L,bs,clk,h1,h2,h3,h4⟩:=h
 exact⟨L,bs,clk,h1.grow hg,h2,h3.grow hg,h4⟩
theorem RkL.ge{b b':Nat->Prop}{M:Mem}{L:Mk}{R:Rk}(h:RkL M L R)(hg:∀ p ∈ L,GeB b p.2)(hb:∀ i,b' i->b i ∨ M.next<=i):∀ p ∈ L,GeB b' p.2:=by
 induction h with
 | nil=>exact fun _ h=>nomatch h
 | cons h _ ih =>
  intro p hp
  rcases List.mem_cons.1 hp with rfl|hp
  ·exact h.ge (hg _ List.mem_cons_self) hb
  ·exact ih (fun p hp=>hg p (List.mem_cons_of_mem _ hp)) p hp
theorem RkMb.ge{b b':Nat->Prop}{M:Mem}{r:Nat}{R:Rk}(h:RkMb b M r R)(hb:∀ i,b' i->b i ∨ M.next<=i):RkMb b' M r R:=by
 obtain⟨L,bs,clk,h1,h2,h3,h4⟩:=h
 exact⟨L,bs,clk,h1,h2,h3,h3.ge h4 hb⟩
theorem RkM.b{M:Mem}{r:Nat}{R:Rk}(h:RkM M r R):RkMb (fun _=>False) M r R:=by
 obtain⟨L,bs,clk,h1,h2,h3⟩:=h
 exact⟨L,bs,clk,h1,h2,h3,fun p _ i o n f e _ _ h=>h⟩
theorem RkMb.rk{b:Nat->Prop}{M:Mem}{r:Nat}{R:Rk}(h:RkMb b M r R):RkM M r R:=by
 obtain⟨L,bs,clk,h1,h2,h3,h4⟩:=h
 exact⟨L,bs,clk,h1,h2,h3⟩
section
variable {M M':Mem} {L:Mk} {R:Rk} {r:Nat} {k:Ky} {sz:Nat} {E:Env} {x y z':XO}
theorem zni{b0:Nat->Prop}{v:LV}{l:List Int}(h:RkMb b0 M r R)(hv:SlV M v l)(hvb:GeB b0 v)(hx:xval E x=some (.map (some r)))(hy:xval E y=some (kyv k))(hz:xval E z'=some v):∃ lb M',ze Tryz.prog (.mset 114 x y z') E M=some (.skip M') /\ Upd M r lb M' /\ RkMb b0 M' r (stK R k l):=by
 obtain⟨L,bs,clk,hm,hok,hL,hge⟩:=h
 have key:∀ R,(ob (findL Tryz.prog 114 (kyv k) (encK L) 0) fun p=>oe p
   (some (R1.skip (M.upd r (some (.map (encK L ++ [(kyv k,v)]) (bs ++ [clk]) (clk+1))))))
   (fun p=>pr p fun i q=>pr q fun k' _=>guard' (lvEq (kyv k) k') (some (.skip (M.upd r (some (.map (setVal (encK L) i (kyv k) v) bs clk)))))))=some R->ze Tryz.prog (.mset 114 x y z') E M=some R:=fun R hR=>by
  show ob (xval E x) _=_
  rw[hx,z0,hy,z0,hz,z0,zhi,z6]
  show atMap M r _=_
  unfold atMap
  rw[hm.1,z0]
  exact hR
 cases hl:lkM L k with
 | none =>
  obtain⟨h1,h2⟩:=z96 k L 0 hl
  refine⟨_,_,key _ (by rw[h1,z0];rfl),⟨rfl⟩,stV L k v,bs ++ [clk],clk+1,?_,?_,(hL.updm hm ⟨rfl⟩).put k (hv.updm hm ⟨rfl⟩),zm2 hge hvb⟩
  ·rw[<-h2 v]
   exact At.upd_same ⟨rfl⟩ hm
  ·refine⟨by rw[List.length_append,hok.len,zik,hl];rfl,?_,fun b hb=>?_⟩
   ·rw[List.nodup_append]
    exact⟨hok.nodup,by simp,fun a ha b hb=>by
     obtain rfl:b=clk:=by simpa using hb
     have:=hok.lt a ha;omega⟩
   ·rcases List.mem_append.1 hb with hb|hb
    ·have:=hok.lt b hb;omega
    ·obtain rfl:b=clk:=by simpa using hb
     omega
 | some b =>
  obtain⟨j,h1,h2⟩:=z97 k L 0 b hl
  refine⟨_,_,key (.skip (M.upd r (some (.map (setVal (encK L) j (kyv k) v) bs clk)))) (by
   rw[h1,z0,Nat.zero_add]
   show guard' (lvEq (kyv k) (kyv k)) _=_
   rw[z42,z6]),⟨rfl⟩,stV L k v,bs,clk,?_,⟨by rw[hok.len,zik,hl];rfl,hok.nodup,hok.lt⟩,(hL.updm hm ⟨rfl⟩).put k (hv.updm hm ⟨rfl⟩),zm2 hge hvb⟩
  rw[<-h2 v]
  exact At.upd_same ⟨rfl⟩ hm
end
section
variable {P:Program} [Orc P] {sz:Nat} {E:Env} {M:Mem} {K:Env->Mem->Prop} {l:List XG} {g:Option (Nat × Bool)} {st:List Mem} {n:Nat} {xs:List (Nat × Nat × (Mem->Prop))} {ld:List (XG × XK)} {x y z':XO} {r:Nat} {R:Rk} {k:Ky} {v:LV} {smp:List Int}
theorem zgz[Orc Tryz.prog](hg:GOn E g){b0:Nat->Prop}(hm:RkMb b0 M r R)(hv:SlV M v smp)(hvb:GeB b0 v)(hx:xval E x=some (.map (some r)))(hy:xval E y=some (kyv k))(hz:xval E z'=some v)
  (hk:∀ lb M',Upd M r lb M'->M'.next=M.next->RkMb b0 M' r (stK R k smp)->XD Tryz.prog sz ld E M' (M' :: st) (n+1) xs K):XD Tryz.prog sz ((⟨none,.mset 114 x y z',g⟩,.anchor) :: ld) E M st n xs K:=by
 obtain⟨lb,M',h1,h2,h3⟩:=zni hm hv hvb hx hy hz
 exact ziy hg h1 (hk lb M' h2 (by rw[h2.eq];exact Mem.next_upd _ _ _) h3)
end
set_option maxHeartbeats 8000000 in
theorem zoo{b0:Nat->Prop}{M:Mem}{r:Nat}{R:Rk}{a:Option (Nat × Nat)}{L:List Fr}{f:Bool}{e:Nat}(hR:RkMb b0 M r R)(hb0:∀ i,b0 i->i < M.next)(hs:FsV M a L)(hL:FrOk L)(hB:RkB R)(hln:L.length<=1000000) :
  za Tryz.prog 63 [.map (some r),.slice a L.length f e] M (fun _ M'=>RkMb b0 M' r (L.foldl rkA R) /\ Keep (fun i=>i=r) M M'):=by
 refine zd k63 rfl ?_
 dsimp only[x63,zM,zO,zI,zF,zS,zB,zL,zA,zE,zN,zW,zC,zipE,Nat.reduceAdd]
 repeat' first|with_reducible intro _|refine sv ?_|refine sc ?_ ?_<;>(intro h;try exact sz h)|refine sg ?_ ?_<;>(intro h;first|exact sz h|refine sy h ?_)|exact sq|fail
 refine z9 (fun z E ms M'=>∃(k:Nat),z=L.length - k /\ k<=L.length /\ ms=[] /\ Has E [(0,.map (some r)),(6,.slice a L.length f e),(7,I L.length),(8,I k)] /\ RkMb b0 M' r ((L.take k).foldl rkA R) /\ RkB ((L.take k).foldl rkA R) /\ FsV M' a L /\ Keep (fun i=>i=r) M M')
  ?_ (L.length - 0) _ _ _ ⟨0,rfl,Nat.zero_le _,rfl,.cons rfl (.cons rfl (.cons rfl (.cons rfl .nil))),hR,hB,hs,Keep.refl _ _⟩
 rintro z E ms M1 ⟨k,rfl,hk,rfl,hE,hR1,hB1,hs1,hk1⟩
 refine z0d hE ?_
 by_cases hlast:k=L.length
 ·subst hlast
  rw[List.take_length] at hR1
  repeat' first|with_reducible intro _|refine sv ?_|refine sc ?_ ?_<;>(intro h;try exact sz h)|refine sg ?_ ?_<;>(intro h;first|exact sz h|refine sy h ?_)|exact sq|fail
  refine kf ?_
  exact⟨hR1,hk1⟩
 have hlt:k < L.length:=by omega
 obtain⟨i,o,b,g,u,rfl,hr,hfv⟩:=hs1.rd hlt
 have hfo:=hL (fe L k) (by rw[z4v hlt];exact List.getElem_mem hlt)
 have hfl:=z68 hfo
 have hnext:(L.take (k+1)).foldl rkA R=rkA ((L.take k).foldl rkA R) (fe L k):=by rw[zfl hlt,z4v hlt]
 generalize hRk:(L.take k).foldl rkA R=R1 at *
 generalize hF:fe L k=F at *
 (have hrd0:=hr;repeat' (first|(with_reducible intro _)|refine sv ?_|(refine sc ?_ ?_<;>(intro h;try exact sz h))|refine sg ?_ ?_<;>(intro h;first|exact sz h|refine sy h ?_)|exact sq|fail))
 rename_i n2 M2 hN2 q2 q2' M3 hU3 q3 hA3
 have hg13:Grow M1 M3:=xg
 have hs3:=hs1.grow hg13
 have hR3:RkMb b0 M3 r R1:=hR1.grow (xg)
 have hfv3:=hfv.grow hg13
 have hkp3:Keep (fun i=>i=r) M M3:=xk
 clear hU3 hN2
 have ck:=fun M' (hg:Grow M3 M')=>zd4 (hfv3.grow hg)
 repeat' first|with_reducible intro _|refine sv ?_|refine sc ?_ ?_<;>(intro h;try exact sz h)|((with_reducible first|apply z1m|apply z1p|apply d_pure0);exact gd;exact rfl;exact rfl;(first|exact ck _ (xg)))|refine sg ?_ ?_<;>(intro h;first|exact sz h|refine sy h ?_)|exact sq|fail
 rename_i M4 hg4 q4 M5 hg5 q5
 have hg35:=hg4.trans hg5
 have hR5:=hR3.grow hg35
 have hs5:=hs3.grow hg35
 have hfv5:=hfv3.grow hg35
 have hA5:=At.grow hg35 hA3
 have hkp5:Keep (fun i=>i=r) M M5:=hkp3.grow hg35
 obtain⟨Lm,bs,clk,hm5,hok,hLm,hge⟩:=id hR5
 have hlk:=hLm.look (fky F)
 have hbl:=hB1 (fky F)
 have hst:rkA R1 F=stK R1 (fky F) (z0o ((lkK R1 (fky F)).getD []) F.2.2):=rfl
 generalize (lkK R1 (fky F)).getD []=old at *
 obtain⟨av,fv,ev,hve,hv1,hvs⟩:=hlk
 have lk5:∀ {E:Env} {x y:XO} (m:Mem),At m r (.map (encK Lm) bs clk)->xval E x=some (.map (some r))->xval E y=some (kyv (fky F))->ze Tryz.prog (.lkp 114 zsl false x y) E m=some (.val (.slice av old.length fv ev) m):=fun m hm hx hy=>by
  have:=zhs hm hx hy
  rw[hve] at this;exact this
 have hm3:At M4 n2 (.cells true [I F.1,I F.2.1,.slice b F.2.2.length g u] 48):=At.grow hg4 hA3
 refine z54 (by exact gd) (lk5 _ hm5 rfl rfl) (fun m=>At m r (.map (encK Lm) bs clk)) (fun m hm=>lk5 m hm rfl rfl) ?_
 obtain⟨_,_,_,hfe,hfs⟩:=id hfv5
 cases hfe
 have cb:=zli hvs hfs (by omega) (by omega) (fa:=fv) (ea:=ev) (fb:=g) (eb:=u)
 clear hg4 hg5
 (have hrd0:=z9s (Rd.of_at (i:=n2) (o:=0+2) hA5 rfl);repeat' (first|(with_reducible intro _)|refine sv ?_|(refine sc ?_ ?_<;>(intro h;try exact sz h))|((with_reducible first|apply zq|apply z0b|apply x_call0);exact gd;exact rfl;exact rfl;(first|exact cb))|refine sg ?_ ?_<;>(intro h;first|exact sz h|refine sy h ?_)|exact sq|fail))
 rename_i w6 M6 hq
 obtain⟨hv6,hg6⟩:=hq
 have hsv6:=SlV.vec hv6
 have hge6:GeB b0 w6:=GeB.vec hv6 (fun i hi=>Nat.lt_of_lt_of_le (hb0 i hi) hkp5.le)
 obtain⟨a6,f6,e6,rfl,hs6⟩:=SlI.vec hv6
 have hR6:=hR5.grow hg6
 have hFs6:=hs5.grow hg6
 have hm6:=At.grow hg6 hm5
 refine zgz (smp:=z0o old F.2.2) (k:=fky F) (by exact gd) hR6 hsv6 hge6 rfl rfl rfl ?_
 intro lb M7 hU7 e7 hR7
 have hk67:Keep (fun i=>i=r) M6 M7:=(Keep.refl _ _).upd hU7 (.inl rfl)
 have hFs7:=FsV.keepm hFs6 hm6 hk67
 have hk7:Keep (fun i=>i=r) M M7:=(hkp5.grow hg6).upd hU7 (.inl rfl)
 rw[<-hst] at hR7
 clear hU7
 repeat' first|with_reducible intro _|refine sv ?_|refine sc ?_ ?_<;>(intro h;try exact sz h)|refine sg ?_ ?_<;>(intro h;first|exact sz h|refine sy h ?_)|exact sq|fail
 exact zj (L.length - (k+1)) (by omega) ⟨k+1,rfl,by omega,rfl,.cons rfl (.cons rfl (.cons rfl (.cons rfl .nil))),by rw[hnext];exact hR7,by rw[hnext];exact hB1.add hfl.2,hFs7,hk7⟩
end Go.Proofs.YtbfnnllgdioccaaGreatDoor.C
end
section
open Go PvL Go.Proofs
set_option linter.unusedSimpArgs false
set_option linter.unusedVariables false
namespace Go.Proofs.YtbfnnllgdioccaaGreatDoor.C
abbrev bk:LV:=.iface 185 (.agg [])
abbrev rdr(s:ByteArray)(p:Nat):LB:=.cells true [.str s,I p] 120
abbrev RdQ{β:Type}(enc:β->LV)(a:Nat)(s:ByteArray)(r:Option (β × Nat))(M:Mem):LV->Mem->Prop:=RdOk enc a (rdr s) r M
abbrev RdN{β:Type}(a:Nat)(s:ByteArray)(r:Option (β × Nat))(M:Mem):LV->Mem->Prop:=RdNo a (rdr s) r bk M
abbrev encI(n:Nat):LV:=I n
def oneB(s:ByteArray)(p:Nat):Option (Nat × Nat):=if p < s.size then some (byteAt s p,p+1) else none
def twoB(s:ByteArray)(p:Nat):Option (Nat × Nat):=match oneB s p with|none=>none|some (a,p)=>match oneB s p with|none=>none|some (b,p)=>some (256*a+b,p)
theorem z93(q:Bool)(M:Mem):CallB Tryz.prog 120 [.bool q] M (MuOk q M) (MuNo q bk M):=by
 refine z2n k120 rfl ?_
 dsimp only[x120,zM,zO,zI,zF,zS,zB,zL,zA,zE,zN,zW,zC,zipE,Nat.reduceAdd]
 cases q with
 | true =>
  repeat' first|with_reducible intro _|refine svb ?_|(refine sc ?_ ?_<;>(intro h;try exact sz h))|(refine sgb ?_ ?_<;>(intro h;first|exact sz h|refine sy h ?_))|exact sq|fail
  refine kf ?_
  exact⟨rfl,rfl,rfl⟩
 | false =>
  repeat' first|with_reducible intro _|refine svb ?_|(refine sc ?_ ?_<;>(intro h;try exact sz h))|(refine sgb ?_ ?_<;>(intro h;first|exact sz h|refine sy h ?_))|exact sq|fail
  refine z3m gd (v:=bk) rfl ?_
  exact zob gd (v:=bk) rfl ⟨rfl,rfl,rfl⟩
theorem zqq(s:ByteArray)(hs:s.size<=1000000000000000)(p:Nat)(M:Mem):za Tryz.prog 147 [.str s,I p] M (fun w M'=>w=.tup [I (if p < s.size then(byteAt s p:Int) else 0),.bool (decide (p < s.size))] /\ M'=M):=by
 refine zd k147 rfl ?_
 dsimp only[x147,zM,zO,zI,zF,zS,zB,zL,zE,zN,zW,zC,zipE,Nat.reduceAdd]
 have hb2:=z2y s p
 by_cases hlt:p < s.size
 ·rw[if_pos hlt,decide_eq_true hlt]
  repeat' first|with_reducible intro _|refine sv ?_|refine sc ?_ ?_<;>(intro h;try exact sz h)|refine sg ?_ ?_<;>(intro h;first|exact sz h|refine sy h ?_)|exact sq|fail
  all_goals first|((refine kf ?_);exact⟨rfl,rfl⟩)|(exfalso;omega)
 ·rw[if_neg hlt,decide_eq_false hlt]
  repeat' first|with_reducible intro _|refine sv ?_|refine sc ?_ ?_<;>(intro h;try exact sz h)|refine sg ?_ ?_<;>(intro h;first|exact sz h|refine sy h ?_)|exact sq|fail
  all_goals first|((refine kf ?_);exact⟨rfl,rfl⟩)|(exfalso;omega)
theorem zgq{a:Nat}{s:ByteArray}{p:Nat}{M:Mem}(ha:At M a (rdr s p))(hs:s.size<=1000000000000000):CallB Tryz.prog 121 [.ptr (some (a,0))] M (RdQ encI a s (oneB s p) M) (RdN a s (oneB s p) M):=by
 refine z2n k121 rfl ?_
 dsimp only[x121,zM,zO,zI,zF,zS,zB,zL,zA,zE,zN,zW,zC,zipE,Nat.reduceAdd]
 repeat' first|with_reducible intro _|refine svb ?_|(refine sc ?_ ?_<;>(intro h;try exact sz h))|((with_reducible first|apply z0r|apply zbe);exact gd;exact rfl;exact rfl;(first|exact zqq s hs p M))|((with_reducible first|apply x_mu|apply b_mu);exact gd;exact rfl;exact rfl;(first|exact z93 _ _);infer_instance)|(refine sgb ?_ ?_<;>(intro h;first|exact sz h|refine sy h ?_))|exact sq|fail
 ·rename_i h
  exact⟨if_neg h,rfl,Keep.refl _ _,p,ha⟩
 ·rename_i h M' h1 h2 h3
  refine kf ?_
  rw[if_pos h]
  exact⟨byteAt s p,p+1,if_pos h,rfl,xk,h3⟩
theorem zjb{a b:Nat}(ha:a < 256):shlZ (a:Int) 8+(b:Int)=((256*a+b:Nat):Int):=by
 rw[shl8 (a:Int)];omega
theorem z8d{s:ByteArray}{p b q:Nat}(h:oneB s p=some (b,q)):p < s.size /\ b=byteAt s p /\ q=p+1:=by
 unfold oneB at h
 split at h
 ·cases h;exact⟨by assumption,rfl,rfl⟩
 ·cases h
theorem z2w{s:ByteArray}{p b q:Nat}(h:oneB s p=some (b,q)):b < 256:=by
 obtain⟨_,rfl,_⟩:=z8d h
 exact z2y s p
theorem zgs{a:Nat}{s:ByteArray}{p:Nat}{M:Mem}(ha:At M a (rdr s p))(hs:s.size<=1000000000000000):CallB Tryz.prog 148 [.ptr (some (a,0))] M (RdQ encI a s (twoB s p) M) (RdN a s (twoB s p) M):=by
 refine z2n k148 rfl ?_
 dsimp only[x148,zM,zO,zI,zF,zS,zB,zL,zE,zN,zW,zC,zipE,Nat.reduceAdd]
 repeat' first|with_reducible intro _|refine svb ?_|(refine sc ?_ ?_<;>(intro h;try exact sz h))|((with_reducible first|apply x_rd|apply b_rd);exact gd;exact rfl;exact rfl;(first|exact zgq (by assumption) hs))|(refine sgb ?_ ?_<;>(intro h;first|exact sz h|refine sy h ?_))|exact sq|fail
 ·rename_i h1 M1 h2 h3 q h4
  refine⟨?_,rfl,h2,q,h4⟩
  unfold twoB;rw[h1]
 rename_i b q h1 M1 h2 h3 h4
 have hb:=z2w h1
 have h8:=shl8 (b:Int)
 repeat' first|with_reducible intro _|refine svb ?_|(refine sc ?_ ?_<;>(intro h;try exact sz h))|(refine sgb ?_ ?_<;>(intro h;first|exact sz h|refine sy h ?_))|exact sq|fail
 refine x_rd gd rfl rfl (zgq h4 hs) ?_ ?_
 ·intro h5 M2 h6 h7 q2 h8
  refine⟨?_,rfl,h2.trans h6 (fun i hi=>.inl hi),q2,h8⟩
  unfold twoB;rw[h1];simp only;rw[h5]
 intro b2 q2 h5 M2 h6 h7 h9
 have hb2:=z2w h5
 repeat' first|with_reducible intro _|refine svb ?_|(refine sc ?_ ?_<;>(intro h;try exact sz h))|(refine sgb ?_ ?_<;>(intro h;first|exact sz h|refine sy h ?_))|exact sq|fail
 refine kf ?_
 refine⟨256*b+b2,q2,?_,?_,h2.trans h6 (fun i hi=>.inl hi),h9⟩
 ·unfold twoB;rw[h1];simp only;rw[h5]
 ·show I _=I _
  rw[zjb hb]
def codeS(s:ByteArray):Nat->Nat->Nat->Nat->Option (Nat × Nat)
 | 0,_,_,_=>none
 | j+1,p,n,u=>match oneB s p with
  | none=>none
  | some (b,q)=>if b < 128 then(if 0 < b ∨ u=1 then some (n+b % 128*u,q) else none) else codeS s j q (n+b % 128*u) (u*128)
def codeB(s:ByteArray)(p:Nat):Option (Nat × Nat):=codeS s 3 p 0 1
set_option maxHeartbeats 4000000 in
theorem zmn{a:Nat}{s:ByteArray}{p:Nat}{M:Mem}(ha:At M a (rdr s p))(hs:s.size<=1000000000000000):CallB Tryz.prog 172 [.ptr (some (a,0))] M (RdQ encI a s (codeB s p) M) (RdN a s (codeB s p) M):=by
 refine z2n k172 rfl ?_
 dsimp only[x172,zM,zO,zI,zF,zS,zB,zL,zE,zN,zW,zC,zipE,Nat.reduceAdd]
 repeat' first|with_reducible intro _|refine svb ?_|(refine sc ?_ ?_<;>(intro h;try exact sz h))|(refine sgb ?_ ?_<;>(intro h;first|exact sz h|refine sy h ?_))|exact sq|fail
 refine z9 (fun z E ms M1=>∃ j q n u,z=j /\ 1<=j /\ j<=3 /\ ms=[] /\ (u:Nat)=128 ^ (3 - j) /\ n < u /\ codeB s p=codeS s j q n u /\ Keep (fun i=>i=a) M M1 /\ At M1 a (rdr s q) /\ Has E [(0,.ptr (some (a,0))),(3,I (n:Nat)),(4,I u)])
  ?_ 3 _ _ _ ⟨3,p,0,1,rfl,by omega,by omega,rfl,rfl,by omega,rfl,Keep.refl _ _,ha,.cons rfl (.cons rfl (.cons rfl .nil))⟩
 rintro z E ms M1 ⟨j,q,n,u,rfl,h1,h3,rfl,hu,hn,hc,hk,ha1,hE⟩
 refine z0d hE ?_
 obtain⟨j,rfl⟩:∃ i,z=i+1:=⟨z - 1,by omega⟩
 have hu3:j=2 /\ u=1 ∨ j=1 /\ u=128 ∨ j=0 /\ u=16384:=by
  have:j=0 ∨ j=1 ∨ j=2:=by omega
  rcases this with rfl|rfl|rfl<;>simp at hu<;>omega
 unfold codeS at hc
 repeat' first|with_reducible intro _|refine svb ?_|(refine sc ?_ ?_<;>(intro h;try exact sz h))|(refine sgb ?_ ?_<;>(intro h;first|exact sz h|refine sy h ?_))|exact sq|fail
 refine x_rd gd rfl rfl (zgq ha1 hs) ?_ ?_
 ·intro g1 M2 g2 g3 q2 g4
  refine⟨?_,rfl,hk.trans g2 (fun i hi=>.inl hi),q2,g4⟩
  rw[hc,g1]
 intro b q2 g1 M2 g2 g3 g4
 have hb:=z2w g1
 rw[g1] at hc
 simp only at hc
 have hbu:(b % 128*u:Nat)<=127*u:=Nat.mul_le_mul_right _ (by omega)
 have e1:((b:Int) % 128)=((b % 128:Nat):Int):=by omega
 have e2:((b:Int) % 128)*(u:Int)=((b % 128*u:Nat):Int):=by rw[e1];push_cast;rfl
 have hk2:Keep (fun i=>i=a) M M2:=hk.trans g2 (fun i hi=>.inl hi)
 clear hk g2 g3 ha1 ha
 repeat' first|with_reducible intro _|refine svb ?_|(refine sc ?_ ?_<;>(intro h;try exact sz h))|((with_reducible first|apply x_mu|apply b_mu);exact gd;exact rfl;exact rfl;(first|exact z93 _ _);infer_instance)|(refine sgb ?_ ?_<;>(intro h;first|exact sz h|refine sy h ?_))|exact sq|fail
 all_goals first
  |(exfalso;assumption)
  |(refine⟨?_,rfl,hk2,q2,g4⟩;rw[hc,if_pos (by omega),if_neg (by omega)])
  |(refine⟨?_,rfl,hk2,q2,g4⟩;rw[hc,if_neg (by omega)];obtain rfl:j=0:=(by omega);rfl)
  |((refine kf ?_);refine⟨n+b % 128*u,q2,?_,?_,hk2,g4⟩
    ·rw[hc,if_pos (by omega),if_pos (by omega)]
    ·show I _=I _
     rw[e2];rfl)
  |(refine zj j (by omega) ⟨j,q2,n+b % 128*u,u*128,rfl,by omega,by omega,rfl,?_,?_,?_,hk2,g4,.cons rfl (.cons ?_ (.cons ?_ .nil))⟩
    ·rw[hu,<- Nat.pow_succ];congr 1;omega
    ·have:=Nat.mul_le_mul_right u (show b % 128<=127 by omega);omega
    ·rw[hc,if_neg (by omega)]
    ·show some (I _)=some (I _)
     rw[e2];push_cast;rfl
    ·show some (I _)=some (I _)
     push_cast;rfl)
