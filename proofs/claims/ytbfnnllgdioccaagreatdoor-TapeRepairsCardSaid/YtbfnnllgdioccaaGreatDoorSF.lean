/-
 Part of the proof of TapeRepairs. No condition beyond those in each theorem.
-/
import Derived.Test.YtbfnnllgdioccaaGreatDoorSE
import Derived.Test.YtbfnnllgdioccaaGreatDoorSD
import Derived.Test.YtbfnnllgdioccaaGreatDoorSB
import Derived.Test.YtbfnnllgdioccaaGreatDoorTW
section
open Go PvL Go.Proofs
set_option linter.unusedSimpArgs false
set_option linter.unusedVariables false
variable {μ:Md}
namespace Go.Proofs.YtbfnnllgdioccaaGreatDoor.C
def NV(v:LV)(i:Nat):Prop:=∃ o n f e,v=.slice (some (i,o)) n f e
theorem Vec.keepN{α:Type}{b sz:Nat}{ty:TypeId}{enc:α->List LV}{M M':Mem}{v:LV}{l:List α}{F:Nat->Prop}(h:Vec b sz ty enc M v l)(hk:Keep F M M')(hF:∀ i,F i->¬ NV v i):Vec b sz ty enc M' v l :=
 h.imp id fun⟨i,h1,h2,h3⟩=>⟨i,h1,hk.at h2 (fun hf=>hF i hf ⟨_,_,_,_,h1⟩),h3⟩
theorem NV.lt{α:Type}{b sz:Nat}{ty:TypeId}{enc:α->List LV}{M:Mem}{v:LV}{l:List α}(h:Vec b sz ty enc M v l){i:Nat}(hi:NV v i):i < M.next:=by
 obtain⟨o,n,f,e,h1⟩:=hi
 exact Vec.blt h h1
theorem NV.nil{n:Nat}{f:Bool}{e i:Nat}:¬ NV (.slice none n f e) i:=fun⟨o,n,f,e,h⟩=>by cases h
theorem NV.some{j o n:Nat}{f:Bool}{e i:Nat}(h:NV (.slice (some (j,o)) n f e) i):i=j:=by
 obtain⟨_,_,_,_,h⟩:=h
 cases h;rfl
def whRB(s:ByteArray):Nat->Nat->List Fr->List Bd->List Fr × List Bd
 | 0,_,F,L=>(F,L)
 | k+1,p,F,L=>if p < s.size then(match fdR s p with
  | some (x,q)=>whRB s k q (F ++ [x]) L
  | none=>whRB s k (p+1) F (lostA L p)) else(F,L)
def whRA(s:ByteArray):List Fr × List Bd:=whRB s s.size 0 [] []
theorem zp4{s:ByteArray}{p:Nat}{x:Fr}{q:Nat}(h:fdR s p=some (x,q)):frB x=true /\ p < q /\ q<=s.size:=by
 unfold fdR at h
 split at h
 ·split at h
  ·cases h
  ·rename_i l hl
   simp only at h
   split at h
   ·rename_i hc
    cases h
    refine⟨hc.1,?_,hc.2.1⟩
    have:0 <(pkL ((((256*byteAt s (p+2)+byteAt s (p+3):Nat)):Int),((byteAt s (p+4):Nat):Int),l)).length:=by
     unfold pkL chkL bodyL hdL
     simp only[List.length_append,List.length_cons]
     omega
    omega
   ·cases h
 ·cases h
def WhQ(r:List Fr × List Bd)(M:Mem)(w:LV)(M':Mem):Prop:=∃ v1 v2 xs,w=.tup [v1,v2] /\ Vec M.next 3 48 fwc M' v1 xs /\ FwLN (fun i=>i < M.next) M' xs r.1 /\ Vec M.next 2 65 bdc M' v2 r.2 /\ Grow M M'
set_option maxHeartbeats 16000000 in
theorem zjj{s:ByteArray}{M:Mem}(hs:s.size<=1000000) :
  z9 Tryz.prog 78 [.str s] M (WhQ (whRA s) M):=by
 refine zb k78 rfl ?_
 dsimp only[x78,zM,zO,zI,zF,zS,zB,zL,zA,zE,zN,zW,zC,zipE,Nat.reduceAdd]
 repeat' first|with_reducible intro _|refine sv ?_|refine sc ?_ ?_<;>(intro h;try exact sz h)|refine sg ?_ ?_<;>(intro h;first|exact sz h|refine sy h ?_)|exact sq|fail
 refine z8 (fun z E ms M'=>∃(p k:Nat) (F:List Fr) (L:List Bd) (xs:List FW) (v1 v2:LV),z=s.size - p /\ p<=s.size /\ s.size - p<=k /\ ms=[] /\ Has E [(0,.str s),(4,v1),(5,v2),(6,I p)] /\
   Vec M.next 3 48 fwc M' v1 xs /\ FwLN (fun i=>NV v1 i ∨(NV v2 i ∨ i < M.next)) M' xs F /\ Vec M.next 2 65 bdc M' v2 L /\ (∀ i,NV v1 i->¬ NV v2 i) /\ F.length<=p /\ L.length<=p /\ (∀ y ∈ L,-1000000<=y.2 /\ y.2<=1000000) /\ Grow M M' /\ whRA s=whRB s k p F L)
  ?_ s.size _ _ _ ⟨0,s.size,[],[],[],_,_,rfl,Nat.zero_le _,by omega,rfl,.cons rfl (.cons rfl (.cons rfl (.cons rfl .nil))),Vec.nil,.nil,Vec.nil,(fun i h=>absurd h NV.nil),Nat.le_refl _,Nat.le_refl _,(fun _ h=>nomatch h),Grow.refl _,rfl⟩
 rintro z E ms N ⟨p,k,F,L,xs,v1,v2,rfl,hp,hk,rfl,hE,hv1,hx1,hv2,hd,hF1,hL1,hLb,hg,hw⟩
 refine zy hE ?_
 have hgl:=hg.le
 by_cases hlast:p=s.size
 ·subst hlast
  have hw2:whRA s=(F,L):=by
   rw[hw]
   cases k with
   | zero=>rfl
   | succ k=>unfold whRB;rw[if_neg (by omega)]
  repeat' first|with_reducible intro _|refine sv ?_|refine sc ?_ ?_<;>(intro h;try exact sz h)|refine sg ?_ ?_<;>(intro h;first|exact sz h|refine sy h ?_)|exact sq|fail
  refine kf ?_
  rw[hw2]
  exact⟨v1,v2,xs,rfl,hv1,hx1.ge (fun i hi=>.inl (.inr (.inr hi))),hv2,hg⟩
 have hlt:p < s.size:=by omega
 obtain⟨k,rfl⟩:∃ j,k=j+1:=⟨k - 1,by omega⟩
 rw[show whRB s (k+1) p F L=(if p < s.size then(match fdR s p with
  | some (x,q)=>whRB s k q (F ++ [x]) L
  | none=>whRB s k (p+1) F (lostA L p)) else(F,L)) from rfl,if_pos hlt] at hw
 have hxl:xs.length=F.length:=hx1.l.len
 repeat' first|with_reducible intro _|refine sv ?_|refine sc ?_ ?_<;>(intro h;try exact sz h)|refine sg ?_ ?_<;>(intro h;first|exact sz h|refine sy h ?_)|exact sq|fail
 refine zx gd rfl rfl (zmk hs hlt) ?_
 rintro w N1 ⟨hr,hg1⟩
 have hg1l:=hg1.le
 have hv1':=hv1.grow hg1
 have hv2':=hv2.grow hg1
 have hx1':=hx1.keep (hg1.to_keep (fun _=>False)) (fun _ h=>h.elim)
 have hgg:=hg.trans hg1
 cases hfd:fdR s p with
 | some xq =>
  obtain⟨x,q⟩:=xq
  rw[hfd] at hr hw
  obtain⟨sv,rfl,hsv⟩:=hr
  simp only at hw
  have hxo:=zp4 hfd
  obtain⟨aa,ff,ee,rfl,hfn⟩:=FwN.vec (N:=fun i=>NV v1 i ∨(NV v2 i ∨ i < M.next)) hsv (fun i hi=>hi.elim (fun h=>NV.lt hv1 h) (fun h=>h.elim (fun h=>NV.lt hv2 h) (fun h=>by omega)))
  clear hv1 hv2 hx1 hE
  repeat' first|with_reducible intro _|refine sv ?_|refine sc ?_ ?_<;>(intro h;try exact sz h)|refine sg ?_ ?_<;>(intro h;first|exact sz h|refine sy h ?_)|exact sq|fail
  rename_i fc N2 A1 A2 A3 N3 A4 A5 A6 n4 N4 A7 A8 A9
  have hg4:Grow N1 N4:=xg
  have hv14:=hv1'.grow hg4
  have hv24:=hv2'.grow hg4
  have hx4:=(hx1'.snoc hfn).keep (hg4.to_keep (fun _=>False)) (fun _ h=>h.elim)
  have hfw:=zea (x:=(fky x,aa,x.2.2.length,ff,ee)) A7
  have hgM:=hgg.trans hg4
  have hgMl:=hgM.le
  clear A1 A4 A7
  refine z2e (by exact gd) (l':=[((fky x,aa,x.2.2.length,ff,ee):FW)]) hv14 rfl rfl rfl (by simp) (by rw[hxl];simp;omega) rfl hfw (fun _=>rfl) (fun _=>rfl) hgMl ?_
  rintro v8 M8 hv8 e8 k8 ⟨n8,f8,q8,rfl⟩
  have hv28:=Vec.keepN hv24 k8 (fun i hi=>hd i hi.2)
  repeat' first|with_reducible intro _|refine sv ?_|refine sc ?_ ?_<;>(intro h;try exact sz h)|refine sg ?_ ?_<;>(intro h;first|exact sz h|refine sy h ?_)|exact sq|fail
  refine zd (s.size - q) (by omega) ⟨q,k,F ++ [x],L,xs ++ [((fky x,aa,x.2.2.length,ff,ee):FW)],_,v2,rfl,hxo.2.2,by omega,rfl,.cons rfl (.cons rfl (.cons rfl (.cons rfl .nil))),hv8,?_,hv28,?_,by simp;omega,by omega,hLb,Keep.to_grow' hgM k8 (fun i hi=>hi.1),hw⟩
  ·refine(((hx4.ge (N':=fun i=>(NV v1 i ∨(NV v2 i ∨ i < M.next)) ∨ i=N4.next) (fun i hi=>hi.imp id fun h=>by omega)).keep k8 (fun i hi=>.inl (.inl hi.2)))).ge (fun i hi=>.inl ?_)
   rcases hi with h|h
   ·exact .inr (NV.some h)
   ·exact .inl (.inr h)
  ·intro i hi h2
   have:=NV.some hi
   have:=NV.lt hv24 h2
   omega
 | none =>
  rw[hfd] at hr hw
  have hr:w=.tup [zFrv,I 0,.bool false]:=hr
  subst hr
  simp only at hw
  clear hv1 hv2 hx1 hE
  have hk1:s.size - (p+1)<=k:=by omega
  rcases List.eq_nil_or_concat L with rfl|⟨D,y,rfl⟩
  ·obtain⟨va,vf,ve,rfl⟩:=hv2'.shape
   repeat' first|with_reducible intro _|refine sv ?_|refine sc ?_ ?_<;>(intro h;try exact sz h)|refine sg ?_ ?_<;>(intro h;first|exact sz h|refine sy h ?_)|exact sq|fail
   all_goals first|(exfalso;omega)|skip
   rename_i fc N2 A1 A2 A3 N3 A4 A5 A6 n4 N4 A7 A8 A9
   have hg4:Grow N1 N4:=xg
   have hv14:=hv1'.grow hg4
   have hv24:=hv2'.grow hg4
   have hx4:=hx1'.keep (hg4.to_keep (fun _=>False)) (fun _ h=>h.elim)
   have hbf:=z74 (x:=((p:Int),(p:Int))) A7
   have hgM:=hgg.trans hg4
   have hgMl:=hgM.le
   clear A1 A4 A7
   refine z2e (by exact gd) (l':=[((p:Int),(p:Int))]) hv24 rfl rfl rfl (by simp) (by simp) rfl hbf (fun _=>rfl) (fun _=>rfl) hgMl ?_
   rintro v8 M8 hv8 e8 k8 ⟨n8,f8,q8,rfl⟩
   have hv18:=Vec.keepN hv14 k8 (fun i hi h=>hd i h hi.2)
   repeat' first|with_reducible intro _|refine sv ?_|refine sc ?_ ?_<;>(intro h;try exact sz h)|refine sg ?_ ?_<;>(intro h;first|exact sz h|refine sy h ?_)|exact sq|fail
   refine zd (s.size - (p+1)) (by omega) ⟨p+1,k,F,lostA [] p,xs,v1,_,rfl,by omega,hk1,rfl,.cons rfl (.cons rfl (.cons rfl (.cons rfl .nil))),hv18,?_,hv8,?_,by omega,?_,?_,Keep.to_grow' hgM k8 (fun i hi=>hi.1),hw⟩
   ·refine(((hx4.ge (N':=fun i=>(NV v1 i ∨(NV (.slice va ([]:List Bd).length vf ve) i ∨ i < M.next)) ∨ i=N4.next) (fun i hi=>hi.imp id fun h=>by omega)).keep k8 (fun i hi=>.inl (.inr (.inl hi.2))))).ge (fun i hi=>.inl ?_)
    rcases hi with h|h|h
    ·exact .inl (.inl h)
    ·exact .inr (NV.some h)
    ·exact .inl (.inr (.inr h))
   ·intro i hi h2
    have:=NV.some h2
    have:=NV.lt hv14 hi
    omega
   ·show 1<=p+1;omega
   ·intro y hy
    obtain rfl:y=((p:Int),(p:Int)):=by simpa [lostA] using hy
    show -1000000<=(p:Int) /\ (p:Int)<=1000000
    omega
  ·rw[List.concat_eq_append] at *
   rcases hv2' with⟨h0,_⟩|⟨i,hveq,hvi,hib⟩
   ·simp at h0
   subst hveq
   have hlen:(D ++ [y]).length=D.length+1:=by simp
   have hyb:=hLb y (by simp)
   have hnn:Int.toNat (((D ++ [y]).length:Int) - 1)=D.length:=by rw[hlen];omega
   have hset:z0k ((D ++ [y]).flatMap bdc) (0+Int.toNat (((D ++ [y]).length:Int) - 1)*2) [I y.1,I p]=some ((D ++ [(y.1,(p:Int))]).flatMap bdc):=by
    rw[hnn,List.flatMap_append,List.flatMap_append]
    have:=z3p (D.flatMap bdc) [I y.1,I y.2] [I y.1,I p] 0 [I y.1,I p] rfl (by simp)
    have hl2:(D.flatMap bdc).length=D.length*2:=z12 (enc:=bdc) (fun _ _=>rfl)
    rw[hl2] at this
    rw[Nat.zero_add];exact this
   have hla:lostA (D ++ [y]) p=if y.2=(p:Int) - 1 then D ++ [(y.1,(p:Int))] else(D ++ [y]) ++ [((p:Int),(p:Int))]:=by
    unfold lostA
    rw[List.getLast?_concat]
    simp only[List.dropLast_concat]
   repeat' first|with_reducible intro _|refine sv ?_|refine sc ?_ ?_<;>(intro h;try exact sz h)|refine sg ?_ ?_<;>(intro h;first|exact sz h|refine sy h ?_)|exact sq|fail
   all_goals first|(exfalso;omega)|skip
   rename_i n0 N2 A1 A2 A3 N3 A4 A5 A6 hh
   have hg3:Grow N1 N3:=xg
   have hi1:i < N1.next:=hvi.2
   have hvi3:=hvi.grow hg3
   have hrdN:=z1v (enc:=bdc) (sz:=2) hvi3 (fun _ _=>rfl) (k:=D.length) (by omega)
   have hyD:(D ++ [y])[D.length]'(by omega)=y:=by simp
   rw[hyD] at hrdN
   have hrd:Rd1 N3 i (0+Int.toNat (((D ++ [y]).length:Int) - 1)*2+1) (I y.2):=by
    rw[hnn]
    exact Rd.nth (j:=1) hrdN rfl
   have hrd0:Rd1 N3 i (0+Int.toNat (((D ++ [y]).length:Int) - 1)*2+0) (I y.1):=by
    rw[hnn]
    exact Rd.nth (j:=0) hrdN rfl
   have hv13:=hv1'.grow hg3
   have hv23:Vec M.next 2 65 bdc N3 (.slice (some (i,0)) (D ++ [y]).length false 2) (D ++ [y]):=.inr ⟨i,rfl,hvi3,hib⟩
   have hx3:=hx1'.keep (hg3.to_keep (fun _=>False)) (fun _ h=>h.elim)
   have hgM:=hgg.trans hg3
   have hgMl:=hgM.le
   clear A1 A4
   refine x_l1 (by exact gd) rfl hrd ?_
   repeat' first|with_reducible intro _|refine sv ?_|refine sc ?_ ?_<;>(intro h;try exact sz h)|refine sg ?_ ?_<;>(intro h;first|exact sz h|refine sy h ?_)|exact sq|fail
   ·refine x_st (by exact gd) rfl rfl hvi3 rfl rfl hset ?_
    intro N7 D1 D2 D3
    have hu7:Keep (fun j=>j=i) N3 N7:=(Keep.refl (fun j=>j=i) N3).upd D1 (.inl rfl)
    have hNi:NV (.slice (some (i,0)) (D ++ [y]).length false 2) i:=⟨_,_,_,_,rfl⟩
    repeat' first|with_reducible intro _|refine sv ?_|refine sc ?_ ?_<;>(intro h;try exact sz h)|refine sg ?_ ?_<;>(intro h;first|exact sz h|refine sy h ?_)|exact sq|fail
    refine zd (s.size - (p+1)) (by omega) ⟨p+1,k,F,D ++ [(y.1,(p:Int))],xs,v1,_,rfl,by omega,hk1,rfl,.cons rfl (.cons rfl (.cons rfl (.cons rfl .nil))),Vec.keepN hv13 hu7 (fun j hj h=>by subst hj;exact hd _ h hNi),hx3.keep hu7 (fun j hj=>.inr (.inl (by subst hj;exact hNi))),.inr ⟨i,by rw[hlen,show(D ++ [(y.1,(p:Int))]).length=D.length+1 by simp],D3,hib⟩,hd,by omega,?_,?_,hgM.upd D1 hib,?_⟩
    ·rw[show(D ++ [(y.1,(p:Int))]).length=D.length+1 by simp];omega
    ·intro z hz
     rcases List.mem_append.1 hz with hz|hz
     ·exact hLb z (by simp[hz])
     ·rw[List.mem_singleton.1 hz]
      show -1000000<=(p:Int) /\ (p:Int)<=1000000
      omega
    ·rw[hw,hla,if_pos ‹y.2=_›]
   ·rename_i n7 N7 C4 C5 C6
    have hv17:=hv13.grow C4.grow
    have hv27:=hv23.grow C4.grow
    have hx7:=hx3.keep (C4.grow.to_keep (fun _=>False)) (fun _ h=>h.elim)
    have hgM7:=hgM.trans C4.grow
    have hgM7l:=hgM7.le
    have hbf:=z74 (x:=((p:Int),(p:Int))) C4
    clear C4
    refine z2e (by exact gd) (l':=[((p:Int),(p:Int))]) hv27 rfl rfl rfl (by simp) (by rw[hlen];simp;omega) rfl hbf (fun _=>rfl) (fun _=>rfl) hgM7l ?_
    rintro v8 M8 hv8 e8 k8 ⟨n8,f8,q8,rfl⟩
    have hv18:=Vec.keepN hv17 k8 (fun i hi h=>hd i h hi.2)
    repeat' first|with_reducible intro _|refine sv ?_|refine sc ?_ ?_<;>(intro h;try exact sz h)|refine sg ?_ ?_<;>(intro h;first|exact sz h|refine sy h ?_)|exact sq|fail
    refine zd (s.size - (p+1)) (by omega) ⟨p+1,k,F,(D ++ [y]) ++ [((p:Int),(p:Int))],xs,v1,_,rfl,by omega,hk1,rfl,.cons rfl (.cons rfl (.cons rfl (.cons rfl .nil))),hv18,?_,hv8,?_,by omega,?_,?_,Keep.to_grow' hgM7 k8 (fun i hi=>hi.1),?_⟩
    ·refine(((hx7.ge (N':=fun j=>(NV v1 j ∨(NV (.slice (some (i,0)) (D ++ [y]).length false 2) j ∨ j < M.next)) ∨ j=N7.next) (fun i hi=>hi.imp id fun h=>by omega)).keep k8 (fun i hi=>.inl (.inr (.inl hi.2))))).ge (fun i hi=>.inl ?_)
     rcases hi with h|h|h
     ·exact .inl (.inl h)
     ·exact .inr (NV.some h)
     ·exact .inl (.inr (.inr h))
    ·intro j hj h2
     have:=NV.some h2
     have:=NV.lt hv17 hj
     omega
    ·rw[List.length_append,hlen];simp;omega
    ·intro z hz
     rcases List.mem_append.1 hz with hz|hz
     ·exact hLb z hz
     ·rw[List.mem_singleton.1 hz]
      show -1000000<=(p:Int) /\ (p:Int)<=1000000
      omega
    ·rw[hw,hla,if_neg ‹¬ y.2=_›]
end Go.Proofs.YtbfnnllgdioccaaGreatDoor.C
end
section
open Go PvL Go.Proofs
set_option linter.unusedSimpArgs false
set_option linter.unusedVariables false
namespace Go.Proofs.YtbfnnllgdioccaaGreatDoor.C
def Mt(s:ByteArray):Nat->List UInt8->Prop
 | _,[]=>True
 | p,b :: l=>p < s.size /\ byteAt s p=b.toNat /\ Mt s (p+1) l
theorem Mt.app{s:ByteArray}:∀ {p:Nat} {a b:List UInt8},Mt s p (a ++ b) ↔ Mt s p a /\ Mt s (p+a.length) b
 | p,[],b=>by simp[Mt]
 | p,x :: a,b=>by
  show(p < s.size /\ byteAt s p=x.toNat /\ Mt s (p+1) (a ++ b)) ↔(p < s.size /\ byteAt s p=x.toNat /\ Mt s (p+1) a) /\ Mt s (p+(a.length+1)) b
  rw[Mt.app (p:=p+1),show p+(a.length+1)=p+1+a.length by omega]
  constructor
  ·rintro⟨h1,h2,h3,h4⟩;exact⟨⟨h1,h2,h3⟩,h4⟩
  ·rintro⟨⟨h1,h2,h3⟩,h4⟩;exact⟨h1,h2,h3,h4⟩
theorem Mt.le{s:ByteArray}:∀ {p:Nat} {l:List UInt8},p<=s.size->Mt s p l->p+l.length<=s.size
 | p,[],hp,_=>hp
 | p,x :: l,hp,h=>by
  have:=Mt.le (l:=l) (show p+1<=s.size from h.1) h.2.2
  rw[List.length_cons];omega
theorem zfz{s:ByteArray}{p:Nat}(h:p < s.size):s.data.toList[p]'h=u8 (byteAt s p):=by
 unfold byteAt u8
 have:s.data.toList.getD p 0=s.data.toList[p]'h:=by rw[List.getD_eq_getElem?_getD,List.getElem?_eq_getElem h];rfl
 rw[this]
 simp
theorem zby(s:ByteArray)(p q:Nat):(s.extract p q).data.toList=(s.data.toList.drop p).take (q - p):=by
 rw[ByteArray.data_extract,Array.toList_extract]
theorem Mt.drop{s:ByteArray}:∀ {p:Nat} {l:List UInt8},p<=s.size->(Mt s p l ↔(s.data.toList.drop p).take l.length=l)
 | p,[],hp=>by simp[Mt]
 | p,x :: l,hp=>by
  by_cases hlt:p < s.size
  ·have hd:s.data.toList.drop p=u8 (byteAt s p) :: s.data.toList.drop (p+1):=by
    rw[<-zfz hlt];exact List.drop_eq_getElem_cons hlt
   rw[hd,List.length_cons,List.take_succ_cons]
   have ih:=Mt.drop (s:=s) (p:=p+1) (l:=l) hlt
   constructor
   ·rintro⟨_,h2,h3⟩
    rw[ih.1 h3,h2]
    unfold u8;simp
   ·intro h
    injection h with h1 h2
    exact⟨hlt,by rw[<-h1,u8_n (z0p s p)],ih.2 h2⟩
  ·obtain rfl:p=s.size:=by omega
   constructor
   ·intro h;exact absurd h.1 hlt
   ·intro h
    rw[List.drop_of_length_le (by show s.size<=s.size;omega)] at h
    cases h
theorem zif(s:ByteArray):strL s.data.toList=s:=by
 unfold strL
 apply ByteArray.ext
 simp
theorem Mt.ext{s:ByteArray}{p:Nat}{l:List UInt8}(hp:p<=s.size):Mt s p l ↔ p+l.length<=s.size /\ s.extract p (p+l.length)=strL l:=by
 constructor
 ·intro h
  refine⟨h.le hp,?_⟩
  have h1:=(Mt.drop hp).1 h
  rw[<-zif (s.extract p (p+l.length)),zby,show p+l.length - p=l.length by omega,h1]
 ·rintro⟨h1,h2⟩
  refine(Mt.drop hp).2 ?_
  have this:(s.extract p (p+l.length)).data.toList=(strL l).data.toList:=by rw[h2]
  rw[zby,show p+l.length - p=l.length by omega] at this
  rw[this];rfl
theorem zce{s:ByteArray}{p b q:Nat}(h:oneB s p=some (b,q)):Mt s p [u8 b] /\ q=p+1:=by
 obtain⟨h1,h2,h3⟩:=z8d h
 subst h2
 exact⟨⟨h1,by rw[u8_n (z0p s p)],trivial⟩,h3⟩
theorem z9n{s:ByteArray}{p:Nat}{b:UInt8}{l:List UInt8}(h:Mt s p (b :: l)):oneB s p=some (b.toNat,p+1):=by
 unfold oneB
 rw[if_pos h.1,h.2.1]
theorem zii{s:ByteArray}{p n q:Nat}(h:twoB s p=some (n,q)):Mt s p (twoL n) /\ q=p+2 /\ n < 65536:=by
 have hle:=z6h h
 unfold twoB at h
 split at h
 ·cases h
 ·rename_i a p1 h1
  split at h
  ·cases h
  ·rename_i b p2 h2
   cases h
   obtain⟨g1,rfl⟩:=zce h1
   obtain⟨g2,rfl⟩:=zce h2
   have:=z30 h1
   have:=z30 h2
   refine⟨?_,rfl,hle.2.2⟩
   unfold twoL
   rw[show(256*a+b) / 256=a by omega,show(256*a+b) % 256=b by omega]
   exact⟨g1.1,g1.2.1,g2.1,g2.2.1,trivial⟩
theorem zhr{s:ByteArray}{p n:Nat}(hn:n < 65536)(h:Mt s p (twoL n)):twoB s p=some (n,p+2):=by
 unfold twoB
 have h1:=z9n (l:=[u8 (n % 256)]) h
 have h2:=z9n (l:=[]) h.2.2
 rw[h1];simp only;rw[h2];simp only
 rw[u8_n (by omega),u8_n (by omega)]
 congr 2;omega
theorem zox{s:ByteArray}:∀(j p n u:Nat) {c q:Nat},codeS s j p n u=some (c,q)->1<=u->∃ m,c=n+m*u /\ q=p+(cdN m).length /\ Mt s p (cdN m) /\ (0 < m ∨ u=1) /\ m < 128 ^ j
 | 0,p,n,u,c,q,h,_=>by cases h
 | j+1,p,n,u,c,q,h,hu=>by
  unfold codeS at h
  split at h
  ·cases h
  ·rename_i b p' hb
   obtain⟨g1,rfl⟩:=zce hb
   have hb256:=z30 hb
   split at h
   ·rename_i h128
    split at h
    ·rename_i hz
     cases h
     refine⟨b,by rw[Nat.mod_eq_of_lt h128],by rw[z95 h128];rfl,by rw[z95 h128];exact g1,hz,?_⟩
     have:128<=128 ^ (j+1):=by rw[Nat.pow_succ];exact Nat.le_mul_of_pos_left _ (Nat.pow_pos (by omega))
     omega
    ·cases h
   ·obtain⟨m,e1,e2,e3,e4,e5⟩:=zox j (p+1) _ _ h (by omega)
    have hm:0 < m:=by omega
    have hc:=zbo (n:=b % 128+128*m) (by omega)
    rw[show(b % 128+128*m) % 128+128=b by omega,show(b % 128+128*m) / 128=m by omega] at hc
    refine⟨b % 128+128*m,?_,?_,?_,.inl (by omega),?_⟩
    ·rw[e1,Nat.add_mul,Nat.add_assoc];congr 2;rw[Nat.mul_comm 128 m,Nat.mul_assoc,Nat.mul_comm u 128]
    ·rw[hc,List.length_cons,e2];omega
    ·rw[hc];exact⟨g1.1,g1.2.1,e3⟩
    ·rw[Nat.pow_succ];omega
theorem zpb{s:ByteArray}:∀(j p n u m:Nat),Mt s p (cdN m)->m < 128 ^ j->(0 < m ∨ u=1 /\ 0 < j)->codeS s j p n u=some (n+m*u,p+(cdN m).length)
 | 0,p,n,u,m,h,hm,hz=>by
  have hm:m < 1:=hm
  omega
 | j+1,p,n,u,m,h,hm,hz=>by
  unfold codeS
  by_cases h128:128<=m
  ·rw[zbo h128] at h ⊢
   rw[z9n h,u8_n (by omega)]
   simp only
   rw[if_neg (by omega),zpb j (p+1) _ _ (m / 128) h.2.2 (by rw[Nat.pow_succ] at hm;omega) (.inl (by omega)),List.length_cons]
   congr 2
   ·rw[show(m % 128+128) % 128=m % 128 by omega]
    have:m*u=(m % 128+128*(m / 128))*u:=by rw[Nat.mod_add_div]
    rw[this,Nat.add_mul,Nat.add_assoc];congr 2;rw[Nat.mul_comm 128 (m / 128),Nat.mul_assoc,Nat.mul_comm u 128]
   ·omega
  ·rw[z95 (by omega)] at h ⊢
   rw[z9n h,u8_n (by omega)]
   simp only
   rw[if_pos (by omega),if_pos (by omega),Nat.mod_eq_of_lt (by omega)];rfl
theorem zn4{s:ByteArray}{p m:Nat}(h:Mt s p (cdN m))(hm:m < 2097152):codeB s p=some (m,p+(cdN m).length):=by
 have:=zpb 3 p 0 1 m h (by omega) (.inr ⟨rfl,by omega⟩)
 unfold codeB
 rw[this];congr 2;omega
theorem zmq{s:ByteArray}{p c q:Nat}(h:codeB s p=some (c,q)):Mt s p (cdN c) /\ q=p+(cdN c).length:=by
 obtain⟨m,e1,e2,e3,_,_⟩:=zox 3 p 0 1 h (by omega)
 obtain rfl:c=m:=by omega
 exact⟨e3,e2⟩
theorem zpd{s:ByteArray}:∀(j p n u m:Nat),Mt s p (cdN m)->m < 128 ^ j->0 < j->ldC s j p n u=some (n+u*m,p+(cdN m).length)
 | 0,p,n,u,m,h,hm,hz=>by omega
 | j+1,p,n,u,m,h,hm,hz=>by
  unfold ldC
  by_cases h128:128<=m
  ·rw[zbo h128] at h ⊢
   have hb:byteAt s p=m % 128+128:=by rw[h.2.1,u8_n (by omega)]
   rw[if_pos h.1,hb,if_pos (by omega),zpd j (p+1) _ _ (m / 128) h.2.2 (by rw[Nat.pow_succ] at hm;omega) (by
    rcases Nat.eq_zero_or_pos j with rfl|h
    ·have:m < 128:=by simpa using hm
     omega
    ·exact h),List.length_cons]
   congr 2
   ·rw[show(m % 128+128) % 128=m % 128 by omega]
    have:u*m=u*(m % 128+128*(m / 128)):=by rw[Nat.mod_add_div]
    rw[this,Nat.mul_add,Nat.add_assoc,Nat.mul_assoc]
   ·omega
  ·rw[z95 (by omega)] at h ⊢
   have hb:byteAt s p=m:=by rw[h.2.1,u8_n (by omega)]
   rw[if_pos h.1,hb,if_neg (by omega),Nat.mod_eq_of_lt (by omega)];rfl
def csL:Int->List Int->List UInt8
 | _,[]=>[]
 | last,n :: l=>cdN (cdS n last).1.toNat ++ csL (cdS n last).2 l
theorem ze6(l:List Int):∀(r:List Int) (k:Nat),l.drop k=r->k<=l.length->cdsL l l.length=cdsL l k ++ csL (lsA l k) r
 | [],k,hr,hk=>by
  have:l.length<=k:=by
   have:=congrArg List.length hr
   rw[List.length_drop] at this
   simp at this;omega
  rw[show k=l.length by omega]
  simp[csL]
 | x :: r,k,hr,hk=>by
  have hlt:k < l.length:=by
   have:=congrArg List.length hr
   rw[List.length_drop,List.length_cons] at this
   omega
  have hx:getG l k=x:=by
   unfold getG
   rw[List.getD_eq_getElem?_getD,List.getElem?_eq_getElem hlt]
   have h1:=List.drop_eq_getElem_cons hlt
   rw[hr] at h1
   injection h1 with h1 _
   simp[h1]
  have hr2:l.drop (k+1)=r:=by
   have h1:=List.drop_eq_getElem_cons hlt
   rw[hr] at h1
   injection h1 with _ h2
   exact h2.symm
  rw[ze6 l r (k+1) hr2 hlt,z96,List.append_assoc]
  congr 1
  show cdN (cdA l k).toNat ++ _=cdN (cdS x (lsA l k)).1.toNat ++ csL (cdS x (lsA l k)).2 r
  unfold cdA
  rw[hx,show lsA l (k+1)=(cdS (getG l k) (lsA l k)).2 from rfl,hx]
theorem zmr(l:List Int):cdsL l l.length=csL 0 l:=by
 have:=ze6 l l 0 rfl (Nat.zero_le _)
 rw[this]
 show [] ++ csL 0 l=_
 rfl
theorem zr2{last:Int}{c:Nat}(h2:2<=c)(hk:knB (nxS last c)=true):cdS (nxS last c) last=((c:Int),nxS last c):=by
 have hb:-32767<=nxS last c /\ nxS last c<=32767:=of_decide_eq_true hk
 unfold cdS
 rw[if_neg (by omega),if_pos hk]
 unfold nxS
 split
 ·rw[if_neg (by omega)];congr 1;omega
 ·rw[if_pos (by omega)];congr 1;omega
theorem zoy{n last:Int}(hn:smB n=true)(hl:-32767<=last /\ last<=32767):(∃ c:Nat,(cdS n last).1=c /\ c < 2097152 /\ ((c=0 /\ n=40000 /\ (cdS n last).2=last) ∨(c=1 /\ n=40001 /\ (cdS n last).2=last) ∨(2<=c /\ nxS last c=n /\ knB n=true /\ (cdS n last).2=n))):=by
 by_cases h1:n=40001
 ·subst h1
  exact⟨1,rfl,by omega,.inr (.inl ⟨rfl,rfl,rfl⟩)⟩
 by_cases hk:knB n=true
 ·have hb:-32767<=n /\ n<=32767:=of_decide_eq_true hk
  unfold cdS
  rw[if_neg h1,if_pos hk]
  by_cases hd:n - last < 0
  ·rw[if_pos hd]
   refine⟨(1 - 2*(n - last)).toNat,by show _=_;simp only;omega,by omega,.inr (.inr ⟨by omega,?_,hk,rfl⟩)⟩
   unfold nxS;rw[if_neg (by omega)];omega
  ·rw[if_neg hd]
   refine⟨(2*(n - last)+2).toNat,by show _=_;simp only;omega,by omega,.inr (.inr ⟨by omega,?_,hk,rfl⟩)⟩
   unfold nxS;rw[if_pos (by omega)];omega
 ·have h0:n=40000:=by
   unfold smB at hn
   simp only[Bool.or_eq_true,decide_eq_true_eq] at hn
   rcases hn with h|h|h
   ·exact absurd h hk
   ·exact h
   ·exact absurd h h1
  subst h0
  exact⟨0,rfl,by omega,.inl ⟨rfl,rfl,rfl⟩⟩
theorem zlu{s:ByteArray}:∀(k p:Nat) (last:Int) (acc:List Int) {l:List Int} {q:Nat},smpB s k p last acc=some (l,q)->∃ r,l=acc ++ r /\ r.length=k /\ q=p+(csL last r).length /\ Mt s p (csL last r)
 | 0,p,last,acc,l,q,h=>by cases h;exact⟨[],by simp,rfl,rfl,trivial⟩
 | k+1,p,last,acc,l,q,h=>by
  unfold smpB at h
  split at h
  ·cases h
  ·rename_i c p' hc
   obtain⟨g1,rfl⟩:=zmq hc
   have fin:∀(x last':Int),cdS x last=((c:Int),last')->smpB s k (p+(cdN c).length) last' (acc ++ [x])=some (l,q)->∃ r,l=acc ++ r /\ r.length=k+1 /\ q=p+(csL last r).length /\ Mt s p (csL last r):=fun x last' hx h'=>by
    obtain⟨r,e1,e2,e3,e4⟩:=zlu k _ last' _ h'
    have hcs:csL last (x :: r)=cdN c ++ csL last' r:=by
     show cdN (cdS x last).1.toNat ++ csL (cdS x last).2 r=_
     rw[hx];rfl
    exact⟨x :: r,by rw[e1];simp,by rw[List.length_cons,e2],by rw[hcs,List.length_append,e3];omega,by rw[hcs];exact Mt.app.2 ⟨g1,e4⟩⟩
   split at h
   ·rename_i h0;subst h0;exact fin 40000 last rfl h
   ·split at h
    ·rename_i h1;subst h1;exact fin 40001 last rfl h
    ·split at h
     ·rename_i hk;exact fin _ _ (zr2 (by omega) hk) h
     ·cases h
theorem zel{s:ByteArray}:∀(r:List Int) (p:Nat) (last:Int) (acc:List Int),(∀ x ∈ r,smB x=true)->-32767<=last /\ last<=32767->Mt s p (csL last r)->smpB s r.length p last acc=some (acc ++ r,p+(csL last r).length)
 | [],p,last,acc,_,_,_=>by simp[smpB,csL]
 | n :: r,p,last,acc,hs,hl,h=>by
  obtain⟨c,e1,e2,e3⟩:=zoy (hs n (by simp)) hl
  have hcs:csL last (n :: r)=cdN c ++ csL (cdS n last).2 r:=by
   show cdN (cdS n last).1.toNat ++ _=_
   rw[e1];rfl
  rw[hcs] at h ⊢
  obtain⟨h1,h2⟩:=Mt.app.1 h
  have hcd:=zn4 h1 e2
  have hs':∀ x ∈ r,smB x=true:=fun x hx=>hs x (by simp[hx])
  rw[List.length_cons,show smpB s (r.length+1) p last acc=(match codeB s p with
   | none=>none
   | some (c,q)=>if c=0 then smpB s r.length q last (acc ++ [40000]) else if c=1 then smpB s r.length q last (acc ++ [40001]) else if knB (nxS last c) then smpB s r.length q (nxS last c) (acc ++ [nxS last c]) else none) from rfl,hcd]
  simp only
  rcases e3 with⟨rfl,rfl,h3⟩|⟨rfl,rfl,h3⟩|⟨hc2,hn,hk,h3⟩
  ·rw[if_pos rfl,h3] at *
   rw[zel r _ last _ hs' hl h2,List.length_append]
   simp;omega
  ·rw[if_neg (by omega),if_pos rfl]
   rw[h3] at h2 ⊢
   rw[zel r _ last _ hs' hl h2,List.length_append]
   simp;omega
  ·rw[if_neg (by omega),if_neg (by omega),hn,if_pos hk]
   rw[h3] at h2 ⊢
   have hb:-32767<=n /\ n<=32767:=of_decide_eq_true hk
   rw[zel r _ n _ hs' hb h2,List.length_append]
   simp;omega
theorem zlo{s:ByteArray}:∀(r:List Int) (p:Nat) (last:Int) (acc:List Int),(∀ x ∈ r,smB x=true)->-32767<=last /\ last<=32767->Mt s p (csL last r)->ldS s r.length p last acc=some (acc ++ r)
 | [],p,last,acc,_,_,_=>by simp[ldS]
 | n :: r,p,last,acc,hs,hl,h=>by
  obtain⟨c,e1,e2,e3⟩:=zoy (hs n (by simp)) hl
  have hcs:csL last (n :: r)=cdN c ++ csL (cdS n last).2 r:=by
   show cdN (cdS n last).1.toNat ++ _=_
   rw[e1];rfl
  rw[hcs] at h
  obtain⟨h1,h2⟩:=Mt.app.1 h
  have hcd:=zpd 4 p 0 1 c h1 (by omega) (by omega)
  rw[Nat.zero_add,Nat.one_mul] at hcd
  have hs':∀ x ∈ r,smB x=true:=fun x hx=>hs x (by simp[hx])
  rw[List.length_cons,show ldS s (r.length+1) p last acc=(match ldC s 4 p 0 1 with
   | none=>none
   | some (n,q)=>ldS s r.length q (ldV n last).2 (acc ++ [(ldV n last).1])) from rfl,hcd]
  simp only
  have hv:ldV c last=(n,(cdS n last).2):=by
   unfold ldV
   rcases e3 with⟨rfl,rfl,h3⟩|⟨rfl,rfl,h3⟩|⟨hc2,hn,hk,h3⟩
   ·rw[if_pos rfl,h3]
   ·rw[if_neg (by omega),if_pos rfl,h3]
   ·rw[if_neg (by omega),if_neg (by omega),hn,h3]
  rw[hv]
  have hb:-32767<=(cdS n last).2 /\ (cdS n last).2<=32767:=by
   rcases e3 with⟨rfl,rfl,h3⟩|⟨rfl,rfl,h3⟩|⟨hc2,hn,hk,h3⟩
   ·rw[h3];exact hl
   ·rw[h3];exact hl
   ·rw[h3];exact of_decide_eq_true hk
  rw[zlo r _ _ _ hs' hb h2]
  simp
theorem zni{s:ByteArray}{k p:Nat}{l:List Int}{q:Nat}(h:smpB s k p 0 []=some (l,q)):l.length=k /\ q=p+(csL 0 l).length /\ Mt s p (csL 0 l):=by
 obtain⟨r,e1,e2,e3,e4⟩:=zlu k p 0 [] h
 rw[List.nil_append] at e1
 subst e1
 exact⟨e2,e3,e4⟩
theorem zlj{x:Fr}(h:frB x=true):∀ n ∈ x.2.2,smB n=true:=fun n hn=>by
 unfold frB smsB at h
 simp only[Bool.and_eq_true] at h
 exact List.all_eq_true.1 h.2.2.2 n hn
theorem zcx(x:Fr):bodyL x=[165,90] ++(twoL x.1.toNat ++([u8 x.2.1.toNat] ++([u8 x.2.2.length] ++ csL 0 x.2.2))):=by
 unfold bodyL hdL
 rw[zmr]
 simp
theorem zgs{s:ByteArray}{p:Nat}{l:List UInt8}(hp:p<=s.size)(h:Mt s p l):crcX s p (p+l.length)=crcK (strL l) l.length:=by
 unfold crcX
 rw[((Mt.ext hp).1 h).2];rfl
theorem zo5{s:ByteArray}{p:Nat}{x:Fr}{q:Nat}(hp:p<=s.size)(h:FrD s p=some (x,q)):frB x=true /\ q=p+(pkL x).length /\ Mt s p (pkL x):=by
 have hok:=zg1 hp h
 unfold FrD at h
 split at h
 ·cases h
 ·rename_i m p1 h1
  split at h
  ·cases h
  ·rename_i sh p2 h2
   split at h
   ·cases h
   ·rename_i ch p3 h3
    split at h
    ·cases h
    ·rename_i n p4 h4
     split at h
     ·rename_i hc
      split at h
      ·cases h
      ·rename_i l p5 h5
       split at h
       ·rename_i hf
        split at h
        ·cases h
        ·rename_i u p6 h6
         cases h
         obtain⟨g1,rfl,_⟩:=zii h1
         obtain⟨g2,rfl,hsh⟩:=zii h2
         obtain⟨g3,rfl⟩:=zce h3
         obtain⟨g4,rfl⟩:=zce h4
         obtain⟨g5,rfl,g6⟩:=zni h5
         have hch:=z30 h3
         obtain⟨rfl,hc2⟩:=hc
         have hb:bodyL ((sh:Int),(ch:Int),l)=twoL 42330 ++(twoL sh ++([u8 ch] ++([u8 n] ++ csL 0 l))):=by
          rw[zcx]
          show [165,90] ++(twoL (sh:Int).toNat ++([u8 (ch:Int).toNat] ++([u8 l.length] ++ csL 0 l)))=_
          rw[g5,Int.toNat_natCast,Int.toNat_natCast];rfl
         have hM:Mt s p (bodyL ((sh:Int),(ch:Int),l)):=by
          rw[hb]
          refine Mt.app.2 ⟨g1,Mt.app.2 ⟨g2,Mt.app.2 ⟨g3,Mt.app.2 ⟨g4,?_⟩⟩⟩⟩
          exact g6
         have hbl:p+(bodyL ((sh:Int),(ch:Int),l)).length=p+2+2+1+1+(csL 0 l).length:=by
          rw[hb];simp[twoL];omega
         unfold chkB at h6
         split at h6
         ·cases h6
         ·rename_i c p7 h7
          obtain⟨g7,rfl,hc7⟩:=zii h7
          split at h6
          ·rename_i hcrc
           cases h6
           rw[<-hbl,zgs hp hM] at hcrc
           have hpk:pkL ((sh:Int),(ch:Int),l)=bodyL ((sh:Int),(ch:Int),l) ++ twoL c:=by
            unfold pkL chkL
            rw[<-hcrc,Int.toNat_natCast]
           refine⟨hf,?_,?_⟩
           ·rw[hpk,List.length_append,<- Nat.add_assoc,hbl];rfl
           ·rw[hpk];exact Mt.app.2 ⟨hM,by rw[hbl];exact g7⟩
          ·cases h6
       ·cases h
     ·cases h
theorem zpa{s:ByteArray}{p:Nat}{x:Fr}(hp:p<=s.size)(hf:frB x=true)(h:Mt s p (pkL x)):FrD s p=some (x,p+(pkL x).length):=by
 obtain⟨sh,ch,l⟩:=x
 have hbd:=z7v hf
 have hln:=z3w hf
 simp only at hbd hln
 obtain⟨sh,rfl⟩:∃ n:Nat,sh=n:=⟨sh.toNat,by omega⟩
 obtain⟨ch,rfl⟩:∃ n:Nat,ch=n:=⟨ch.toNat,by omega⟩
 have hb:bodyL ((sh:Int),(ch:Int),l)=twoL 42330 ++(twoL sh ++([u8 ch] ++([u8 l.length] ++ csL 0 l))):=by
  rw[zcx]
  show [165,90] ++(twoL (sh:Int).toNat ++([u8 (ch:Int).toNat] ++([u8 l.length] ++ csL 0 l)))=_
  rw[Int.toNat_natCast,Int.toNat_natCast];rfl
 have hbl:p+(bodyL ((sh:Int),(ch:Int),l)).length=p+2+2+1+1+(csL 0 l).length:=by
  rw[hb];simp[twoL];omega
 unfold pkL chkL at h
 obtain⟨hM,hC⟩:=Mt.app.1 h
 have hcr:=zgs hp hM
 have hM':=hM
 rw[hb] at hM
 obtain⟨m1,hM⟩:=Mt.app.1 hM
 obtain⟨m2,hM⟩:=Mt.app.1 hM
 obtain⟨m3,hM⟩:=Mt.app.1 hM
 obtain⟨m4,m5⟩:=Mt.app.1 hM
 have r1:=zhr (by omega) m1
 have r2:=zhr (by omega) m2
 have r3:=z9n m3
 have r4:=z9n m4
 rw[u8_n (by omega)] at r3 r4
 have r5:=zel l _ 0 [] (zlj hf) (by omega) m5
 rw[List.nil_append] at r5
 have hbd2:=z65 (strL (bodyL ((sh:Int),(ch:Int),l))) (bodyL ((sh:Int),(ch:Int),l)).length
 have r6:=zhr (by omega) hC
 rw[hbl] at r6 hcr
 unfold FrD
 simp only[twoL,List.length_cons,List.length_nil] at r1 r2 r3 r4 r5 r6
 rw[r1];simp only;rw[r2];simp only;rw[r3];simp only;rw[r4];simp only
 rw[if_pos ⟨by first|trivial|rfl,by omega,by omega⟩,r5]
 simp only
 rw[if_pos hf]
 unfold chkB
 rw[r6]
 simp only
 rw[if_pos (by rw[hcr];omega)]
 simp only
 unfold pkL chkL
 rw[List.length_append,<- Nat.add_assoc,hbl]
 rfl
end Go.Proofs.YtbfnnllgdioccaaGreatDoor.C
end
section
open Go PvL Go.Proofs
set_option linter.unusedSimpArgs false
set_option linter.unusedVariables false
variable {μ:Md}
namespace Go.Proofs.YtbfnnllgdioccaaGreatDoor.C
def salP(s:ByteArray):(List Fr × List Bd) × Int :=
 if 65536 < s.size then(([],[]),3) else if 128 <(z0u (whA s).1).length then(([],[]),6) else((z0u (whA s).1,(whA s).2),0)
theorem zin{s:ByteArray}:∀(k p:Nat) (F:List Fr) (L:List Bd),p<=s.size->FrOk F->F.length<=p->FrOk (whB s k p F L).1 /\ (whB s k p F L).1.length<=s.size
 | 0,p,F,L,hp,h,hl=>⟨h,by show F.length<=_;omega⟩
 | k+1,p,F,L,hp,h,hl=>by
  unfold whB
  split
  ·split
   ·rename_i x q hx
    have h1:=zg1 hp hx
    refine zin k q _ _ h1.2.2 (fun y hy=>?_) (by rw[List.length_append];simp;omega)
    rcases List.mem_append.1 hy with hy|hy
    ·exact h y hy
    ·rw[List.mem_singleton.1 hy];exact h1.1
   ·exact zin k (p+1) F _ (by omega) h (by omega)
  ·exact⟨h,by show F.length<=_;omega⟩
theorem zim(s:ByteArray):FrOk (whA s).1 /\ (whA s).1.length<=s.size:=zin s.size 0 [] [] (Nat.zero_le _) (fun _ h=>nomatch h) (Nat.le_refl _)
theorem zck(l:List Fr):(rackF l).length<=l.length:=by
 have:∀(l:List Fr) (R:Rk),(l.foldl rkA R).length<=R.length+l.length:=fun l=>by
  induction l with
  | nil=>intro R;exact Nat.le_refl _
  | cons z l ih =>
   intro R
   have h1:=ih (rkA R z)
   have h2:(rkA R z).length<=R.length+1:=by
    have:=congrArg List.length (zdp R (fky z) (z19 ((lkK R (fky z)).getD []) z.2.2))
    rw[List.length_map] at this
    unfold rkA
    rw[this]
    split<;>simp
   rw[List.foldl_cons,List.length_cons];omega
 have:=this l []
 unfold rackF
 have h0:([]:Rk).length=0:=rfl
 omega
theorem ne9{l:List Fr}(h:FrOk l):∀ z ∈ z0u l,z.2.2 ≠ []:=fun z hz=>by
 have h1:=z3w (zgz (J:=[]) (fun _ h=>absurd h List.not_mem_nil) h z hz)
 intro h2;rw[h2] at h1;exact absurd h1.1 (by decide)
section
variable {α:Type} {b q:Nat} {ty:TypeId} {enc:α->List LV} {M:Mem} {v:LV} {l l':List α} {P:Program} [Orc P] {sz:Nat} {E:Env} {K:Env->Mem->Prop} {ll:List XG} {d:Nat} {g:Option (Nat × Bool)} {s x:XO} {st:List Mem} {k:Nat} {xs:List (Nat × Nat × (Mem->Prop))} {ld:List (XG × XK)} {by':Nat} {z:List LV} {xv:LV}
theorem Vec.appN(h:Vec b q ty enc M v l)(hs:xval E s=some v)(hx:xval E x=some xv)(hn:z0v xv=some l'.length)(h0:0 < l'.length)
  (hb:(2*(l.length+l'.length)+2048)*by'<=140737488355328) (hz:(Nat.ble 1 q && (Nat.ble 1 by' && Nat.beq z.length q))=true) (hw:z0d q l'.length xv M=some (l'.flatMap enc))
  (henc:∀ x,(enc x).length=q) (hfl:∀ x,ze (enc x)=true) :
  ∃ v' M',zf P (.app ty q by' z s x) E M=some (.val v' M') /\ Vec M.next q ty enc M' v' (l ++ l') /\ M'.next=M.next+1 /\ Keep (fun i=>b<=i /\ ∃ o n f e,v=.slice (some (i,o)) n f e) M M':=by
 have hf:=z2f (l:=l') (enc:=enc) (fun x _=>hfl x)
 rcases h with⟨rfl,rfl⟩|⟨i,rfl,h2,h3⟩
 ·refine⟨_,_,z6m hs hx hn h0 (by simpa using hb) hz rfl hw hf (.inl rfl),.inr ⟨M.next,?_,?_,Nat.le_refl _⟩,rfl,?_⟩
  ·rw[List.nil_append,Nat.zero_add]
  ·rw[List.nil_append,List.nil_append];exact⟨by rw[Mem.get_push,if_pos rfl],Nat.lt_succ_self _⟩
  ·have hN:New M M.next (.cells true ([] ++ l'.flatMap enc) (apE ty)) (M.push (.cells true ([] ++ l'.flatMap enc) (apE ty))):=⟨rfl,rfl⟩
   exact hN.grow.to_keep _
 ·have ho:z0d q l.length (.slice (some (i,0)) l.length false q) M=some (l.flatMap enc):=by
   rw[z2r h2 (by rw[z12 (fun x _=>henc x)];omega),List.drop_zero,List.take_of_length_le (by rw[z12 (fun x _=>henc x)];omega)]
  have hK:Kill M i M.next (.cells true (l.flatMap enc ++ l'.flatMap enc) (apE ty)) ((M.upd i none).push (.cells true (l.flatMap enc ++ l'.flatMap enc) (apE ty))):=⟨rfl,rfl⟩
  refine⟨_,_,z54 hs hx hn h0 hb hz ho hw hf h2 (by rw[show Nat.beq (apE ty) (apE ty)=true by simp,Bool.or_true]),.inr ⟨M.next,by rw[List.length_append],?_,Nat.le_refl _⟩,hK.next,hK.keep.weaken fun j hj=>?_⟩
  ·rw[List.flatMap_append];exact hK.same
  ·subst hj;exact⟨h3,_,_,_,_,rfl⟩
theorem z6k(hg:GOn E g)(hv:Vec b q ty enc M v l)(hs:xval E s=some v)(hx:xval E x=some xv)(hn:z0v xv=some l'.length)(h0:0 < l'.length)(hb:(2*(l.length+l'.length)+2048)*by'<=140737488355328)(hz:(Nat.ble 1 q && (Nat.ble 1 by' && Nat.beq z.length q))=true)(hw:z0d q l'.length xv M=some (l'.flatMap enc))
  (henc:∀ x,(enc x).length=q) (hfl:∀ x,ze (enc x)=true) (hk:∀ v' M',Vec M.next q ty enc M' v' (l ++ l')->M'.next=M.next+1->Keep (fun i=>b<=i /\ ∃ o n f e,v=.slice (some (i,o)) n f e) M M'->XW μ P sz ll ((d,v') :: E) M' K):XW μ P sz (⟨some d,.app ty q by' z s x,g⟩ :: ll) E M K:=by
 obtain⟨v',M',h1,h2,h3,h4⟩:=Vec.appN (P:=P) hv hs hx hn h0 hb hz hw henc hfl
 exact zkv hg h1 (hk v' M' h2 h3 h4)
theorem z97(hg:GOn E g)(hv:Vec b q ty enc M v l)(hs:xval E s=some v)(hx:xval E x=some xv)(hn:z0v xv=some l'.length)(h0:0 < l'.length)(hb:(2*(l.length+l'.length)+2048)*by'<=140737488355328)(hz:(Nat.ble 1 q && (Nat.ble 1 by' && Nat.beq z.length q))=true)(hw:z0d q l'.length xv M=some (l'.flatMap enc))
  (henc:∀ x,(enc x).length=q) (hfl:∀ x,ze (enc x)=true) (hk:∀ v' M',Vec M.next q ty enc M' v' (l ++ l')->M'.next=M.next+1->Keep (fun i=>b<=i /\ ∃ o n f e,v=.slice (some (i,o)) n f e) M M'->XD P sz ld ((d,v') :: E) M' (M' :: st) (k+1) xs K):XD P sz ((⟨some d,.app ty q by' z s x,g⟩,.anchor) :: ld) E M st k xs K:=by
 obtain⟨v',M',h1,h2,h3,h4⟩:=Vec.appN (P:=P) hv hs hx hn h0 hb hz hw henc hfl
 exact zle hg h1 (hk v' M' h2 h3 h4)
end
def FwB(b:Nat)(M:Mem)(x:FW)(f:Fr):Prop:=x.1=fky f /\ x.2.2.1=f.2.2.length /\ (f.2.2=[] ∨ ∃ i o,x.2.1=some (i,o) /\ i < b /\ ∀ k (hk:k < f.2.2.length),Rd1 M i (o+k*1) (I f.2.2[k]))
inductive FwLB (b:Nat) (M:Mem):List FW->List Fr->Prop
 | nil:FwLB b M [] []
 | cons {x:FW} {f:Fr} {xs:List FW} {fs:List Fr} (h:FwB b M x f) (h':FwLB b M xs fs):FwLB b M (x :: xs) (f :: fs)
theorem FwB.keep{b b':Nat}{M M':Mem}{F:Nat->Prop}{x:FW}{f:Fr}(h:FwB b M x f)(hk:Keep F M M')(hF:∀ i,F i->b<=i)(hb:b<=b'):FwB b' M' x f :=
 ⟨h.1,h.2.1,h.2.2.imp id fun⟨i,o,h1,h2,h3⟩=>⟨i,o,h1,by omega,fun k hk'=>(h3 k hk').keep hk (fun hf=>by have:=hF i hf;omega)⟩⟩
theorem FwB.keep'{b:Nat}{M M':Mem}{F:Nat->Prop}{x:FW}{f:Fr}(h:FwB b M x f)(hk:Keep F M M')(hF:∀ i o,x.2.1=some (i,o)->f.2.2 ≠ []->¬ F i):FwB b M' x f :=
 ⟨h.1,h.2.1,by
  rcases h.2.2 with h0|⟨i,o,h1,h2,h3⟩
  ·exact .inl h0
  ·by_cases h0:f.2.2=[]
   ·exact .inl h0
   ·exact .inr ⟨i,o,h1,h2,fun k hk'=>(h3 k hk').keep hk (hF i o h1 h0)⟩⟩
theorem FwB.grow{b b':Nat}{M M':Mem}{x:FW}{f:Fr}(h:FwB b M x f)(hg:Grow M M')(hb:b<=b'):FwB b' M' x f:=h.keep (hg.to_keep (fun _=>False)) (fun _ h=>h.elim) hb
theorem FwLB.keep{b b':Nat}{M M':Mem}{F:Nat->Prop}{xs:List FW}{fs:List Fr}(h:FwLB b M xs fs)(hk:Keep F M M')(hF:∀ i,F i->b<=i)(hb:b<=b'):FwLB b' M' xs fs:=by
 induction h with
 | nil=>exact .nil
 | cons h _ ih=>exact .cons (h.keep hk hF hb) ih
theorem FwLB.grow{b b':Nat}{M M':Mem}{xs:List FW}{fs:List Fr}(h:FwLB b M xs fs)(hg:Grow M M')(hb:b<=b'):FwLB b' M' xs fs:=h.keep (hg.to_keep (fun _=>False)) (fun _ h=>h.elim) hb
theorem Vec.lt{α:Type}{b q:Nat}{ty:TypeId}{enc:α->List LV}{M:Mem}{a:Option (Nat × Nat)}{n:Nat}{f:Bool}{e:Nat}{l:List α}(h:Vec b q ty enc M (.slice a n f e) l):∀ i o,a=some (i,o)->i < M.next:=fun i o he=>by
 rcases h with⟨_,h⟩|⟨j,h,h2,_⟩
 ·cases h;cases he
 ·cases h;cases he;exact h2.2
theorem FwLB.app{b:Nat}{M:Mem}{xs xs':List FW}{fs fs':List Fr}(h:FwLB b M xs fs)(h':FwLB b M xs' fs'):FwLB b M (xs ++ xs') (fs ++ fs'):=by
 induction h with
 | nil=>exact h'
 | cons h _ ih=>exact .cons h ih
theorem FwLB.l{b:Nat}{M:Mem}{xs:List FW}{fs:List Fr}(h:FwLB b M xs fs):FwL M xs fs:=by
 induction h with
 | nil=>exact .nil
 | cons h _ ih=>exact .cons ⟨h.1,h.2.1,h.2.2.imp id fun⟨i,o,h1,h2,h3⟩=>⟨i,o,h1,h3⟩⟩ ih
theorem ze9{M:Mem}{x:Fr}{b:Option (Nat × Nat)}{g:Bool}{u:Nat}(h:SlI M b x.2.2):FwB M.next M ((x.1,x.2.1),b,x.2.2.length,g,u) x :=
 ⟨rfl,rfl,by
  rcases h with h|⟨i,o,h1,h2⟩
  ·exact .inl h
  ·by_cases h0:x.2.2=[]
   ·exact .inl h0
   ·refine .inr ⟨i,o,h1,?_,h2⟩
    have:=h2 0 (List.length_pos_iff.2 h0)
    exact this.2⟩
theorem z3x{m:Nat}{l:List FW}{M M':Mem}{ty:TypeId}{f:Bool}(hn:New M m (.cells true (l.flatMap fwc) ty) M'):z0d 3 l.length (.slice (some (m,0)) l.length f 3) M'=some (l.flatMap fwc) :=
 z33 (enc:=fwc) (l:=l) (fun _ _=>rfl) (fun k' hk'=>z1v (enc:=fwc) (l:=l) (At.new_same hn) (fun _ _=>rfl) hk')
theorem FsV.at{M:Mem}{a:Option (Nat × Nat)}{L:List Fr}(h:FsV M a L){k:Nat}(hk:k < L.length):∃ i o b g u,a=some (i,o) /\ Rd M i (o+k*3) 3 [I (fe L k).1,I (fe L k).2.1,.slice b (fe L k).2.2.length g u] /\ SlI M b (fe L k).2.2:=by
 obtain⟨i,o,b,g,u,h1,h2,b',g',u',h3,h4⟩:=h.rd hk
 cases h3
 exact⟨i,o,b,g,u,h1,h2,h4⟩
set_option maxHeartbeats 16000000 in
theorem zog{M:Mem}{a:Option (Nat × Nat)}{L:List Fr}{f:Bool}{e:Nat}{v:LV}{x:Fr}(hs:FsV M a L)(hL:∀ z ∈ L,FrK z /\ z.2.2.length<=64)(hv:FrV M v x)(hx:FrK x /\ x.2.2.length<=64)(hln:L.length<=1000000) :
  z9 Tryz.prog 114 [.slice a L.length f e,v] M (fun w M'=>(∃ a f e,w=.slice a (addR L x).length f e /\ FsV M' a (addR L x)) /\ Grow M M'):=by
 obtain⟨bx,gq,ux,rfl,hsx⟩:=id hv
 refine zb k114 rfl ?_
 dsimp only[x114,zM,zO,zI,zF,zS,zB,zL,zA,zE,zN,zW,zC,zipE,Nat.reduceAdd]
 repeat' first|with_reducible intro _|refine sv ?_|refine sc ?_ ?_<;>(intro h;try exact sz h)|refine sg ?_ ?_<;>(intro h;first|exact sz h|refine sy h ?_)|exact sq|fail
 rename_i m1 M1 hN1 q1 q1'
 have hA1:At M1 m1 (.cells true [I x.1,I x.2.1,.slice bx x.2.2.length gq ux] 48):=At.new_same hN1
 have hs1:=hs.grow hN1.grow
 have hv1:=hv.grow hN1.grow
 have hsx1:=hsx.grow hN1.grow
 have hg1:=hN1.grow
 clear hN1
 refine z8 (fun z E ms M'=>∃(k b:Nat) (dn:Bool) (xs:List FW) (fs:List Fr) (v:LV),z=L.length - k /\ k<=L.length /\ ms=[] /\ Has E [(0,.slice a L.length f e),(3,.ptr (some (m1,0))),(5,v),(6,.bool dn),(7,I k)] /\ M1.next<=b /\ b<=M'.next /\ Vec b 3 48 fwc M' v xs /\ FwLB b M' xs fs /\ xs.length<=k+(if dn=true then 1 else 0) /\ (fs ++ if dn then L.drop k else addR (L.drop k) x)=addR L x /\ Grow M1 M')
  ?_ (L.length - 0) _ _ _ ⟨0,M1.next,false,[],[],_,rfl,Nat.zero_le _,rfl,.cons rfl (.cons rfl (.cons rfl (.cons rfl (.cons rfl .nil)))),Nat.le_refl _,Nat.le_refl _,Vec.nil,.nil,Nat.zero_le _,rfl,Grow.refl _⟩
 rintro z E ms M2 ⟨k,b,dn,xs,fs,v2,rfl,hk,rfl,hE,hb1,hb2,hvx,hfx,hxl,heq,hg2⟩
 refine zy hE ?_
 obtain⟨a3,f3,e3,rfl⟩:=hvx.shape
 have hA2:=At.grow hg2 hA1
 have hsx2:=hsx1.grow hg2
 have hv2:=hv1.grow hg2
 have hxl0:xs.length<=k+1:=by split at hxl<;>omega
 by_cases hlast:k=L.length
 ·subst hlast
  rw[List.drop_length] at heq
  cases dn with
  | true =>
   have heq:fs ++ []=addR L x:=heq
   rw[List.append_nil] at heq
   subst heq
   repeat' first|with_reducible intro _|refine sv ?_|refine sc ?_ ?_<;>(intro h;try exact sz h)|refine sg ?_ ?_<;>(intro h;first|exact sz h|refine sy h ?_)|exact sq|fail
   refine kf ?_
   obtain⟨a,f,e,he,hfs⟩:=zh2 hvx hfx.l
   exact⟨⟨a,f,e,he,hfs⟩,hg1.trans hg2⟩
  | false =>
   have heq:fs ++ [x]=addR L x:=heq
   repeat' first|with_reducible intro _|refine sv ?_|refine sc ?_ ?_<;>(intro h;try exact sz h)|refine sg ?_ ?_<;>(intro h;first|exact sz h|refine sy h ?_)|exact sq|fail
   rename_i n5 M5 hN5 q5 q5'
   have hvx5:=hvx.grow hN5.grow
   refine z6k (l':=[((x.1,x.2.1),bx,x.2.2.length,gq,ux)]) (by exact gd) hvx5 rfl rfl rfl (by simp) (by simp;omega) rfl (z3x (l:=[((x.1,x.2.1),bx,x.2.2.length,gq,ux)]) hN5) (fun _=>rfl) (fun _=>rfl) ?_
   intro v6 M6 hv6 e6 hk6
   have g5:Grow M1 M5:=hg2.trans hN5.grow
   have g6:Grow M1 M6:=Keep.to_grow' g5 hk6 (fun i hi=>by have:=hi.1;omega)
   have hfx6:=(hfx.grow hN5.grow (Nat.le_refl _)).keep hk6 (fun i hi=>hi.1) (b':=M5.next) (by omega)
   have hx6:=(ze9 (x:=x) (g:=gq) (u:=ux) hsx1).grow g6 (b':=M5.next) (by have:=g5.le;omega)
   obtain⟨a,f,e,he,hfs⟩:=zh2 hv6 (hfx6.app (.cons hx6 .nil)).l
   rw[heq] at he hfs
   subst he
   repeat' first|with_reducible intro _|refine sv ?_|refine sc ?_ ?_<;>(intro h;try exact sz h)|refine sg ?_ ?_<;>(intro h;first|exact sz h|refine sy h ?_)|exact sq|fail
   refine kf ?_
   exact⟨⟨a,f,e,rfl,hfs⟩,hg1.trans g6⟩
 have hlt:k < L.length:=by omega
 obtain⟨i,o,bk,gk,uk,rfl,hrk,hsk⟩:=FsV.at hs1 hlt
 have hLk:=hL (fe L k) (by rw[zbz hlt];exact List.getElem_mem hlt)
 have hdr:L.drop k=fe L k :: L.drop (k+1):=by rw[zbz hlt];exact List.drop_eq_getElem_cons hlt
 rw[hdr] at heq
 have hr2:=hrk.grow hg2
 have hvk2:FrV M2 (.agg [I (fe L k).1,I (fe L k).2.1,.slice bk (fe L k).2.2.length gk uk]) (fe L k):=⟨_,_,_,rfl,hsk.grow hg2⟩
 generalize fe L k=y at *
 generalize hrest:L.drop (k+1)=rest at *
 have hxB:=ze9 (x:=x) (g:=gq) (u:=ux) hsx1
 have hyB:=ze9 (x:=y) (g:=gk) (u:=uk) hsk
 have hva:=Vec.lt hvx
 have hkx:keyI x=24*x.1+x.2.1:=rfl
 have hky:keyI y=24*y.1+y.2.1:=rfl
 have hstep:∀ {v':LV} {b':Nat} {M5 M6:Mem} {l':List FW} {fl':List Fr},Vec M5.next 3 48 fwc M6 v' (xs ++ l')->M6.next=M5.next+1->Grow M2 M5->Keep (fun i=>b<=i /\ ∃ o n f e,LV.slice a3 xs.length f3 e3=.slice (some (i,o)) n f e) M5 M6->FwLB M5.next M6 l' fl' ->
   M1.next<=M5.next /\ M5.next<=M6.next /\ FwLB M5.next M6 (xs ++ l') (fs ++ fl') /\ Grow M1 M6:=fun {v'} {b'} {M5} {M6} {l'} {fl'} h1 h2 h3 h4 h5=>by
  have:=h3.le
  have:=hg2.le
  refine⟨by omega,by omega,((hfx.grow h3 (Nat.le_refl _)).keep h4 (fun i hi=>hi.1) (by omega)).app h5,Keep.to_grow' (hg2.trans h3) h4 (fun i hi=>by have:=hi.1;omega)⟩
 cases dn with
 | true =>
  have heq:fs ++ y :: rest=addR L x:=heq
  (have hrd0:=hr2;repeat' (first|(with_reducible intro _)|refine sv ?_|(refine sc ?_ ?_<;>(intro h;try exact sz h))|refine sg ?_ ?_<;>(intro h;first|exact sz h|refine sy h ?_)|exact sq|fail))
  rename_i n5 M5 hN5 q5 q5'
  have hvx5:=hvx.grow hN5.grow
  refine z6k (l':=[((y.1,y.2.1),bk,y.2.2.length,gk,uk)]) (by exact gd) hvx5 rfl rfl rfl (by simp) (by simp;omega) rfl (z3x (l:=[((y.1,y.2.1),bk,y.2.2.length,gk,uk)]) hN5) (fun _=>rfl) (fun _=>rfl) ?_
  intro v6 M6 hv6 e6 hk6
  have g6:Grow M1 M6:=Keep.to_grow' (hg2.trans hN5.grow) hk6 (fun i hi=>by have:=hi.1;omega)
  have hy6:=hyB.grow g6 (b':=M5.next) (by have:=hg2.le;omega)
  obtain⟨r1,r2,r3,r4⟩:=hstep (b':=b) hv6 e6 hN5.grow hk6 (.cons hy6 .nil)
  clear hN5 hk6
  repeat' first|with_reducible intro _|refine sv ?_|refine sc ?_ ?_<;>(intro h;try exact sz h)|refine sg ?_ ?_<;>(intro h;first|exact sz h|refine sy h ?_)|exact sq|fail
  exact zd (L.length - (k+1)) (by omega) ⟨k+1,M5.next,true,_,_,v6,rfl,by omega,rfl,.cons rfl (.cons rfl (.cons rfl (.cons rfl (.cons rfl .nil)))),r1,r2,hv6,r3,by simp;omega,by rw[hrest,<- heq];simp,r4⟩
 | false =>
  have hxl:xs.length<=k:=hxl
  have heq:fs ++ addR (y :: rest) x=addR L x:=heq
  have hdef:addR (y :: rest) x=if keyI y=keyI x then(y.1,y.2.1,z19 y.2.2 x.2.2) :: rest else if keyI y > keyI x then x :: y :: rest else y :: addR rest x:=rfl
  rw[hdef,hkx,hky] at heq
  (have hrd0:=hr2;repeat' (first|(with_reducible intro _)|refine sv ?_|(refine sc ?_ ?_<;>(intro h;try exact sz h))|((with_reducible first|apply z0g|apply z0h|apply d_pure0);exact gd;exact rfl;exact rfl;(first|exact ze2 (hvk2.grow (xg)) hLk.1|exact ze2 (hv2.grow (xg)) hx.1))|refine sg ?_ ?_<;>(intro h;first|exact sz h|refine sy h ?_)|exact sq|fail))
  ·rw[if_pos h] at heq
   rename_i MA hgA qA MB hgB qB
   have gB:Grow M2 MB:=hgA.trans hgB
   clear hgA hgB
   repeat' first|with_reducible intro _|refine sv ?_|refine sc ?_ ?_<;>(intro h;try exact sz h)|((with_reducible first|apply zx|apply z0e|apply x_call0);exact gd;exact rfl;exact rfl;(first|exact zmf (hvk2.grow gB) (hv2.grow gB) (by omega) (by omega)))|refine sg ?_ ?_<;>(intro h;first|exact sz h|refine sy h ?_)|exact sq|fail
   rename_i w4 M4 hq
   obtain⟨⟨a4,f4,e4,rfl,hs4⟩,hg4⟩:=hq
   repeat' first|with_reducible intro _|refine sv ?_|refine sc ?_ ?_<;>(intro h;try exact sz h)|refine sg ?_ ?_<;>(intro h;first|exact sz h|refine sy h ?_)|exact sq|fail
   rename_i n5 M5 hN5 q5 q5'
   have g25:Grow M2 M5:=gB.trans (hg4.trans hN5.grow)
   have hvx5:=hvx.grow g25
   refine z97 (l':=[((y.1,y.2.1),a4,(z19 y.2.2 x.2.2).length,f4,e4)]) (by exact gd) hvx5 rfl rfl rfl (by simp) (by simp;omega) rfl (z3x (l:=[((y.1,y.2.1),a4,(z19 y.2.2 x.2.2).length,f4,e4)]) hN5) (fun _=>rfl) (fun _=>rfl) ?_
   intro v6 M6 hv6 e6 hk6
   have hs5:=hs4.grow hN5.grow
   have hB5:=ze9 (x:=(y.1,y.2.1,z19 y.2.2 x.2.2)) (g:=f4) (u:=e4) hs5.sl
   have hB6:=hB5.keep' hk6 (fun i o he hne hF=>by
    rcases hs5 with h0|⟨i',o',h1,h2,h3⟩
    ·exact hne h0
    ·have he:a4=some (i,o):=he
     rw[h1] at he
     cases he
     obtain⟨hb,o2,n2,f2,e2,h4⟩:=hF
     cases h4
     have:=hva _ _ rfl
     have:=gB.le
     omega)
   obtain⟨r1,r2,r3,r4⟩:=hstep (b':=b) hv6 e6 g25 hk6 (.cons hB6 .nil)
   clear hN5 hk6
   repeat' first|with_reducible intro _|refine sv ?_|refine sc ?_ ?_<;>(intro h;try exact sz h)|refine sg ?_ ?_<;>(intro h;first|exact sz h|refine sy h ?_)|exact sq|fail
   exact zd (L.length - (k+1)) (by omega) ⟨k+1,M5.next,true,_,_,v6,rfl,by omega,rfl,.cons rfl (.cons rfl (.cons rfl (.cons rfl (.cons rfl .nil)))),r1,r2,hv6,r3,by simp;omega,by rw[hrest,<- heq];simp,r4⟩
  ·rename_i MA hgA qA MB hgB qB hne MC hgC qC MD hgD qD n5 M5 hN5 q5 q5'
   rw[if_neg hne,if_pos h] at heq
   have g25:Grow M2 M5:=hgA.trans (hgB.trans (hgC.trans (hgD.trans hN5.grow)))
   have hvx5:=hvx.grow g25
   refine z97 (l':=[((x.1,x.2.1),bx,x.2.2.length,gq,ux),((y.1,y.2.1),bk,y.2.2.length,gk,uk)]) (by exact gd) hvx5 rfl rfl rfl (by simp) (by simp;omega) rfl (z3x (l:=[((x.1,x.2.1),bx,x.2.2.length,gq,ux),((y.1,y.2.1),bk,y.2.2.length,gk,uk)]) hN5) (fun _=>rfl) (fun _=>rfl) ?_
   intro v6 M6 hv6 e6 hk6
   have g6:Grow M1 M6:=Keep.to_grow' (hg2.trans g25) hk6 (fun i hi=>by have:=hi.1;omega)
   have hy6:=hyB.grow g6 (b':=M5.next) (by have:=hg2.le;have:=g25.le;omega)
   have hx6:=hxB.grow g6 (b':=M5.next) (by have:=hg2.le;have:=g25.le;omega)
   obtain⟨r1,r2,r3,r4⟩:=hstep (b':=b) hv6 e6 g25 hk6 (.cons hx6 (.cons hy6 .nil))
   clear hN5 hk6
   repeat' first|with_reducible intro _|refine sv ?_|refine sc ?_ ?_<;>(intro h;try exact sz h)|refine sg ?_ ?_<;>(intro h;first|exact sz h|refine sy h ?_)|exact sq|fail
   exact zd (L.length - (k+1)) (by omega) ⟨k+1,M5.next,true,_,_,v6,rfl,by omega,rfl,.cons rfl (.cons rfl (.cons rfl (.cons rfl (.cons rfl .nil)))),r1,r2,hv6,r3,by simp;omega,by rw[hrest,<- heq];simp,r4⟩
  ·rename_i MA hgA qA MB hgB qB hne MC hgC qC MD hgD qD n5 M5 hN5 q5 q5'
   rw[if_neg hne,if_neg (by omega)] at heq
   have g25:Grow M2 M5:=hgA.trans (hgB.trans (hgC.trans (hgD.trans hN5.grow)))
   have hvx5:=hvx.grow g25
   refine z6k (l':=[((y.1,y.2.1),bk,y.2.2.length,gk,uk)]) (by exact gd) hvx5 rfl rfl rfl (by simp) (by simp;omega) rfl (z3x (l:=[((y.1,y.2.1),bk,y.2.2.length,gk,uk)]) hN5) (fun _=>rfl) (fun _=>rfl) ?_
   intro v6 M6 hv6 e6 hk6
   have g6:Grow M1 M6:=Keep.to_grow' (hg2.trans g25) hk6 (fun i hi=>by have:=hi.1;omega)
   have hy6:=hyB.grow g6 (b':=M5.next) (by have:=hg2.le;have:=g25.le;omega)
   obtain⟨r1,r2,r3,r4⟩:=hstep (b':=b) hv6 e6 g25 hk6 (.cons hy6 .nil)
   clear hN5 hk6
   repeat' first|with_reducible intro _|refine sv ?_|refine sc ?_ ?_<;>(intro h;try exact sz h)|refine sg ?_ ?_<;>(intro h;first|exact sz h|refine sy h ?_)|exact sq|fail
   exact zd (L.length - (k+1)) (by omega) ⟨k+1,M5.next,false,_,_,v6,rfl,by omega,rfl,.cons rfl (.cons rfl (.cons rfl (.cons rfl (.cons rfl .nil)))),r1,r2,hv6,r3,by simp;omega,by rw[<-heq,hrest];simp,r4⟩
theorem zdv:∀(J:List Fr) (x:Fr),(addR J x).length<=J.length+1
 | [],x=>by show([x]:List Fr).length<=_;simp
 | g :: l,x=>by
  have:=zdv l x
  unfold addR
  split
  ·simp
  ·split
   ·simp
   ·simp only[List.length_cons];omega
theorem zj1{J:List Fr}{x:Fr}(hJ:∀ z ∈ J,FrK z /\ z.2.2.length<=64)(hx:FrK x /\ x.2.2.length<=64):∀ z ∈ addR J x,FrK z /\ z.2.2.length<=64:=by
 induction J with
 | nil=>intro z hz;obtain rfl:z=x:=by simpa [addR] using hz
        exact hx
 | cons g l ih =>
  intro z hz
  have hg:=hJ g (by simp)
  have hl:∀ z ∈ l,FrK z /\ z.2.2.length<=64:=fun z hz=>hJ z (by simp[hz])
  unfold addR at hz
  split at hz
  ·rcases List.mem_cons.1 hz with rfl|hz
   ·refine⟨hg.1,?_⟩
    show(z19 g.2.2 x.2.2).length<=64
    rw[z20];omega
   ·exact hl z hz
  ·split at hz
   ·rcases List.mem_cons.1 hz with rfl|hz
    ·exact hx
    ·exact hJ z hz
   ·rcases List.mem_cons.1 hz with rfl|hz
    ·exact hg
    ·exact ih hl z hz
theorem zff{L:List Fr}:∀ {J:List Fr},(∀ z ∈ L,FrK z /\ z.2.2.length<=64)->(∀ z ∈ J,FrK z /\ z.2.2.length<=64)->(∀ z ∈ L.foldl addR J,FrK z /\ z.2.2.length<=64) /\ (L.foldl addR J).length<=J.length+L.length:=by
 induction L with
 | nil=>intro J _ h;exact⟨h,Nat.le_refl _⟩
 | cons x L ih =>
  intro J hL hJ
  obtain⟨h1,h2⟩:=ih (J:=addR J x) (fun z hz=>hL z (by simp[hz])) (zj1 hJ (hL x (by simp)))
  have:=zdv J x
  exact⟨h1,by rw[List.foldl_cons,List.length_cons];omega⟩
set_option maxHeartbeats 4000000 in
theorem zgh{M:Mem}{a:Option (Nat × Nat)}{L:List Fr}{f:Bool}{e:Nat}(hs:FsV M a L)(hL:∀ z ∈ L,FrK z /\ z.2.2.length<=64)(hln:L.length<=1000000) :
  z9 Tryz.prog 65 [.slice a L.length f e] M (fun w M'=>(∃ a f e,w=.slice a (z0u L).length f e /\ FsV M' a (z0u L)) /\ Grow M M'):=by
 refine zb k65 rfl ?_
 dsimp only[x65,zM,zO,zI,zF,zS,zB,zL,zA,zE,zN,zW,zC,zipE,Nat.reduceAdd]
 repeat' first|with_reducible intro _|refine sv ?_|refine sc ?_ ?_<;>(intro h;try exact sz h)|refine sg ?_ ?_<;>(intro h;first|exact sz h|refine sy h ?_)|exact sq|fail
 refine z8 (fun z E ms M'=>∃(k:Nat) (a2:Option (Nat × Nat)) (f2:Bool) (e2:Nat),z=L.length - k /\ k<=L.length /\ ms=[] /\ Has E [(0,.slice a L.length f e),(3,.slice a2 ((L.take k).foldl addR []).length f2 e2),(4,I k)] /\ FsV M' a2 ((L.take k).foldl addR []) /\ Grow M M')
  ?_ (L.length - 0) _ _ _ ⟨0,none,true,0,rfl,Nat.zero_le _,rfl,.cons rfl (.cons rfl (.cons rfl .nil)),.inl rfl,Grow.refl _⟩
 rintro z E ms M2 ⟨k,a2,f2,e2,rfl,hk,rfl,hE,hf2,hg2⟩
 refine zy hE ?_
 by_cases hlast:k=L.length
 ·subst hlast
  rw[List.take_length] at hf2 hE
  repeat' first|with_reducible intro _|refine sv ?_|refine sc ?_ ?_<;>(intro h;try exact sz h)|refine sg ?_ ?_<;>(intro h;first|exact sz h|refine sy h ?_)|exact sq|fail
  refine kf ?_
  rw[List.take_length]
  exact⟨⟨a2,f2,e2,rfl,hf2⟩,hg2⟩
 have hlt:k < L.length:=by omega
 obtain⟨i,o,bk,gk,uk,rfl,hrk,hsk⟩:=FsV.at (hs.grow hg2) hlt
 have hLk:=hL (fe L k) (by rw[zbz hlt];exact List.getElem_mem hlt)
 have hnext:(L.take (k+1)).foldl addR []=addR ((L.take k).foldl addR []) (fe L k):=by rw[z9e hlt,zbz hlt]
 obtain⟨ha1,ha2⟩:=zff (L:=L.take k) (J:=[]) (fun z hz=>hL z (List.mem_of_mem_take hz)) (fun z hz=>nomatch hz)
 rw[List.length_take] at ha2
 have ha3:([]:List Fr).length=0:=rfl
 generalize (L.take k).foldl addR []=J at *
 generalize fe L k=y at *
 have ca:=zog (f:=f2) (e:=e2) hf2 ha1 (v:=.agg [I y.1,I y.2.1,.slice bk y.2.2.length gk uk]) ⟨_,_,_,rfl,hsk⟩ hLk (by omega)
 (have hrd0:=hrk;repeat' (first|(with_reducible intro _)|refine sv ?_|(refine sc ?_ ?_<;>(intro h;try exact sz h))|((with_reducible first|apply zx|apply z0e|apply x_call0);exact gd;exact rfl;exact rfl;(first|exact ca))|refine sg ?_ ?_<;>(intro h;first|exact sz h|refine sy h ?_)|exact sq|fail))
 rename_i w3 M3 hq
 obtain⟨⟨a3,f3,e3,rfl,hf3⟩,hg3⟩:=hq
 repeat' first|with_reducible intro _|refine sv ?_|refine sc ?_ ?_<;>(intro h;try exact sz h)|refine sg ?_ ?_<;>(intro h;first|exact sz h|refine sy h ?_)|exact sq|fail
 exact zd (L.length - (k+1)) (by omega) ⟨k+1,a3,f3,e3,rfl,by omega,rfl,.cons rfl (.cons (by rw[hnext];rfl) (.cons rfl .nil)),by rw[hnext];exact hf3,hg2.trans hg3⟩
def salR(s:ByteArray):(List Fr × List Bd) × Int :=
 if 65536 < s.size then(([],[]),3) else if 128 <(z0u (whRA s).1).length then(([],[]),6) else((z0u (whRA s).1,(whRA s).2),0)
theorem zdb(l:List Fr)(h:FrOk l):(z0u l).length<=l.length:=by
 have h1:=(zpn h.k).len
 have h2:=zck l
 omega
end Go.Proofs.YtbfnnllgdioccaaGreatDoor.C
end
section
open Go PvL Go.Proofs
set_option linter.unusedSimpArgs false
set_option linter.unusedVariables false
namespace Go.Proofs.YtbfnnllgdioccaaGreatDoor.C
theorem zp3{s:ByteArray}{p:Nat}{x:Fr}{q:Nat}(hp:p<=s.size)(h:fdR s p=some (x,q)):frB x=true /\ q=p+(pkL x).length /\ Mt s p (pkL x):=by
 unfold fdR at h
 split at h
 ·split at h
  ·cases h
  ·rename_i l hl
   simp only at h
   split at h
   ·rename_i hc
    cases h
    exact⟨hc.1,rfl,(Mt.ext hp).2 ⟨hc.2.1,hc.2.2⟩⟩
   ·cases h
 ·cases h
theorem zpc{s:ByteArray}{p:Nat}{x:Fr}(hp:p<=s.size)(hf:frB x=true)(h:Mt s p (pkL x)):fdR s p=some (x,p+(pkL x).length):=by
 have hext:=(Mt.ext hp).1 h
 obtain⟨sh,ch,l⟩:=x
 have hbd:=z7v hf
 have hln:=z3w hf
 simp only at hbd hln
 obtain⟨sh,rfl⟩:∃ n:Nat,sh=n:=⟨sh.toNat,by omega⟩
 obtain⟨ch,rfl⟩:∃ n:Nat,ch=n:=⟨ch.toNat,by omega⟩
 have hb:bodyL ((sh:Int),(ch:Int),l)=[165,90] ++(twoL sh ++([u8 ch] ++([u8 l.length] ++ csL 0 l))):=by
  rw[zcx]
  show [165,90] ++(twoL (sh:Int).toNat ++([u8 (ch:Int).toNat] ++([u8 l.length] ++ csL 0 l)))=_
  rw[Int.toNat_natCast,Int.toNat_natCast]
 have h0:=h
 unfold pkL chkL at h
 obtain⟨hM,hC⟩:=Mt.app.1 h
 have hle:=hM.le hp
 rw[hb] at hM hle
 obtain⟨m1,hM⟩:=Mt.app.1 hM
 obtain⟨m2,hM⟩:=Mt.app.1 hM
 obtain⟨m3,hM⟩:=Mt.app.1 hM
 obtain⟨m4,m5⟩:=Mt.app.1 hM
 simp only[twoL,List.length_cons,List.length_nil,List.length_append] at m2 m3 m4 m5 hle
 have b0:byteAt s p=165:=m1.2.1
 have b1:byteAt s (p+1)=90:=m1.2.2.2.1
 have b2:byteAt s (p+2)=sh / 256:=by have:=m2.2.1;rw[u8_n (by omega)] at this;exact this
 have b3:byteAt s (p+3)=sh % 256:=by have:=m2.2.2.2.1;rw[u8_n (by omega)] at this;exact this
 have b4:byteAt s (p+4)=ch:=by have:=m3.2.1;rw[u8_n (by omega)] at this;exact this
 have b5:byteAt s (p+5)=l.length:=by have:=m4.2.1;rw[u8_n (by omega)] at this;exact this
 have a0:atR s p=165:=by unfold atR;rw[if_pos (by omega),b0];rfl
 have a1:atR s (p+1)=90:=by unfold atR;rw[if_pos (by omega),b1];rfl
 have r5:=zlo l (p+6) 0 [] (zlj hf) (by omega) m5
 rw[List.nil_append] at r5
 unfold fdR
 rw[if_pos ⟨a0,a1,by omega⟩,b2,b3,b4,b5,r5]
 simp only
 rw[show 256*(sh / 256)+sh % 256=sh by omega,if_pos ⟨hf,hext.1,hext.2⟩]
theorem zp2{s:ByteArray}{p:Nat}(hp:p<=s.size):fdR s p=FrD s p:=by
 cases h:FrD s p with
 | some xq =>
  obtain⟨x,q⟩:=xq
  obtain⟨h1,rfl,h3⟩:=zo5 hp h
  exact zpc hp h1 h3
 | none =>
  cases h':fdR s p with
  | none=>rfl
  | some xq =>
   obtain⟨x,q⟩:=xq
   obtain⟨h1,rfl,h3⟩:=zp3 hp h'
   rw[zpa hp h1 h3] at h
   cases h
theorem zdt{s:ByteArray}:∀(k p:Nat) (F:List Fr) (L:List Bd),whRB s k p F L=whB s k p F L
 | 0,p,F,L=>rfl
 | k+1,p,F,L=>by
  unfold whRB whB
  split
  ·rw[zp2 (by omega)]
   cases FrD s p with
   | none=>exact zdt k _ _ _
   | some xq=>exact zdt k _ _ _
  ·rfl
theorem zns(s:ByteArray):whRA s=whA s:=zdt _ _ _ _
theorem zr1{l l':List Int}{k:Nat}(hk:k < l.length)(hk':k < l'.length)(h:l[k] ≠ l'[k]):decide (l=l')=false:=by
 rw[decide_eq_false_iff_not]
 rintro rfl
 exact h rfl
set_option maxHeartbeats 2000000 in
theorem zmc{M:Mem}{a b:Option (Nat × Nat)}{l l':List Int}{f f':Bool}{e e':Nat}(ha:SlI M a l)(hb:SlI M b l')(hl:l.length<=1000000000000000)(hl':l'.length<=1000000000000000) :
  z9 Tryz.prog 16 [.slice a l.length f e,.slice b l'.length f' e'] M (fun w M'=>w=.bool (decide (l=l')) /\ M'=M):=by
 refine zb k16 rfl ?_
 dsimp only[x16,zM,zO,zI,zF,zS,zB,zL,zA,zE,zN,zW,zC,zipE,Nat.reduceAdd]
 by_cases hne:l.length=l'.length
 ·repeat' first|with_reducible intro _|refine sv ?_|refine sc ?_ ?_<;>(intro h;try exact sz h)|refine sg ?_ ?_<;>(intro h;first|exact sz h|refine sy h ?_)|exact sq|fail
  all_goals try(exfalso;omega)
  refine z8 (fun m E ms M'=>∃ k:Nat,m=l.length - k /\ k<=l.length /\ ms=[] /\ Has E [(0,.slice a l.length f e),(1,.slice b l'.length f' e'),(5,I k)] /\ M'=M /\ l.take k=l'.take k)
   ?_ l.length _ _ _ ⟨0,by omega,by omega,rfl,.cons rfl (.cons rfl (.cons rfl .nil)),rfl,rfl⟩
  rintro m E ms M1 ⟨k,rfl,hk,rfl,hE,rfl,hall⟩
  refine zy hE ?_
  by_cases hlast:k=l.length
  ·subst hlast
   repeat' first|with_reducible intro _|refine sv ?_|refine sc ?_ ?_<;>(intro h;try exact sz h)|refine sg ?_ ?_<;>(intro h;first|exact sz h|refine sy h ?_)|exact sq|fail
   refine kf ?_
   refine⟨?_,rfl⟩
   rw[List.take_of_length_le (Nat.le_refl _),List.take_of_length_le (by omega)] at hall
   rw[decide_eq_true hall];rfl
  ·have hlt:k < l.length:=by omega
   have hlt':k < l'.length:=by omega
   obtain⟨i,o,rfl,hr⟩:=ha.rd hlt
   obtain⟨i2,o2,rfl,hr2⟩:=hb.rd hlt'
   by_cases heq:l[k]=l'[k]
   ·rw[<-heq] at hr2
    have htk:l.take (k+1)=l'.take (k+1):=by
     rw[List.take_succ_eq_append_getElem hlt,List.take_succ_eq_append_getElem hlt',hall,heq]
    generalize l[k]=p at *
    (have hrd0:=hr;have hrd1:=hr2;repeat' (first|(with_reducible intro _)|refine sv ?_|(refine sc ?_ ?_<;>(intro h;try exact sz h))|refine sg ?_ ?_<;>(intro h;first|exact sz h|refine sy h ?_)|exact sq|fail))
    all_goals try(exfalso;omega)
    refine zd (l.length - (k+1)) (by omega) ⟨k+1,rfl,by omega,rfl,.cons rfl (.cons rfl (.cons rfl .nil)),rfl,htk⟩
   ·have hd:=zr1 hlt hlt' heq
    rw[hd]
    generalize l[k]=p at *
    generalize l'[k]=q at *
    (have hrd0:=hr;have hrd1:=hr2;repeat' (first|(with_reducible intro _)|refine sv ?_|(refine sc ?_ ?_<;>(intro h;try exact sz h))|refine sg ?_ ?_<;>(intro h;first|exact sz h|refine sy h ?_)|exact sq|fail))
    all_goals try(exfalso;omega)
    refine kf ?_
    exact⟨rfl,rfl⟩
 ·have hd:decide (l=l')=false:=by
   rw[decide_eq_false_iff_not];rintro rfl;exact hne rfl
  rw[hd]
  repeat' first|with_reducible intro _|refine sv ?_|refine sc ?_ ?_<;>(intro h;try exact sz h)|refine sg ?_ ?_<;>(intro h;first|exact sz h|refine sy h ?_)|exact sq|fail
  all_goals try(exfalso;omega)
  refine kf ?_
  exact⟨rfl,rfl⟩
set_option maxHeartbeats 2000000 in
theorem zd0{M:Mem}{v w:LV}{x y:Fr}(hv:FrV M v x)(hw:FrV M w y)(hl:x.2.2.length<=1000000000000000)(hl':y.2.2.length<=1000000000000000) :
  z9 Tryz.prog 70 [v,w] M (fun r M'=>r=.bool (decide (x=y)) /\ Grow M M'):=by
 obtain⟨a,f,e,rfl,hs⟩:=hv
 obtain⟨b,f',e',rfl,hs'⟩:=hw
 obtain⟨x1,x2,x3⟩:=x
 obtain⟨y1,y2,y3⟩:=y
 dsimp only at *
 have hd:decide ((x1,x2,x3)=(y1,y2,y3))=(decide (x1=y1) && (decide (x2=y2) && decide (x3=y3))):=by
  rw[Bool.eq_iff_iff];simp
 rw[hd]
 have hc:∀ M',Grow M M'->z9 Tryz.prog 16 [.slice a x3.length f e,.slice b y3.length f' e'] M' (fun w M''=>w=.bool (decide (x3=y3)) /\ M''=M'):=fun M' hg=>zmc (hs.grow hg) (hs'.grow hg) hl hl'
 refine zb k70 rfl ?_
 dsimp only[x70,zM,zO,zI,zF,zS,zB,zL,zA,zE,zN,zW,zC,zipE,Nat.reduceAdd]
 by_cases h1:x1=y1
 ·by_cases h2:x2=y2
  ·repeat' first|with_reducible intro _|refine sv ?_|refine sc ?_ ?_<;>(intro h;try exact sz h)|((with_reducible first|apply z02|apply z0f|apply d_same0);exact gd;exact rfl;exact rfl;(first|exact hc _ (xg)))|refine sg ?_ ?_<;>(intro h;first|exact sz h|refine sy h ?_)|exact sq|fail
   refine kf ?_
   refine⟨?_,xg⟩
   rw[decide_eq_true h1,decide_eq_true h2];rfl
  ·repeat' first|with_reducible intro _|refine sv ?_|refine sc ?_ ?_<;>(intro h;try exact sz h)|refine sg ?_ ?_<;>(intro h;first|exact sz h|refine sy h ?_)|exact sq|fail
   refine kf ?_
   refine⟨?_,xg⟩
   rw[decide_eq_true h1,decide_eq_false h2];rfl
 ·repeat' first|with_reducible intro _|refine sv ?_|refine sc ?_ ?_<;>(intro h;try exact sz h)|refine sg ?_ ?_<;>(intro h;first|exact sz h|refine sy h ?_)|exact sq|fail
  refine kf ?_
  refine⟨?_,xg⟩
  rw[decide_eq_false h1];rfl
end Go.Proofs.YtbfnnllgdioccaaGreatDoor.C
end
section
open Go PvL Go.Proofs
set_option linter.unusedSectionVars false
set_option linter.unusedSimpArgs false
set_option linter.unusedVariables false
variable {μ:Md}
namespace Go.Proofs.YtbfnnllgdioccaaGreatDoor.C
section
variable {α:Type} {b q:Nat} {ty:TypeId} {enc:α->List LV} {M:Mem} {v:LV} {l l':List α} {P:Program} [Orc P] {sz:Nat} {E:Env} {K:Env->Mem->Prop} {ll:List XG} {d:Nat} {g:Option (Nat × Bool)} {s x:XO} {st:List Mem} {k:Nat} {xs:List (Nat × Nat × (Mem->Prop))} {ld:List (XG × XK)} {by':Nat} {z:List LV} {xv:LV}
theorem Vec.app0(h:Vec b q ty enc M v l)(hs:xval E s=some v)(hx:xval E x=some xv)(hn:z0v xv=some 0):zf P (.app ty q by' z s x) E M=some (.val v M):=by
 obtain⟨a,f,e,rfl⟩:=h.shape
 show ob (xval E s) _=_
 rw[hs,z0,hx,z0]
 show ob (z0v xv) _=_
 rw[hn,z0];rfl
