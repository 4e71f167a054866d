/-
 Part of the proof of TapeKept. No condition beyond those in each theorem.
-/
import Derived.Test.YtpgalhbplcanhaaGreatDoorSC
set_option linter.unusedVariables false
set_option linter.unusedSimpArgs false
section
open Go PvL Go.Proofs
variable {μ:Md}
namespace Go.Proofs.YtpgalhbplcanhaaGreatDoor.C
variable {Mb M M':Mem} {b m n e t:Nat} {A:ScA} {s:Sc} {l:List Bool} {own f v:Bool} {ty:TypeId} {a:Option (Nat × Nat)}
theorem z2z {F:Nat->Prop}(g:Grow Mb M)(k:Keep F M M')(d:∀ i,F i->Mb.next<=i):Grow Mb M' :=
 ⟨Nat.le_trans g.le k.le,fun i c=>by rw[k.old i (Nat.lt_of_lt_of_le c g.le) (fun h=>by have:=d i h;omega),g.old i c]⟩
theorem zcg:∀ {bs:List Nat} {es:List (LV×LV)} {i:Nat} {e:LV×LV},bs[i]?=some b->es[i]?=some e->∃ e',stampL b bs es=some e'/\e'∈es
 | [],_,i,_,h,_=>by simp at h
 | c::bs,[],i,_,_,h=>by simp at h
 | c::bs,f::es,i,e,h1,g=>by
  show ∃ e',ifb (Nat.beq c b) (some f) (stampL b bs es)=some e'/\e'∈f::es
  cases d:Nat.beq c b with
  | true=>exact⟨f,rfl,List.mem_cons_self⟩
  | false=>
   rw[ze]
   cases i with
   | zero=>
    have:c=b:=by simpa using h1
    subst this
    rw[Nat.beq_refl] at d;cases d
   | succ i=>
    obtain⟨e',j,o⟩:=zcg (bs:=bs) (es:=es) (i:=i) (e:=e) (by simpa using h1) (by simpa using g)
    exact⟨e',j,List.mem_cons_of_mem _ o⟩
set_option maxHeartbeats 8000000 in
theorem znc {w:Wt}{M0:Mem}{l ps pw:Nat}{O:Bool}{a3:TypeId}(hM:ScM Mb A s)(hO:OcM Mb)(hs:ScOk s)(hw:WtOk w)(hb:Grow Mb M0)(c0:At M0 ps (.cells own (scc A s) ty))(c1:At M0 pw (.cells O (wtc w) a3))(F:Nat->Prop)(Iv:Nat->Mem->Prop)(D:Mem->Prop)(hF:∀ i,F i->Mb.next<=i/\i<M0.next/\i≠ps/\i≠pw)(b8:∀ k M1 M2,Iv k M1->M1.next<=M2.next->(∀ i,i<M1.next->i≠M0.next->M2.get i=M1.get i)->Iv k M2)(step:∀ k ok M1,k<s.sh.length->M0.next<M1.next->Iv k M1->KmM AnV M1 M0.next->Grow Mb M1->RoundN Tryz.prog l [.map (some M0.next),.bool ok] M1 (fun r M2=>Keep (fun i=>F i∨M0.next<i) M1 M2/\((r=.bool true/\ok=true/\Iv (k+1) M2) ∨(r=.bool false/\D M2))))(h0:Iv 0 M0) :
  CallN Tryz.prog 301 [.func (.yield l) [] [],.ptr (some (ps,0)),.ptr (some (pw,0))] M0 (fun _ M'=>(Iv s.sh.length M'∨D M')/\M0.next<=M'.next):=by
 have d1:=fun M'=>z8p A s M'
 have d0:=fun nm t M' (hg:Grow Mb M')=>zul (hM.grow hg) nm t
 have e7:=fun x hx y M' (hg:Grow Mb M') (hK:KmM AnV M' y)=>zx6 (hM.grow hg) (hO.grow hg) hs.n2 x hx hK
 have e5:=fun x hx v M' (hg:Grow Mb M') (hv:AnV v)=>zwu (hM.grow hg) x hx hv
 have r3:=hM.sg
 have g2:=hs.ok
 have j9:=hs.n2
 have j7:=hM.l5
 have k2:=hw.sp
 have k1:=hw.ho
 clear hM hs hw hO
 obtain⟨P,Q,p,ar,fr,er,ae,fe,ee,ah,fh,eh,ag,fg,eg⟩:=A
 obtain⟨R,sr,ey,rr,o⟩:=s
 obtain⟨wz,Y,a7,a9,a6,b0,a8⟩:=w
 dsimp only at *
 have c0:At M0 ps (.cells own [.slice P R.length Q p,.slice ar sr.length fr er,.slice ae ey.length fe ee,.slice ah rr.length fh eh,.slice ag o.length fg eg] ty):=c0
 have c1:At M0 pw (.cells O [I wz,I Y,I a7,I a9,I a6,I b0,I a8] a3):=c1
 have d1:∀ M',zc Tryz.prog 54 [.agg [.slice P R.length Q p,.slice ar sr.length fr er,.slice ae ey.length fe ee,.slice ah rr.length fh eh,.slice ag o.length fg eg]] M' (fun w S=>w=I R.length/\Grow M' S):=d1
 have d0:∀(nm:ByteArray) (t:Int) (M':Mem),Grow Mb M'->zc Tryz.prog 302 [.agg [.slice P R.length Q p,.slice ar sr.length fr er,.slice ae ey.length fe ee,.slice ah rr.length fh eh,.slice ag o.length fg eg],.str nm,I t] M' (fun w S=>(∃ b,w=.bool b)/\Grow M' S):=d0
 refine z1z Y301.2 rfl ?_
 delta Y301;refine un ?_
 have j1:=c0.2
 have j2:=c1.2
 have j8:=hb.le
 refine Wph @d1 ?_;intro y M1 u1 u2 u3 M2 u4 u5
 have B1:At M2 ps (.cells own [.slice P R.length Q p,.slice ar sr.length fr er,.slice ae ey.length fe ee,.slice ah rr.length fh eh,.slice ag o.length fg eg] ty):=xm
 have B2:At M2 pw (.cells O [I wz,I Y,I a7,I a9,I a6,I b0,I a8] a3):=xm
 have e9:Grow Mb M2:=hb.trans (xg)
 have f3:KmM AnV M2 y:=⟨[],[],0,⟨(At.new_same u1).grow u4,rfl,fun b hb=>(nomatch hb),fun e he=>(nomatch he)⟩⟩
 have f0:Iv 0 M2:=b8 0 M0 M2 h0 (by omega) (fun i g _=>(u1.grow.trans u4).old i g)
 rw[<-u2] at b8 step
 clear u1 u4 c0 c1 h0 hb
 refine zg (fun z E ms M=>∃ t:Nat,z=R.length-t/\t<=R.length/\ms=[]/\Has E [(0,.func (.yield l) [] []),(1,.ptr (some (ps,0))),(2,.ptr (some (pw,0))),(4,.map (some y)),(15,I R.length),(16,I t)]/\Grow Mb M/\y<M.next/\At M ps (.cells own [.slice P R.length Q p,.slice ar sr.length fr er,.slice ae ey.length fe ee,.slice ah rr.length fh eh,.slice ag o.length fg eg] ty)/\At M pw (.cells O [I wz,I Y,I a7,I a9,I a6,I b0,I a8] a3)/\KmM AnV M y/\Iv t M)
  ?_ R.length _ _ _ ⟨0,by omega,by omega,rfl,hz,e9,by omega,B1,B2,f3,f0⟩
 clear B1 B2 e9 f3 f0
 rintro z E ms M3 ⟨t,rfl,ht,rfl,hE,d4,j6,B1,B2,h8,f1⟩
 refine z06 hE ?_
 by_cases d7:t=R.length
 ·subst d7
  refine Wg ?_;intro h
  refine kf ?_
  exact⟨.inl f1,by omega⟩
 have i4:t<R.length:=by omega
 refine Wg ?_;intro h
 obtain⟨h4,e4,c,G⟩:=h8
 refine z2m (by exact gd) (zmu rfl G.at_) ?_
 have hN:New M3 M3.next (.iter (some y) c [] c) (M3.push (.iter (some y) c [] c)):=⟨rfl,rfl⟩
 generalize M3.push (.iter (some y) c [] c)=M4 at *
 have a1:=At.new_same hN
 have i6:=hN.next
 have h1:Keep (fun i=>i=y) M3 M4:=hN.grow.to_keep _
 have c2:=G.keep (F:=fun _=>False) (hN.grow.to_keep _) (fun h=>h)
 generalize j0:M3.next=it at *
 clear hN G
 refine Wh ?_
 refine zg (fun z E ms M=>∃(es:List (LV×LV)) (bs d:List Nat) (a5:Nat),z=unS d bs/\ms=[]/\Has E [(0,.func (.yield l) [] []),(1,.ptr (some (ps,0))),(2,.ptr (some (pw,0))),(4,.map (some y)),(5,I t),(15,I R.length),(16,I t),(20,.ptr (some (it,0)))]/\At M it (.iter (some y) c d a5)/\KmE AnV M y es bs c/\(d=[]∨a5=c)/\Keep (fun i=>i=y) M3 M/\it<M.next)
  ?_ (unS [] e4) _ _ _ ⟨h4,e4,[],c,rfl,rfl,hz,a1,c2,.inl rfl,h1,by omega⟩
 clear a1 c2 h1 i6 hE
 rintro z E ms H ⟨es,bs,d,a5,rfl,rfl,hE,a1,G,f8,J,f7⟩
 refine z06 hE ?_
 have b4:allLt c bs=true:=z81 G.lt
 have d9:d=[]∨es=[]∨anyLt a5 bs=true:=by
  rcases f8 with rfl|rfl
  ·exact .inl rfl
  ·cases bs with
   | nil=>exact .inr (.inl (List.length_eq_zero_iff.1 (by rw[<-G.len];rfl)))
   | cons b bs=>exact .inr (.inr (z66 (x:=b) (by simp) (G.lt b (by simp))))
 have L:Grow Mb H:=z2z d4 J (fun i g=>by omega)
 have Z:At H ps (.cells own [.slice P R.length Q p,.slice ar sr.length fr er,.slice ae ey.length fe ee,.slice ah rr.length fh eh,.slice ag o.length fg eg] ty):=B1.keep J (fun h=>by omega)
 have a0:At H pw (.cells O [I wz,I Y,I a7,I a9,I a6,I b0,I a8] a3):=B2.keep J (fun h=>by omega)
 by_cases hl:leftL d bs es=[]
 rotate_left
 ·apply z54
  apply zen
  refine zg3 (by exact gd) rfl a1 G.at_ b4 d9 hl ?_
  intro b kk v c3 M6 f4 e6 a4
  obtain⟨i,f5,i1,i2⟩:=z6m c3
  have f6:y≠it:=by omega
  have k6:Keep (fun i=>i=it) H M6:=(Keep.refl _ _).upd f4 (.inl rfl)
  have V:=G.keep k6 (fun h=>f6 h)
  have j3:=Z.keep k6 (fun h=>by omega)
  have j4:=a0.keep k6 (fun h=>by omega)
  have e3:Keep (fun i=>i=y) M3 M6:=J.trans k6 (fun i g=>.inr (by omega))
  have d5:Grow Mb M6:=z2z L k6 (fun i g=>by omega)
  obtain⟨e,i7,d8⟩:=zcg f5 i1
  have e0:=zcm i2 (List.mem_of_getElem? f5)
  obtain⟨⟨nm,g1⟩,r,h2,hr,g3,g5⟩:=G.el e d8
  obtain⟨e1,e2⟩:=e
  dsimp only at g1 hr
  subst g1 hr
  clear f4 k6 c3 a1 Z a0
  refine Wh ?_;intro h
  refine z2m (by exact gd) (zmr rfl a4 V.at_ V.len i7) ?_
  repeat' first|with_reducible intro _|refine sv ?_|refine ss ?_ ?_<;>(intro h;first|exact sz h|refine sy h ?_)|exact sq|fail
  ·rename_i n7 M7 v1 v2 v3 M8 v4 v5 v6
   have d3:Grow M6 M8:=xg
   repeat' first|with_reducible intro _|refine sv ?_|((with_reducible first|apply zk|apply zp|apply zh);exact gd;exact rfl;exact rfl;(first|exact d0 nm t _ (d5.trans (xg))))|refine ss ?_ ?_<;>(intro h;first|exact sz h|refine sy h ?_)|exact sq|fail
   rename_i w M9 hq
   obtain⟨⟨bb,rfl⟩,g9⟩:=hq
   have l9:=g9.le
   have b1:Grow M6 M9:=d3.trans g9
   cases bb with
   | false=>
    refine Wh ?_;intro h
    refine zxv (by exact gd) (V.keep (F:=fun _=>False) (b1.to_keep _) (fun h=>h)) rfl rfl ?_
    intro p U c4 g7 j5 f2 b5
    refine Wh ?_
    have d6:At c4 it (.iter (some y) c (d++[b]) c):=(a4.grow b1).keep g7 (fun h=>by omega)
    refine zi (unS (d++[b]) U) (Nat.lt_of_le_of_lt (b5 _) e0) ⟨p,U,d++[b],c,rfl,rfl,hz,d6,f2,.inr rfl,(e3.trans (b1.to_keep (fun _=>False)) (fun i g=>g.elim)).trans g7 (fun i g=>.inl g),by have:=b1.le;omega⟩
   | true=>
    clear b1 d3
    repeat' first|with_reducible intro _|refine sv ?_|((with_reducible first|apply zk|apply zp|apply zh);exact gd;exact rfl;exact rfl;(first|exact zbt r (n:=Y) (by omega) _))|refine ss ?_ ?_<;>(intro h;first|exact sz h|refine sy h ?_)|exact sq|fail
    rename_i w c4 hq
    obtain⟨⟨q,e,rfl⟩,d2⟩:=hq
    have i9:=d2.le
    refine Wh ?_;intro c5 v7 v8 v9
    have C:Grow M6 c5:=xg
    refine zpd (by exact gd) (V.keep (F:=fun _=>False) (C.to_keep _) (fun h=>h)) rfl rfl rfl ⟨q,h2,rfl,g3,g5⟩ ?_
    intro p U K c7 b6 h3 b3 b5
    obtain⟨rfl,rfl,_⟩:=b5 ⟨_,d8,rfl⟩
    refine Wh ?_
    have a2:At c7 it (.iter (some y) K (d++[b]) K):=(a4.grow C).keep b6 (fun h=>by omega)
    refine zi (unS (d++[b]) U) e0 ⟨p,U,d++[b],K,rfl,rfl,hz,a2,b3,.inr rfl,(e3.trans (C.to_keep (fun _=>False)) (fun i g=>g.elim)).trans b6 (fun i g=>.inl g),by have:=C.le;omega⟩
  ·rename_i n7 M7 v1 v2 v3 M8 v4 v5 v6 k0
   have d3:Grow M6 M8:=xg
   repeat' first|with_reducible intro _|refine sv ?_|((with_reducible first|apply zk|apply zp|apply zh);exact gd;exact rfl;exact rfl;(first|exact zbt r (n:=Y) (by omega) _))|refine ss ?_ ?_<;>(intro h;first|exact sz h|refine sy h ?_)|exact sq|fail
   rename_i w c4 hq
   obtain⟨⟨q,e,rfl⟩,d2⟩:=hq
   have i9:=d2.le
   refine Wh ?_;intro c5 v7 v8 v9
   have C:Grow M6 c5:=xg
   refine zpd (by exact gd) (V.keep (F:=fun _=>False) (C.to_keep _) (fun h=>h)) rfl rfl rfl ⟨q,h2,rfl,g3,g5⟩ ?_
   intro p U K c7 b6 h3 b3 b5
   obtain⟨rfl,rfl,_⟩:=b5 ⟨_,d8,rfl⟩
   refine Wh ?_
   have a2:At c7 it (.iter (some y) K (d++[b]) K):=(a4.grow C).keep b6 (fun h=>by omega)
   refine zi (unS (d++[b]) U) e0 ⟨p,U,d++[b],K,rfl,rfl,hz,a2,b3,.inr rfl,(e3.trans (C.to_keep (fun _=>False)) (fun i g=>g.elim)).trans b6 (fun i g=>.inl g),by have:=C.le;omega⟩
 apply z54
 apply zen
 refine z2m (by exact gd) (zg9 rfl a1 G.at_ G.len b4 d9 hl) ?_
 have B:KmM AnV H y:=⟨es,bs,c,G⟩
 clear a1 G f8 b4 d9 hl hE
 refine Wg ?_;intro h
 refine zg (fun z E ms M=>∃(j:Nat) (bb:Bool),z=o.length-j/\j<=o.length/\ms=[]/\Has E [(0,.func (.yield l) [] []),(1,.ptr (some (ps,0))),(2,.ptr (some (pw,0))),(4,.map (some y)),(5,I t),(8,.bool bb),(15,I R.length),(16,I t),(56,.slice ag o.length fg eg),(57,I o.length),(58,I j)]/\KmM AnV M y/\Keep (fun i=>i=y) M3 M)
  ?_ o.length _ _ _ ⟨0,true,by omega,by omega,rfl,hz,B,J⟩
 clear B J L Z a0 f7
 rintro z E ms H ⟨j,bb,rfl,hj,rfl,hE,B,J⟩
 refine z06 hE ?_
 have l5:=J.le
 have L:Grow Mb H:=z2z d4 J (fun i g=>by omega)
 have Z:At H ps (.cells own [.slice P R.length Q p,.slice ar sr.length fr er,.slice ae ey.length fe ee,.slice ah rr.length fh eh,.slice ag o.length fg eg] ty):=B1.keep J (fun h=>by omega)
 have a0:At H pw (.cells O [I wz,I Y,I a7,I a9,I a6,I b0,I a8] a3):=B2.keep J (fun h=>by omega)
 by_cases f9:j=o.length
 rotate_left
 ·have N:j<o.length:=by omega
  rcases r3 with rfl|⟨i3,o3,rfl,r3⟩
  ·exact absurd N (Nat.not_lt_zero _)
  have q3:=(r3 j N).grow L
  have hx:=g2 o[j] (List.getElem_mem N)
  have c9:=fun M' hg hK=>e7 o[j] hx y M' hg hK
  generalize o[j]=x at *
  obtain⟨xs,xn,xo,x1,x2⟩:=x
  have c9:∀ M',Grow Mb M'->KmM AnV M' y->zc Tryz.prog 303 [.agg [.slice P R.length Q p,.slice ar sr.length fr er,.slice ae ey.length fe ee,.slice ah rr.length fh eh,.slice (some (i3,o3)) o.length fg eg],.map (some y),.agg [I xs,.str xn,I xo,I x1,I x2]] M' (fun w S=>(∃ b,w=.bool b)/\KmM AnV S y/\Keep (fun i=>i=y) M' S):=c9
  have q3:Rd H i3 (o3+j*5) 5 [I xs,.str xn,I xo,I x1,I x2]:=q3
  cases bb with
  | false=>
   have X:=q3;refine Wg ?_;intro h b7 M6 v1 v2 v3 M7 v4 v5 v6
   have u:Grow H M7:=xg
   exact zi (o.length-(j+1)) (by omega) ⟨j+1,false,rfl,by omega,rfl,hz,B.grow u,J.trans (u.to_keep (fun _=>False)) (fun i g=>g.elim)⟩
  | true=>
   by_cases i8:xs=(t:Int)
   ·(have X:=q3;repeat' (first|(with_reducible intro _)|refine sv ?_|((with_reducible first|apply zk|apply zp|apply zh);exact gd;exact rfl;exact rfl;(first|exact c9 _ (L.trans (xg)) (B.grow (xg))))|refine ss ?_ ?_<;>(intro h;first|exact sz h|refine sy h ?_)|exact sq|fail))
    all_goals try(exfalso;omega)
    rename_i b7 M6 v1 v2 v3 M7 v4 v5 v6 w M8 hq
    obtain⟨⟨b2,rfl⟩,i0,k8⟩:=hq
    have u:Grow H M7:=xg
    have l8:=k8.le
    refine Wh ?_
    exact zi (o.length-(j+1)) (by omega) ⟨j+1,b2,rfl,by omega,rfl,hz,i0,(J.trans (u.to_keep (fun _=>False)) (fun i g=>g.elim)).trans k8 (fun i g=>.inl g)⟩
   ·have X:=q3;refine Wg ?_;intro _ b7 M6 v1 v2 v3 M7 v4 v5 v6 h
    have u:Grow H M7:=xg
    exact zi (o.length-(j+1)) (by omega) ⟨j+1,true,rfl,by omega,rfl,hz,B.grow u,J.trans (u.to_keep (fun _=>False)) (fun i g=>g.elim)⟩
 refine Wg ?_;intro h
 refine zg (fun z E ms M=>∃(j:Nat) (bb:Bool),z=o.length-j/\j<=o.length/\ms=[]/\Has E [(0,.func (.yield l) [] []),(1,.ptr (some (ps,0))),(2,.ptr (some (pw,0))),(4,.map (some y)),(5,I t),(8,.bool bb),(15,I R.length),(16,I t),(78,.slice ag o.length fg eg),(79,I o.length),(80,I j)]/\KmM AnV M y/\Keep (fun i=>i=y) M3 M)
  ?_ o.length _ _ _ ⟨0,bb,by omega,by omega,rfl,hz,B,J⟩
 clear B J L Z a0 l5 f9 hj hE
 rintro z E ms H ⟨j,bb,rfl,hj,rfl,hE,B,J⟩
 refine z06 hE ?_
 have l5:=J.le
 have L:Grow Mb H:=z2z d4 J (fun i g=>by omega)
 have Z:At H ps (.cells own [.slice P R.length Q p,.slice ar sr.length fr er,.slice ae ey.length fe ee,.slice ah rr.length fh eh,.slice ag o.length fg eg] ty):=B1.keep J (fun h=>by omega)
 have a0:At H pw (.cells O [I wz,I Y,I a7,I a9,I a6,I b0,I a8] a3):=B2.keep J (fun h=>by omega)
 by_cases f9:j=o.length
 rotate_left
 ·have N:j<o.length:=by omega
  rcases r3 with rfl|⟨i3,o3,rfl,r3⟩
  ·exact absurd N (Nat.not_lt_zero _)
  have q3:=(r3 j N).grow L
  have hx:=g2 o[j] (List.getElem_mem N)
  have c8:=fun v M' hg hv=>e5 o[j] hx v M' hg hv
  generalize o[j]=x at *
  obtain⟨xs,xn,xo,x1,x2⟩:=x
  have c8:∀ v M',Grow Mb M'->AnV v->zc Tryz.prog 304 [.agg [.slice P R.length Q p,.slice ar sr.length fr er,.slice ae ey.length fe ee,.slice ah rr.length fh eh,.slice (some (i3,o3)) o.length fg eg],v,.agg [I xs,.str xn,I xo,I x1,I x2]] M' (fun w S=>(∃ b,w=.bool b)/\Grow M' S):=c8
  have q3:Rd H i3 (o3+j*5) 5 [I xs,.str xn,I xo,I x1,I x2]:=q3
  cases bb with
  | false=>
   have X:=q3;refine Wg ?_;intro h b7 M6 v1 v2 v3 M7 v4 v5 v6
   have u:Grow H M7:=xg
   exact zi (o.length-(j+1)) (by omega) ⟨j+1,false,rfl,by omega,rfl,hz,B.grow u,J.trans (u.to_keep (fun _=>False)) (fun i g=>g.elim)⟩
  | true=>
   by_cases i8:xs=(t:Int)
   ·have X:=q3;refine Wg ?_;intro _ b7 M6 v1 v2 v3 M7 v4 v5 v6 h
    have u:Grow H M7:=xg
    refine zvx (by exact gd) (B.grow u) rfl rfl AnV.zero ?_
    intro v b hv
    show XW _ _ _ _ ((95,v)::_) _ _
    repeat' first|with_reducible intro _|refine sv ?_|((with_reducible first|apply zk|apply zp|apply zh);exact gd;exact rfl;exact rfl;(first|exact c8 v _ (L.trans (xg)) hv))|refine ss ?_ ?_<;>(intro h;first|exact sz h|refine sy h ?_)|exact sq|fail
    all_goals try(exfalso;omega)
    rename_i w M8 hq
    obtain⟨⟨b2,rfl⟩,g8⟩:=hq
    have e8:Grow H M8:=u.trans g8
    refine Wh ?_
    exact zi (o.length-(j+1)) (by omega) ⟨j+1,b2,rfl,by omega,rfl,hz,B.grow e8,J.trans (e8.to_keep (fun _=>False)) (fun i g=>g.elim)⟩
   ·have X:=q3;refine Wg ?_;intro _ b7 M6 v1 v2 v3 M7 v4 v5 v6 h
    have u:Grow H M7:=xg
    exact zi (o.length-(j+1)) (by omega) ⟨j+1,true,rfl,by omega,rfl,hz,B.grow u,J.trans (u.to_keep (fun _=>False)) (fun i g=>g.elim)⟩
 refine Wg ?_;intro h
 have h6:Iv t H:=b8 t M3 H f1 l5 (fun i g i5=>J.old i g i5)
 refine zpe (by exact gd) rfl rfl (step t bb H i4 (by omega) h6 B L) ?_
 have b9:∀ i,(F i∨y<i)->i≠y/\i≠ps/\i≠pw/\Mb.next<=i:=fun i g=>by
  rcases g with g|g
  ·have:=hF i g;omega
  ·omega
 rintro r M6 ⟨k6,⟨rfl,rfl,h7⟩|⟨rfl,hD⟩⟩
 ·have l6:=k6.le
  have C1:=Z.keep k6 (fun h=>(b9 _ h).2.1 rfl)
  have C2:=a0.keep k6 (fun h=>(b9 _ h).2.2.1 rfl)
  have h9:=B.keep k6 (fun h=>(b9 _ h).1 rfl)
  have d5:=z2z L k6 (fun i g=>(b9 i g).2.2.2)
  refine Wh ?_;intros
  exact zi (R.length-(t+1)) (by omega) ⟨t+1,rfl,by omega,rfl,hz,d5,by omega,C1,C2,h9,h7⟩
 ·have l6:=k6.le
  refine Wh ?_;intros
  refine kf ?_
  exact⟨.inr hD,by omega⟩
theorem zuu {P:Program}{f:FuncId}{x:XF}(h:cFn P f=some x):∃ fd,fnOf P f=some fd:=by
 unfold cFn at h
 cases c:fnOf P f with
 | none=>rw[c] at h;cases h
 | some fd=>exact⟨fd,rfl⟩
theorem zjx {w:Wt}:zc Tryz.prog 241 [scv A s,wtv w] M (fun r M'=>(∃ c d,r=.func (.func 301) [] [.ptr (some (c,0)),.ptr (some (d,0))]/\At M' c (.cells true (scc A s) 154)/\At M' d (.cells true (wtc w) 58)/\M.next<=c/\M.next<=d)/\Grow M M'):=by
 refine zd Y241.2 rfl ?_
 delta Y241;refine un ?_
 refine Wh ?_;intros
 refine kf ?_
 exact⟨⟨_,_,rfl,xm,xm,by omega,by omega⟩,xg⟩
abbrev blc (b:Bool):List LV:=[.bool b]
theorem ziz {b:Bool}(d:New M m (.cells true [.bool b] ty) M'):zz 1 1 (.slice (some (m,0)) 1 true 1) M'=some ([b].flatMap blc) :=
 z1g (enc:=blc) (l:=[b]) (fun _ _=>rfl) (fun g c=>z18 (enc:=blc) (l:=[b]) (At.new_same d) (fun _ _=>rfl) c)
def BlV (M:Mem)(v:LV)(l:List Bool):Prop:=∃ a f e,v=.slice a l.length f e/\SlA1 blv M a l/\(l≠[]->e=1)
theorem BlV.vec {v:LV}(h:Vec b 1 ty blc M v l):BlV M v l:=by
 rcases h with⟨rfl,rfl⟩|⟨i,rfl,c,g⟩
 ·exact⟨_,_,_,rfl,.inl rfl,fun h=>absurd rfl h⟩
 ·exact⟨_,_,_,rfl,.inr ⟨i,0,rfl,fun k d=>z9y (z18 (enc:=blc) c (fun _ _=>rfl) d)⟩,fun _=>rfl⟩
set_option maxHeartbeats 8000000 in
theorem znb {w:Wt}(hM:ScM M A s)(hO:OcM M)(hs:ScOk s)(hw:WtOk w) :
  CallN Tryz.prog 183 [scv A s,wtv w] M (fun r M'=>(∃ v b,r=.tup [v,.bool b]/\(b=true->∃ l:List Bool,l.length=s.sh.length/\BlV M' v l))/\Grow M M'):=by
 have f6:=hM
 have i0:=hs
 have i1:=hw
 have r2:=hM.sr
 have g5:=hs.sr
 have k4:=hs.n1
 have k9:=hs.n2
 have l3:=hw.zo
 clear hM hs hw
 obtain⟨N,P,O,ar,fr,er,ae,fe,ee,ah,fh,eh,ag,fg,eg⟩:=A
 obtain⟨sh,sr,ey,rr,gl⟩:=s
 obtain⟨wz,a0,V,Y,U,Z,X⟩:=w
 dsimp only at *
 rcases r2 with rfl|⟨i2,o2,rfl,r2⟩
 ·dsimp only[List.length_nil] at g5;omega
 have b1:=mulW (a:=wz) (b:=wz) (A:=256) (by omega) (by omega) (by omega) (by omega)
 have cf:∀ M',zc Tryz.prog 241 [.agg [.slice N sh.length P O,.slice (some (i2,o2)) sr.length fr er,.slice ae ey.length fe ee,.slice ah rr.length fh eh,.slice ag gl.length fg eg],.agg [I wz,I a0,I V,I Y,I U,I Z,I X]] M' (fun r b5=>(∃ ps pw,r=.func (.func 301) [] [.ptr (some (ps,0)),.ptr (some (pw,0))]/\At b5 ps (.cells true [.slice N sh.length P O,.slice (some (i2,o2)) sr.length fr er,.slice ae ey.length fe ee,.slice ah rr.length fh eh,.slice ag gl.length fg eg] 154)/\At b5 pw (.cells true [I wz,I a0,I V,I Y,I U,I Z,I X] 58)/\M'.next<=ps/\M'.next<=pw)/\Grow M' b5):=fun M'=>zjx (A:=⟨N,P,O,some (i2,o2),fr,er,ae,fe,ee,ah,fh,eh,ag,fg,eg⟩) (s:=⟨sh,sr,ey,rr,gl⟩) (w:=⟨wz,a0,V,Y,U,Z,X⟩) (M:=M')
 show CallN Tryz.prog 183 [.agg [.slice N sh.length P O,.slice (some (i2,o2)) sr.length fr er,.slice ae ey.length fe ee,.slice ah rr.length fh eh,.slice ag gl.length fg eg],.agg [I wz,I a0,I V,I Y,I U,I Z,I X]] M _
 refine z1z Y183.2 rfl ?_
 delta Y183;refine un ?_
 refine Wlh @cf ?_;intro n2 M1 u1 u2 u3 n3 M2 u4 u5 u6 n4 M3 u7 u8 u9 n5 M4 i6 l8 l9 n6 M5 i7 m0 m3 r M6 hq
 obtain⟨⟨ps,pw,rfl,d5,d6,j1,j2⟩,g6⟩:=hq
 have l6:=g6.le
 have A2:At M6 n2 (.cells true ([.slice N sh.length P O,.slice (some (i2,o2)) sr.length fr er,.slice ae ey.length fe ee,.slice ah rr.length fh eh,.slice ag gl.length fg eg]) 154):=xm
 have A3:At M6 n3 (.cells true ([I wz,I a0,I V,I Y,I U,I Z,I X]) 58):=xm
 have A4:At M6 n4 (.cells true [.slice none 0 true 0] 92):=xm
 have A5:At M6 n5 (.cells true [.bool false] 4):=xm
 have A6:At M6 n6 (.cells true [.slice none 0 true 0] 92):=xm
 have H:Grow M M6:=xg
 clear u1 u4 u7 i6 i7 g6
 refine Wh ?_
 apply zmk
 exact rfl
 exact zuu Y301.2
 intro lb d K M7 M8 g2 hd e7 c3 hl e8 j6
 have B:Grow M6 M8:=hd.grow.trans hl.grow
 have Bl:=At.new_same hl
 have Bd:=At.new_old hl (At.new_same hd)
 have B2:=A2.grow B
 have B3:=A3.grow B
 have B4:=A4.grow B
 have B5:=A5.grow B
 have B6:=A6.grow B
 have q2:=A2.2
 have q3:=A3.2
 have q4:=A4.2
 have q5:=A5.2
 have q6:=A6.2
 refine CallN.mono (znc (Mb:=M) f6 hO i0 i1 (H.trans B) (d5.grow B) (d6.grow B) (fun i=>i=K∨i=n4∨i=n5∨i=n6)
  (fun k M'=>At M' K (lb .ready none)/\At M' d .defr/\At M' n2 (.cells true ([.slice N sh.length P O,.slice (some (i2,o2)) sr.length fr er,.slice ae ey.length fe ee,.slice ah rr.length fh eh,.slice ag gl.length fg eg]) 154)/\At M' n3 (.cells true ([I wz,I a0,I V,I Y,I U,I Z,I X]) 58)/\At M' n4 (.cells true [.slice none 0 true 0] 92)/\At M' n5 (.cells true [.bool false] 4)/\(∃ v L,At M' n6 (.cells true [v] 92)/\Vec (M8.next+1) 1 4 blc M' v L/\L.length=k)/\Grow M M')
  (fun M'=>At M' K (lb .done (some .ret))/\At M' d .defr/\(∃ v,At M' n4 (.cells true [v] 92))/\At M' n5 (.cells true [.bool false] 4)/\Grow M M') ?_ ?_ ?_ ⟨Bl,Bd,B2,B3,B4,B5,⟨_,[],B6,Vec.nil,rfl⟩,H.trans B⟩) ?_
 ·intro i y
  have y:i=K∨i=n4∨i=n5∨i=n6:=y
  have:=H.le
  have:=d5.2
  have:=d6.2
  omega
 ·rintro k M9 c ⟨h1,h2,h3,h4,h5,h6,⟨v,L,h7,h8,h9⟩,C⟩ g3 hg
  have hk:Keep (fun i=>i=M8.next) M9 c:=⟨g3,hg⟩
  have S:∀ {i lb'},At M8 i lb'->¬ i=M8.next:=fun h=>by have:=h.2;omega
  exact⟨h1.keep hk (S Bl),h2.keep hk (S Bd),h3.keep hk (S B2),h4.keep hk (S B3),h5.keep hk (S B4),h6.keep hk (S B5),⟨v,L,h7.keep hk (S B6),h8.keep hk (fun i y=>by omega),h9⟩,z2z C hk (fun i y=>by have:=H.le;omega)⟩
 ·rintro k ok M9 hk k3 ⟨h1,h2,h3,h4,h5,h6,⟨v,L,h7,h8,h9⟩,C⟩ hK gb
  refine zma g2 h1 rfl ?_
  dsimp only[zipP]
  have j8:=gb.le
  have hk:k<sh.length:=hk
  cases ok with
  | false=>
   refine Wh ?_;intro c u v2 v3 h c1 v4 v5 v6 a2 v7 v8 v9 G b0 e0 e9
   refine⟨((((Keep.refl _ _).upd u (.inl (.inl (.inl rfl)))).upd v4 (.inl (.inl (.inr (.inl rfl))))).upd v7 (.inl (.inl (.inr (.inr (.inl rfl)))))).upd b0 (.inl (.inl (.inl rfl))),.inr ⟨rfl,xm,xm,⟨_,xm⟩,xm,?_⟩⟩
   have:=H.le
   exact(((C.upd u (by omega)).upd v4 (by omega)).upd v7 (by omega)).upd b0 (by omega)
  | true=>
   obtain⟨es,bs,o,d1⟩:=hK
   obtain⟨a7,f7,x7,rfl⟩:=h8.shape
   subst h9
   refine Wh ?_;intro c u v2 v3 h
   have a9:Keep (fun i=>i=K) M9 c:=(Keep.refl _ _).upd u (.inl rfl)
   have p:=d1.keep a9 (fun h=>by omega)
   have f5:=h8.keep a9 (fun i y=>by omega)
   have C2:At c d .defr:=xm
   have C3:At c n2 (.cells true [.slice N sh.length P O,.slice (some (i2,o2)) sr.length fr er,.slice ae ey.length fe ee,.slice ah rr.length fh eh,.slice ag gl.length fg eg] 154):=xm
   have C4:At c n3 (.cells true [I wz,I a0,I V,I Y,I U,I Z,I X] 58):=xm
   have C5:At c n4 (.cells true [.slice none 0 true 0] 92):=xm
   have C6:At c n5 (.cells true [.bool false] 4):=xm
   have C7:At c n6 (.cells true [.slice a7 L.length f7 x7] 92):=xm
   have C1:At c K (lb .busy none):=v3
   have b2:Grow M c:=gb.upd u (by have:=H.le;omega)
   have hk:L.length<sr.length:=by omega
   have q8:=(r2 L.length hk).grow b2
   have j9:=q8.2
   generalize sr[L.length]=rk at *
   clear u v3 h2 h3 h4 h5 h6 h7 h8 C d1 gb h1
   refine z2m (by exact gd) (zmu rfl p.at_) ?_
   have hN:New c c.next (.iter (some M8.next) o [] o) (c.push (.iter (some M8.next) o [] o)):=⟨rfl,rfl⟩
   generalize c.push (.iter (some M8.next) o [] o)=c1 at *
   have J:=At.new_same hN
   have c5:=hN.grow
   have g7:=hN.next
   generalize i9:c.next=it at *
   clear hN
   refine Wh ?_
   refine zg (fun z E ms M'=>∃(g:List Nat) (a1:Nat) (bb:Bool),z=unS g bs/\ms=[]/\Has E [(2,.ptr (some (n2,0))),(3,.ptr (some (n3,0))),(4,.ptr (some (n4,0))),(5,.ptr (some (n5,0))),(6,.ptr (some (n6,0))),(9,.bool bb),(22,.ptr (some (it,0)))]/\At M' it (.iter (some M8.next) o g a1)/\(g=[]∨a1=o)/\Grow c M')
    ?_ (unS [] bs) _ _ _ ⟨[],o,false,rfl,rfl,hz,J,.inl rfl,c5⟩
   clear J c5 g7
   rintro z E ms a2 ⟨g,a1,bb,rfl,rfl,hE,J,g1,j⟩
   refine z06 hE ?_
   have a6:allLt o bs=true:=z81 p.lt
   have c0:g=[]∨es=[]∨anyLt a1 bs=true:=by
    rcases g1 with rfl|rfl
    ·exact .inl rfl
    ·cases bs with
     | nil=>exact .inr (.inl (List.length_eq_zero_iff.1 (by rw[<-p.len];rfl)))
     | cons b bs=>exact .inr (.inr (z66 (x:=b) (by simp) (p.lt b (by simp))))
   have q:=p.keep (F:=fun _=>False) (j.to_keep _) (fun h=>h)
   have j0:=j.le
   have k0:=J.2
   by_cases hl:leftL g bs es=[]
   rotate_left
   ·apply z54
    apply zen
    refine zg3 (by exact gd) rfl J q.at_ a6 c0 hl ?_
    intro b kk v b4 G b3 j4 b9
    obtain⟨i,d2,d3,f9⟩:=z6m b4
    have Q:Grow c G:=j.upd b3 (by omega)
    have a5:=p.keep (F:=fun _=>False) (Q.to_keep _) (fun h=>h)
    obtain⟨e,g9,h0⟩:=zcg d2 d3
    have d7:=zcm f9 (List.mem_of_getElem? d2)
    obtain⟨⟨nm,d4⟩,r,l5,hr,l0,l1⟩:=p.el e h0
    obtain⟨e1,e2⟩:=e
    dsimp only at d4 hr
    subst d4 hr
    have a4:Grow c G/\True:=⟨Q,trivial⟩
    clear b3 b4 J q j
    have D3:=C3.grow Q
    have D4:=C4.grow Q
    have D7:=C7.grow Q
    have i5:=q8.grow Q
    refine Wh ?_;intro h
    refine z2m (by exact gd) (zmr rfl b9 a5.at_ a5.len g9) ?_
    have e3:=D3.2
    have e4:=D4.2
    have c3:=D7.2
    clear Q
    (have j3:=i5;repeat' (first|(with_reducible intro _)|refine sv ?_|((with_reducible first|apply zk|apply zp|apply zh);exact gd;exact rfl;exact rfl;(first|exact zpw r rk _))|refine ss ?_ ?_<;>(intro h;first|exact sz h|refine sy h ?_)|exact sq|fail))
    all_goals try(exfalso;omega)
    rename_i l7 c2 u v2 v3 f0 v4 v5 v6 w f1 hq
    obtain⟨⟨y1,y2,e,rfl⟩,f4⟩:=hq
    have l4:=f4.le
    cases bb with
    | true=>
     refine Wh ?_;intro i4 f2 v7 v8 v9 a3 b0 e0 e9
     have R:At a3 it (.iter (some M8.next) o (g++[b]) o):=xm
     have b8:Grow G a3:=xg
     exact zi (unS (g++[b]) bs) d7 ⟨g++[b],o,true,rfl,rfl,hz,R,.inr rfl,a4.1.trans b8⟩
    | false=>
     refine Wh ?_;intro i4 f2 v7 v8 v9 a3 b0 e0 e9
     have R:At a3 it (.iter (some M8.next) o (g++[b]) o):=xm
     have b8:Grow G a3:=xg
     exact zi (unS (g++[b]) bs) d7 ⟨g++[b],o,_,rfl,rfl,hz,R,.inr rfl,a4.1.trans b8⟩
   apply z54
   apply zen
   refine z2m (by exact gd) (zg9 rfl J q.at_ q.len a6 c0 hl) ?_
   have D2:=C2.grow j
   have D1:=C1.grow j
   have D3:=C3.grow j
   have D4:=C4.grow j
   have D5:=C5.grow j
   have D6:=C6.grow j
   have D7:=C7.grow j
   have c9:=f5.grow j
   have j7:L.length<=64:=by omega
   have e1:=C1.2
   have e2:=C2.2
   have e3:=C3.2
   have e4:=C4.2
   have e5:=C5.2
   have e6:=C6.2
   have c3:=C7.2
   have c7:=b2.trans j
   have d9:Keep (fun i=>i=K) M9 a2:=a9.trans (j.to_keep (fun _=>False)) (fun i y=>y.elim)
   clear J q a6 c0 hl hE j
   refine Wh ?_;intro h m1 G u v2 v3
   have d0:=c9.grow u.grow
   refine z36 (l':=[bb]) (by exact gd) d0 rfl rfl rfl (by simp) (by simp;omega) rfl (ziz u) (fun _=>rfl) (fun _=>rfl) (by omega) ?_
   intro v8 c2 d8 j5 D
   have F1:=(D1.grow u.grow).keep D (fun h=>by have:=h.1;omega)
   have F2:=(D2.grow u.grow).keep D (fun h=>by have:=h.1;omega)
   have F3:=(D3.grow u.grow).keep D (fun h=>by have:=h.1;omega)
   have F4:=(D4.grow u.grow).keep D (fun h=>by have:=h.1;omega)
   have F5:=(D5.grow u.grow).keep D (fun h=>by have:=h.1;omega)
   have F6:=(D6.grow u.grow).keep D (fun h=>by have:=h.1;omega)
   have F7:=(D7.grow u.grow).keep D (fun h=>by have:=h.1;omega)
   have c4:=H.le
   have c8:=z2z (c7.trans u.grow) D (fun i y=>by have:=y.1;omega)
   have i3:Keep (fun i=>i=K∨M8.next<i) M9 c2:=((d9.weaken (fun i y=>.inl y)).trans (u.grow.to_keep (fun _=>False)) (fun i y=>y.elim)).trans D (fun i y=>.inl (.inr (by have:=y.1;omega)))
   clear D c9 d0 u d9 D1 D2 D3 D4 D5 D6 D7
   obtain⟨a8,f8,x8,rfl⟩:=d8.shape
   refine Wh ?_;intro f0 w1 w2 w3 f1 w4 w5 w6
   refine⟨((i3.weaken (fun i y=>by rcases y with rfl|y;exact .inl (.inl rfl);exact .inr y)).upd w1 (.inl (.inl (.inr (.inr (.inr rfl)))))).upd w4 (.inl (.inl (.inl rfl))),.inl ⟨rfl,rfl,w6,xm,xm,xm,xm,xm,⟨_,L++[bb],xm,?_,by simp⟩,?_⟩⟩
   ·exact d8.keep (((Keep.refl (fun i=>i=n6∨i=K) _).upd w1 (.inl (.inl rfl))).upd w4 (.inl (.inr rfl))) (fun i y=>by omega)
   ·exact(c8.upd w1 (by omega)).upd w4 (by omega)
 ·have c4:=H.le
  have i8:=B.le
  rintro r M9 ⟨⟨h1,h2,h3,h4,h5,h6,⟨v,L,h7,h8,h9⟩,C⟩|⟨h1,h2,⟨v,h5⟩,h6,C⟩,k1⟩
  ·refine z9c h1 (by simp) fun c hu f3 b6=>?_
   have k2:=At.upd_ne hu (show d≠K by omega) h2
   have k5:=At.upd_ne hu (show n4≠K by omega) h5
   have k6:=At.upd_ne hu (show n5≠K by omega) h6
   have k7:=At.upd_ne hu (show n6≠K by omega) h7
   have b7:Grow M c:=C.upd hu (by omega)
   have k8:=h8.keep ((Keep.refl (fun i=>i=K) _).upd hu (.inl rfl)) (fun i y=>by omega)
   clear hu h1 h2 h3 h4 h5 h6 h7 h8 C b6
   obtain⟨a8,f8,x8,rfl⟩:=k8.shape
   refine Wh ?_;intro c1 u v2 v3 a2 v4 v5 v6
   have m2:At a2 d .defr:=xm
   have m4:At a2 n4 (.cells true [.slice a8 L.length f8 x8] 92):=xm
   have m8:=k8.keep (((Keep.refl (fun i=>i=n4∨i=n5) _).upd u (.inl (.inl rfl))).upd v4 (.inl (.inr rfl))) (fun i y=>by omega)
   have j:Grow M a2:=(b7.upd u (by omega)).upd v4 (by omega)
   refine z1y (.inr rfl) (by simp[dnat]) (fun d hd=>by simp[dnat] at hd;subst hd;exact m2) fun G hm=>⟨_,.cell1 rfl (Rd1.of_at (m4.unmark hm (by simp[dnat];omega)) rfl).1 (.cell1 rfl (Rd1.of_at (v6.unmark hm (by simp[dnat];omega)) rfl).1 .nil),⟨_,true,rfl,fun _=>⟨L,h9,?_⟩⟩,j.unmark hm (fun d hd=>by simp[dnat] at hd;subst hd;omega)⟩
   refine BlV.vec (b:=M8.next+1) (ty:=4) ?_
   rcases m8 with⟨z1,z2⟩|⟨i,z1,z2,z3⟩
   ·exact .inl ⟨z1,z2⟩
   ·exact .inr ⟨i,z1,z2.unmark hm (by simp[dnat];omega),z3⟩
  ·refine z77 h1 (by simp) fun c hu f3 b6=>?_
   have k2:=At.upd_ne hu (show d≠K by omega) h2
   have k5:=At.upd_ne hu (show n4≠K by omega) h5
   have k6:=At.upd_ne hu (show n5≠K by omega) h6
   have b7:Grow M c:=C.upd hu (by omega)
   clear hu h1 h2 h5 h6 C b6
   refine Wh ?_
   refine z1y (.inr rfl) (by simp[dnat]) (fun d hd=>by simp[dnat] at hd;subst hd;exact k2) fun G hm=>⟨_,.cell1 rfl (Rd1.of_at (k5.unmark hm (by simp[dnat];omega)) rfl).1 (.cell1 rfl (Rd1.of_at (k6.unmark hm (by simp[dnat];omega)) rfl).1 .nil),⟨_,false,rfl,fun h=>by cases h⟩,b7.unmark hm (fun d hd=>by simp[dnat] at hd;subst hd;omega)⟩
theorem zn6 (w:Wt)(i:ScM M A s)(x:OcM M) :
  CallN Tryz.prog 128 [wtv w,scv A s] M (fun r M'=>(∃ v e,r=.tup [v,I e]/\(e=0->WtOk w/\ScOk s /\ ∃ l:List Bool,l.length=s.sh.length/\BlV M' v l)/\(e≠0->v=.slice none 0 true 0))/\Grow M M'):=by
 have q:=fun M' (B:Grow M M')=>zrc w (i.grow B)
 refine z1z Y128.2 rfl ?_
 delta Y128;refine un ?_
 refine Wlh @q ?_;intro H D K L N J E O P Q r p C
 obtain⟨⟨e,rfl,z⟩,u⟩:=C
 have G:=u.le
 by_cases d:e=0
 rotate_left
 ·refine Wg ?_;intro h
  refine kf ?_
  exact⟨⟨_,_,rfl,fun h=>absurd h d,fun _=>rfl⟩,xg⟩
 obtain⟨o,j⟩:=z d
 subst d
 have c:Grow M p/\True:=⟨xg,trivial⟩
 refine Wg ?_;intro h
 refine z55 (by exact gd) rfl rfl (znb (i.grow c.1) (x.grow c.1) j o) ?_
 rintro r F ⟨⟨v,b,rfl,y⟩,g4⟩
 have g:=c.1.trans g4
 cases b with
 | false=>
  refine Wg ?_;intro h
  refine kf ?_
  exact⟨⟨_,_,rfl,fun h=>absurd h (by decide),fun _=>rfl⟩,g⟩
 | true=>
  refine Wg ?_;intro h
  refine kf ?_
  exact⟨⟨_,_,rfl,fun _=>⟨o,j,y rfl⟩,fun h=>absurd rfl h⟩,g⟩
def segB (l:List Bool)(a b:Nat):List Bool:=(l.drop a).take (b-a)
theorem zcf {a:Nat}(h1:a<=b)(c:b<=l.length):(segB l a b).length=b-a:=by
 unfold segB
 rw[List.length_take,List.length_drop];omega
theorem zow {a k:Nat}(g:b<=l.length)(c:k <(segB l a b).length):∃ h:a+k<l.length,(segB l a b)[k]=l[a+k]:=by
 have d:k<b-a/\a+k<l.length:=by
  unfold segB at c
  rw[List.length_take,List.length_drop] at c;omega
 refine⟨d.2,?_⟩
 simp only[segB,List.getElem_take,List.getElem_drop]
theorem zhk {z:Int}{α:Type}{k:Nat->Option α}(hz:z=(n:Int))(c:n<=m):boundL (I z) m k=k n:=by
 subst hz
 show guard' (Nat.ble n m) (k n)=_
 rw[Nat.ble_eq_true_of_le c,zb]
theorem zwi {E:Env}{x B z:XO}{p g:Int}{lo hi:Nat}(h:SlA1 blv M a l)(P:l≠[]->e=1)(S:0<l.length)(h1:lo<=hi)(C:hi<=l.length)(X:xval E x=some (.slice a l.length f e))(G:xval E B=some (I p))(F:xval E z=some (I g))(K:p=(lo:Int))(L:g=(hi:Int)) :
  ∃ a' f' e',zl Tryz.prog (.slc 1 x (some B) (some z) none) E M=some (.val (.slice a' (segB l lo hi).length f' e') M)/\SlA1 blv M a' (segB l lo hi):=by
 have q:l≠[]:=fun h=>by subst h;exact absurd S (Nat.not_lt_zero _)
 obtain rfl:=P q
 rcases h with h|⟨i,o,rfl,U⟩
 ·exact absurd h q
 have d:∀ v,sliceSl 1 (some (i,o)) l.length f 1 (some (I p)) (some (I g)) none=some v->zl Tryz.prog (.slc 1 x (some B) (some z) none) E M=some (.val v M):=fun v V=>by
  show ob (xval E x) _=_
  rw[X,z8]
  show ob (ob (xval E B) _) _=_
  rw[G,z8,z8]
  show ob (ob (xval E z) _) _=_
  rw[F,z8,z8]
  show ob (sliceSl 1 (some (i,o)) l.length f 1 (some (I p)) (some (I g)) none) (rv M)=_
  rw[V];rfl
 have j:sliceSl 1 (some (i,o)) l.length f 1 (some (I p)) (some (I g)) none=(ifb (false ||(f ||(Nat.ble (lo+1) l.length||Nat.beq lo 0)))
    (fN (ifb (Nat.beq l.length lo&&(f||false)) o (o+lo*1)) fun u=>fN (hi-lo) fun r=>some (.slice (some (i,u)) r (ifb false (Nat.beq hi l.length) (f&&Nat.beq hi l.length)) 1))
    (some (.slice (some (i,o)) 0 false 0))):=by
  unfold sliceSl
  show guard' true (z0d (some (I g)) l.length l.length _)=_
  rw[zb]
  show boundL (I g) l.length _=_
  rw[zhk L C]
  show boundL (I p) hi _=_
  rw[zhk K h1]
  rfl
 have J:=zcf h1 C
 by_cases H:lo<l.length
 ·have y:(false ||(f ||(Nat.ble (lo+1) l.length||Nat.beq lo 0)))=true:=by rw[Nat.ble_eq_true_of_le H];simp
  have D:(Nat.beq l.length lo&&(f||false))=false:=by
   rw[show Nat.beq l.length lo=false by cases Q:Nat.beq l.length lo;rfl;have:=Nat.eq_of_beq_eq_true Q;omega];rfl
  rw[y,D,zq,ze,z19,z19] at j
  refine⟨_,_,_,d _ (by rw[j,J]),?_⟩
  refine .inr ⟨i,o+lo*1,rfl,fun k R=>?_⟩
  obtain⟨N,O⟩:=zow C R
  rw[O]
  have:=U (lo+k) N
  rwa [show o+lo*1+k*1=o+(lo+k)*1 by omega]
 ·have hz:hi-lo=0:=by omega
  have c:segB l lo hi=[]:=List.length_eq_zero_iff.1 (by omega)
  cases y:(false ||(f ||(Nat.ble (lo+1) l.length||Nat.beq lo 0))) with
  | false=>
   rw[y,ze] at j
   exact⟨_,_,_,d _ (by rw[j,c];rfl),.inl c⟩
  | true=>
   rw[y,zq,z19,z19,hz] at j
   exact⟨_,_,_,d _ (by rw[j,c];rfl),.inl c⟩
theorem zn7 (J:SlA1 blv M a l)(N:l.length<=1000000):zc Tryz.prog 243 [.slice a l.length f e,.bool v] M (fun w M'=>(∃ r:Int,w=I r/\(0<=r↔v∈l) /\ -1<=r/\r<=1000000)/\M'=M):=by
 refine zd Y243.2 rfl ?_
 delta Y243;refine un ?_
 refine Wh ?_
 refine zg (fun m E G M'=>∃ k:Nat,m=l.length-k/\k<=l.length/\G=[]/\Has E [(0,.slice a l.length f e),(1,.bool v),(7,I l.length),(8,I k)]/\M'=M /\ ∀ j,j<k->∀ g:j<l.length,l[j]≠v)
  ?_ l.length _ _ _ ⟨0,by omega,by omega,rfl,hz,rfl,fun j g=>absurd g (Nat.not_lt_zero _)⟩
 rintro m E G K ⟨k,rfl,L,rfl,H,rfl,c⟩
 refine z06 H ?_
 by_cases p:k=l.length
 ·subst p
  refine Wg ?_;intro h
  refine kf ?_
  refine⟨⟨-1,rfl,⟨fun h=>absurd h (by decide),fun h=>?_⟩,by decide,by decide⟩,rfl⟩
  obtain⟨j,g,B⟩:=List.mem_iff_getElem.1 h
  exact absurd B (c j g g)
 have q:k<l.length:=by omega
 rcases J with rfl|⟨i,o,rfl,y⟩
 ·exact absurd q (Nat.not_lt_zero _)
 have y:=y k q
 have u:=List.getElem_mem q
 have F:l[k]≠v->∀ j,j<k+1->∀ g:j<l.length,l[j]≠v:=fun h j g z=>by
  by_cases C:j=k
  ·subst C;exact h
  ·exact c j (by omega) z
 generalize l[k]=b at *
 by_cases d:v=b
 ·subst d
  cases v
  all_goals (have x:=y;repeat' (first|(with_reducible intro _)|refine sv ?_|refine ss ?_ ?_<;>(intro h;first|exact sz h|refine sy h ?_)|exact sq|fail))
  all_goals try contradiction
  all_goals try(exfalso;omega)
  all_goals (refine kf ?_)
  all_goals exact⟨⟨k,rfl,⟨fun _=>u,fun _=>by omega⟩,by omega,by omega⟩,rfl⟩
 ·have D:=F (fun h=>d h.symm)
  clear F
  cases v<;>cases b<;>first|exact absurd rfl d|skip
  all_goals (have x:=y;repeat' (first|(with_reducible intro _)|refine sv ?_|refine ss ?_ ?_<;>(intro h;first|exact sz h|refine sy h ?_)|exact sq|fail))
  all_goals try contradiction
  all_goals try(exfalso;omega)
  all_goals exact zi (l.length-(k+1)) (by omega) ⟨k+1,rfl,by omega,rfl,hz,rfl,D⟩
theorem zju (i:SlA1 blv M a l)(d:l.length<=1000000):zc Tryz.prog 185 [.slice a l.length f e,.bool v] M (fun w M'=>w=.bool (l.contains v)/\M'=M):=by
 refine zd Y185.2 rfl ?_
 delta Y185;refine un ?_
 repeat' first|with_reducible intro _|refine sv ?_|((with_reducible first|apply zk|apply zp|apply zh);exact gd;exact rfl;exact rfl;(first|exact zn7 i d))|refine ss ?_ ?_<;>(intro h;first|exact sz h|refine sy h ?_)|exact sq|fail
 rename_i w j g
 obtain⟨⟨r,rfl,c,o,p⟩,rfl⟩:=g
 refine Wh ?_
 refine kf ?_
 refine⟨congrArg LV.bool ?_,rfl⟩
 rw[Bool.eq_iff_iff,decide_eq_true_iff,List.contains_iff_mem];exact c
abbrev lgc (A:ScA)(s:Sc)(w:Wt)(ad:Option (Nat×Nat))(n:Nat)(fd:Bool)(ed:Nat):List LV:=[.slice A.as' s.sh.length A.fs' A.es',.slice A.ar s.sr.length A.fr A.er,.slice A.ae s.ey.length A.fe A.ee,.slice A.ah s.er.length A.fh A.eh,.slice A.ag s.sg.length A.fg A.eg,I w.zo,I w.sp,I w.ho,I w.pr,I w.de,I w.so,I w.pa,.slice ad n fd ed]
def wchF (s:Sc)(t:Nat):Bool:=s.ey.getD t false||s.er.getD t false
def alwF (w:Wt)(l:List Bool)(t:Nat):Bool:=!((segB l (t-w.pr.toNat) t).contains false)
def staF (w:Wt)(s:Sc)(dg:List Bool)(t:Nat):Bool:=decide (w.pr<=t)&&((alwF w s.ey t||alwF w s.er t) && !((segB dg (t-w.de.toNat) (t+1)).contains true))
def brkF (w:Wt)(s:Sc)(dg:List Bool)(t:Nat)(q:Int×Int)(m:Int):Int :=
 if m=0 then 0 else if dg.getD t false=true then 1 else if wchF s t=false then 2 else if m=1/\staF w s dg t=false then 3
 else if (m=1/\q.1≠0) ∨((1<m/\m<=w.so)/\q.1≠m-1) then 4 else if m=w.so+1/\q.1<w.so/\q.2<0 then 4 else 0
def qtF (w:Wt)(q:Int×Int):Int:=if q.1=w.so+1 then 1 else if 0<q.2 then q.2+1 else -1
def aftF (w:Wt)(s:Sc)(dg:List Bool)(t:Nat)(q:Int×Int)(m:Int):Int×Int :=
 if m≠0∨dg.getD t false=true∨wchF s t=false then(m,-1) else(m,if w.pa<qtF w q then -1 else qtF w q)
theorem zte {sz:Nat}{E:Env}{K:Env->Mem->Prop}{j:List XG}{d:Nat}{g:Option (Nat×Bool)}{x p o:XO}{q r:Int}(lo hi:Nat)(F:GOn E g)(h:SlA1 blv M a l)(D:l≠[]->e=1)(H:0<l.length)(h1:lo<=hi)(z:hi<=l.length)(J:xval E x=some (.slice a l.length f e))(i:xval E p=some (I q))(c:xval E o=some (I r))(u:q=(lo:Int))(y:r=(hi:Int))(G:∀ a' f' e',SlA1 blv M a' (segB l lo hi)->XW μ Tryz.prog sz j ((d,.slice a' (segB l lo hi).length f' e')::E) M K):XW μ Tryz.prog sz (⟨some d,.slc 1 x (some p) (some o) none,g⟩::j) E M K:=by
 obtain⟨a',f',e',B,C⟩:=zwi h D H h1 z J i c u y
 exact z35 F B (G a' f' e' C)
theorem zs8 (h:t<l.length):l.getD t false=l[t]:=by rw[List.getD_eq_getElem?_getD,List.getElem?_eq_getElem h];rfl
theorem SlA1.rd (h:SlA1 blv M a l)(c:t<l.length):∃ i o,a=some (i,o)/\Rd1 M i (o+t*1) (.bool (l.getD t false)):=by
 rcases h with rfl|⟨i,o,d,g⟩
 ·exact absurd c (Nat.not_lt_zero _)
 ·exact⟨i,o,d,by rw[zs8 c];exact g t c⟩
section
variable {A:ScA} {s:Sc} {w:Wt} {M:Mem} {dg:List Bool} {ad:Option (Nat × Nat)} {fd:Bool} {ed:Nat}
theorem zjy (M:Mem)(N:WtOk w):zc Tryz.prog 58 [.agg (lgc A s w ad dg.length fd ed)] M (fun r M'=>r=I (w.so+1)/\Grow M M'):=by
 have L:=N.so
 obtain⟨c,g,d,B,fr,F,x,fe,C,z,J,E,y,H,D⟩:=A
 obtain⟨P,Q,G,O,K⟩:=s
 obtain⟨R,u,j,p,i,q,o⟩:=w
 dsimp only at *
 show zc Tryz.prog 58 [.agg [.slice c P.length g d,.slice B Q.length fr F,.slice x G.length fe C,.slice z O.length J E,.slice y K.length H D,I R,I u,I j,I p,I i,I q,I o,.slice ad dg.length fd ed]] M _
 refine zd Y58.2 rfl ?_
 delta Y58;refine un ?_
 refine Wh ?_;intros
 refine kf ?_
 exact⟨rfl,xg⟩
theorem zd9 (p:ScM M A s)(g:ScOk s)(F:t<s.sh.length):zc Tryz.prog 129 [.agg (lgc A s w ad dg.length fd ed),I t] M (fun r M'=>r=.bool (wchF s t)/\Grow M M'):=by
 obtain⟨X,Z,q,G⟩:=SlA1.rd p.ey (t:=t) (by rw[g.ey];exact F)
 obtain⟨Y,o2,u,H⟩:=SlA1.rd p.er (t:=t) (by rw[g.er];exact F)
 have h1:=g.ey
 have h2:=g.er
 unfold wchF
 clear p g
 obtain⟨i,o,j,L,fr,R,ae,fe,O,ah,U,Q,K,S,P⟩:=A
 obtain⟨sh,sr,E,J,V⟩:=s
 obtain⟨wz,D,y,B,x,C,z⟩:=w
 dsimp only at *
 subst q u
 generalize E.getD t false=N at *
 generalize J.getD t false=b2 at *
 show zc Tryz.prog 129 [.agg [.slice i sh.length o j,.slice L sr.length fr R,.slice (some (X,Z)) E.length fe O,.slice (some (Y,o2)) J.length U Q,.slice K V.length S P,I wz,I D,I y,I B,I x,I C,I z,.slice ad dg.length fd ed],I t] M _
 refine zd Y129.2 rfl ?_
 delta Y129;refine un ?_
 cases N with
 | true=>
  have c:=G;have d:=H;refine Wg ?_;intros
  refine kf ?_
  exact⟨rfl,xg⟩
 | false=>
  have c:=G;have d:=H;refine Wg ?_;intros
  refine kf ?_
  exact⟨rfl,xg⟩
theorem zgj (h:SlA1 blv M a l)(S:l≠[]->e=1)(U:0<l.length/\l.length<=64)(X:WtOk w)(ht:t<l.length)(hp:w.pr<=t) :
  zc Tryz.prog 184 [.agg (lgc A s w ad dg.length fd ed),.slice a l.length f e,I t] M (fun r M'=>r=.bool (alwF w l t)/\Grow M M'):=by
 have V:=X.pr
 unfold alwF
 obtain⟨d,i,g,D,fr,K,z,fe,G,C,P,J,B,O,H⟩:=A
 obtain⟨Z,sr,L,Y,Q⟩:=s
 obtain⟨wz,x,p,c,o,u,q⟩:=w
 dsimp only at *
 show zc Tryz.prog 184 [.agg [.slice d Z.length i g,.slice D sr.length fr K,.slice z L.length fe G,.slice C Y.length P J,.slice B Q.length O H,I wz,I x,I p,I c,I o,I u,I q,.slice ad dg.length fd ed],.slice a l.length f e,I t] M _
 refine zd Y184.2 rfl ?_
 delta Y184;refine un ?_
 refine Wh ?_;intro n3 M1 u1 u2 u3
 have R:=h.grow u1.grow
 refine zte (t-c.toNat) t (by exact gd) R S U.1 (by omega) (by omega) rfl rfl rfl (by omega) rfl ?_
 intro a' N F j
 have y:=zcf (l:=l) (a:=t-c.toNat) (b:=t) (by omega) (by omega)
 have E:=zju (f:=N) (e:=F) (v:=false) j (by omega)
 refine Wsh @E ?_
 refine kf ?_
 exact⟨rfl,xg⟩
end
section
variable {A:ScA} {s:Sc} {w:Wt} {M:Mem} {dg:List Bool} {ad:Option (Nat × Nat)} {fd:Bool} {ed:Nat}
set_option maxHeartbeats 1000000 in
theorem znk (J:ScM M A s)(p:ScOk s)(L:WtOk w)(hD:SlA1 blv M ad dg)(K:dg≠[]->ed=1)(a0:dg.length=s.sh.length)(ht:t<s.sh.length) :
  zc Tryz.prog 130 [.agg (lgc A s w ad dg.length fd ed),I t] M (fun r M'=>r=.bool (staF w s dg t)/\Grow M M'):=by
 have i:=fun M' (hg:Grow M M') (g:w.pr<=t)=>zgj (A:=A) (s:=s) (w:=w) (dg:=dg) (ad:=ad) (fd:=fd) (ed:=ed) (f:=A.fe) (J.ey.grow hg) J.e1 (by rw[p.ey];have:=p.n1;have:=p.n2;omega) L (t:=t) (by rw[p.ey];exact ht) g
 have j:=fun M' (hg:Grow M M') (g:w.pr<=t)=>zgj (A:=A) (s:=s) (w:=w) (dg:=dg) (ad:=ad) (fd:=fd) (ed:=ed) (f:=A.fh) (J.er.grow hg) J.e2 (by rw[p.er];have:=p.n1;have:=p.n2;omega) L (t:=t) (by rw[p.er];exact ht) g
 have a3:=L.pr
 have a1:=L.de
 have a2:=p.n2
 unfold staF
 generalize alwF w s.ey t=Z at *
 generalize alwF w s.er t=b2 at *
 clear J p L
 obtain⟨u,y,x,Y,fr,er,N,fe,Q,O,U,R,X,fg,eg⟩:=A
 obtain⟨sh,sr,S,V,gl⟩:=s
 obtain⟨wz,D,z,d,c,C,B⟩:=w
 dsimp only at *
 have i:∀ M',Grow M M'->d<=t->zc Tryz.prog 184 [.agg [.slice u sh.length y x,.slice Y sr.length fr er,.slice N S.length fe Q,.slice O V.length U R,.slice X gl.length fg eg,I wz,I D,I z,I d,I c,I C,I B,.slice ad dg.length fd ed],.slice N S.length fe Q,I t] M' (fun r q=>r=.bool Z/\Grow M' q):=i
 have j:∀ M',Grow M M'->d<=t->zc Tryz.prog 184 [.agg [.slice u sh.length y x,.slice Y sr.length fr er,.slice N S.length fe Q,.slice O V.length U R,.slice X gl.length fg eg,I wz,I D,I z,I d,I c,I C,I B,.slice ad dg.length fd ed],.slice O V.length U R,I t] M' (fun r q=>r=.bool b2/\Grow M' q):=j
 show zc Tryz.prog 130 [.agg [.slice u sh.length y x,.slice Y sr.length fr er,.slice N S.length fe Q,.slice O V.length U R,.slice X gl.length fg eg,I wz,I D,I z,I d,I c,I C,I B,.slice ad dg.length fd ed],I t] M _
 refine zd Y130.2 rfl ?_
 delta Y130;refine un ?_
 by_cases g:d<=t
 rotate_left
 ·rw[decide_eq_false g]
  refine Wg ?_;intros;rename_i h
  refine kf ?_
  exact⟨rfl,xg⟩
 rw[decide_eq_true g]
 have E:=fun F H G M' (o:SlA1 blv M' F (segB dg (t-c.toNat) (t+1)))=>zju (f:=H) (e:=G) (v:=true) o (by rw[zcf (by omega) (by omega)];omega)
 have fin:∀ P:Bool,P=(Z||b2)->P=true->(true&&(P && !((segB dg (t-c.toNat) (t+1)).contains true)))=!((segB dg (t-c.toNat) (t+1)).contains true):=fun P _ h=>by rw[h];rfl
 cases Z with
 | true=>
  repeat' first|with_reducible intro _|refine sv ?_|((with_reducible first|apply zw|apply zx|apply zm);exact gd;exact rfl;exact rfl;(first|exact i _ (xg) g|exact j _ (xg) g))|refine ss ?_ ?_<;>(intro h;first|exact sz h|refine sy h ?_)|exact sq|fail
  all_goals try(exfalso;omega)
  refine zte (t-c.toNat) (t+1) (by exact gd) (hD.grow (xg)) K (by omega) (by omega) (by omega) rfl rfl rfl (by unfold iMax;omega) (by omega) ?_
  intro F H G o
  have E:=E F H G _ o
  refine Wsh @E ?_
  refine kf ?_
  exact⟨rfl,xg⟩
 | false=>
  cases b2 with
  | true=>
   repeat' first|with_reducible intro _|refine sv ?_|((with_reducible first|apply zw|apply zx|apply zm);exact gd;exact rfl;exact rfl;(first|exact i _ (xg) g|exact j _ (xg) g))|refine ss ?_ ?_<;>(intro h;first|exact sz h|refine sy h ?_)|exact sq|fail
   all_goals try(exfalso;omega)
   refine zte (t-c.toNat) (t+1) (by exact gd) (hD.grow (xg)) K (by omega) (by omega) (by omega) rfl rfl rfl (by unfold iMax;omega) (by omega) ?_
   intro F H G o
   have E:=E F H G _ o
   refine Wsh @E ?_
   refine kf ?_
   exact⟨rfl,xg⟩
  | false=>
   repeat' first|with_reducible intro _|refine sv ?_|((with_reducible first|apply zw|apply zx|apply zm);exact gd;exact rfl;exact rfl;(first|exact i _ (xg) g|exact j _ (xg) g))|refine ss ?_ ?_<;>(intro h;first|exact sz h|refine sy h ?_)|exact sq|fail
   all_goals try(exfalso;omega)
   refine kf ?_
   exact⟨rfl,xg⟩
set_option maxHeartbeats 2000000 in
theorem zn9 (hM:ScM M A s)(R:ScOk s)(S:WtOk w)(hD:SlA1 blv M ad dg)(a1:dg≠[]->ed=1)(B:dg.length=s.sh.length)(ht:t<s.sh.length)(q:Int×Int)(m:Int)(hm:-1000<=m/\m<=1000) :
  zc Tryz.prog 59 [.agg (lgc A s w ad dg.length fd ed),I t,.agg [I q.1,I q.2],I m] M (fun r M'=>r=I (brkF w s dg t q m)/\Grow M M'):=by
 have cw:=fun M' (Q:Grow M M')=>zd9 (w:=w) (dg:=dg) (ad:=ad) (fd:=fd) (ed:=ed) (hM.grow Q) R ht
 have z:=fun M' (Q:Grow M M')=>znk (w:=w) (fd:=fd) (hM.grow Q) R S (hD.grow Q) a1 B ht
 have cf:=fun M'=>zjy (A:=A) (s:=s) (dg:=dg) (ad:=ad) (fd:=fd) (ed:=ed) M' S
 obtain⟨U,V,a0,q1⟩:=SlA1.rd hD (t:=t) (by rw[B];exact ht)
 have a4:=S.so
 unfold brkF
 generalize wchF s t=b1 at *
 generalize staF w s dg t=b2 at *
 generalize dg.getD t false=b3 at *
 obtain⟨qm,qq⟩:=q
 have a3:=R.n2
 clear hM R S hD
 obtain⟨g,j,i,F,fr,K,C,fe,G,E,O,J,D,N,H⟩:=A
 obtain⟨Y,Z,L,X,P⟩:=s
 obtain⟨wz,y,p,x,o,d,u⟩:=w
 dsimp only at *
 subst a0
 have cw:∀ M',Grow M M'->zc Tryz.prog 129 [.agg [.slice g Y.length j i,.slice F Z.length fr K,.slice C L.length fe G,.slice E X.length O J,.slice D P.length N H,I wz,I y,I p,I x,I o,I d,I u,.slice (some (U,V)) dg.length fd ed],I t] M' (fun r c=>r=.bool b1/\Grow M' c):=cw
 have z:∀ M',Grow M M'->zc Tryz.prog 130 [.agg [.slice g Y.length j i,.slice F Z.length fr K,.slice C L.length fe G,.slice E X.length O J,.slice D P.length N H,I wz,I y,I p,I x,I o,I d,I u,.slice (some (U,V)) dg.length fd ed],I t] M' (fun r c=>r=.bool b2/\Grow M' c):=z
 have cf:∀ M',zc Tryz.prog 58 [.agg [.slice g Y.length j i,.slice F Z.length fr K,.slice C L.length fe G,.slice E X.length O J,.slice D P.length N H,I wz,I y,I p,I x,I o,I d,I u,.slice (some (U,V)) dg.length fd ed]] M' (fun r c=>r=I (d+1)/\Grow M' c):=cf
 show zc Tryz.prog 59 [.agg [.slice g Y.length j i,.slice F Z.length fr K,.slice C L.length fe G,.slice E X.length O J,.slice D P.length N H,I wz,I y,I p,I x,I o,I d,I u,.slice (some (U,V)) dg.length fd ed],I t,.agg [I qm,I qq],I m] M _
 refine zd Y59.2 rfl ?_
 delta Y59;refine un ?_
 cases b3
 all_goals cases b1
 all_goals cases b2
 all_goals (have a2:=q1;repeat' (first|(with_reducible intro _)|refine sv ?_|((with_reducible first|apply zw|apply zx|apply zm);exact gd;exact rfl;exact rfl;(first|exact cw _ (xg)|exact z _ (xg)|exact cf _))|refine ss ?_ ?_<;>(intro h;first|exact sz h|refine sy h ?_)|exact sq|fail))
 all_goals try contradiction
 all_goals try(exfalso;omega)
 all_goals (refine kf ?_)
 all_goals refine⟨?_,xg⟩
 all_goals (show I _=I _;congr 1)
 all_goals first
  |(rw[if_pos (by omega)];done)
  |(rw[if_neg (by omega),if_pos rfl];done)
  |(rw[if_neg (by omega),if_neg (by decide),if_pos rfl];done)
  |(rw[if_neg (by omega),if_neg (by decide),if_neg (by decide),if_pos ⟨by omega,rfl⟩];done)
  |(rw[if_neg (by omega),if_neg (by decide),if_neg (by decide),if_neg (by first|(rintro⟨h,_⟩;omega)|(rintro⟨_,h⟩;cases h)),if_pos (by omega)];done)
  |(rw[if_neg (by omega),if_neg (by decide),if_neg (by decide),if_neg (by first|(rintro⟨h,_⟩;omega)|(rintro⟨_,h⟩;cases h)),if_neg (by omega),if_pos (by omega)];done)
  |(rw[if_neg (by omega),if_neg (by decide),if_neg (by decide),if_neg (by first|(rintro⟨h,_⟩;omega)|(rintro⟨_,h⟩;cases h)),if_neg (by omega),if_neg (by omega)];done)
  | trace_state
end
section
variable {A:ScA} {s:Sc} {w:Wt} {M:Mem} {dg:List Bool} {ad:Option (Nat × Nat)} {fd:Bool} {ed:Nat}
set_option maxHeartbeats 2000000 in
theorem zrb (hM:ScM M A s)(U:ScOk s)(B:WtOk w)(hD:SlA1 blv M ad dg)(S:dg.length=s.sh.length)(ht:t<s.sh.length)(q:Int×Int)(hq:-1000<=q.2/\q.2<=1000)(m:Int) :
  zc Tryz.prog 57 [.agg (lgc A s w ad dg.length fd ed),I t,.agg [I q.1,I q.2],I m] M (fun r M'=>r=.agg [I (aftF w s dg t q m).1,I (aftF w s dg t q m).2]/\Grow M M'):=by
 have G:=fun M' (hg:Grow M M')=>zd9 (w:=w) (dg:=dg) (ad:=ad) (fd:=fd) (ed:=ed) (hM.grow hg) U ht
 have cf:=fun M'=>zjy (A:=A) (s:=s) (dg:=dg) (ad:=ad) (fd:=fd) (ed:=ed) M' B
 obtain⟨V,X,R,q1⟩:=SlA1.rd hD (t:=t) (by rw[S];exact ht)
 have a1:=q1.2
 have a4:=B.so
 have a3:=B.pa
 unfold aftF qtF
 generalize wchF s t=b1 at *
 generalize dg.getD t false=b3 at *
 obtain⟨qm,qq⟩:=q
 have a2:=U.n2
 clear hM U B hD
 obtain⟨g,j,i,F,fr,L,C,fe,H,E,P,K,D,O,J⟩:=A
 obtain⟨Z,sr,N,Y,Q⟩:=s
 obtain⟨wz,y,p,x,o,c,u⟩:=w
 dsimp only at *
 subst R
 have G:∀ M',Grow M M'->zc Tryz.prog 129 [.agg [.slice g Z.length j i,.slice F sr.length fr L,.slice C N.length fe H,.slice E Y.length P K,.slice D Q.length O J,I wz,I y,I p,I x,I o,I c,I u,.slice (some (V,X)) dg.length fd ed],I t] M' (fun r d=>r=.bool b1/\Grow M' d):=G
 have cf:∀ M',zc Tryz.prog 58 [.agg [.slice g Z.length j i,.slice F sr.length fr L,.slice C N.length fe H,.slice E Y.length P K,.slice D Q.length O J,I wz,I y,I p,I x,I o,I c,I u,.slice (some (V,X)) dg.length fd ed]] M' (fun r d=>r=I (c+1)/\Grow M' d):=cf
 show zc Tryz.prog 57 [.agg [.slice g Z.length j i,.slice F sr.length fr L,.slice C N.length fe H,.slice E Y.length P K,.slice D Q.length O J,I wz,I y,I p,I x,I o,I c,I u,.slice (some (V,X)) dg.length fd ed],I t,.agg [I qm,I qq],I m] M _
 refine zd Y57.2 rfl ?_
 delta Y57;refine un ?_
 cases b3
 all_goals cases b1
 all_goals (have a0:=q1;repeat' (first|(with_reducible intro _)|refine sv ?_|((with_reducible first|apply zw|apply zx|apply zm);exact gd;exact rfl;exact rfl;(first|exact G _ (xg)|exact cf _))|refine ss ?_ ?_<;>(intro h;first|exact sz h|refine sy h ?_)|exact sq|fail))
 all_goals try contradiction
 all_goals try(exfalso;omega)
 all_goals (refine kf ?_)
 all_goals refine⟨(congrArg (fun z:Int×Int=>LV.agg [I z.1,I z.2]) (show _=(_,_) from ?_)).symm,xg⟩
 all_goals split
 all_goals rename_i hc
 all_goals first
  | rfl
  |(exfalso;simp at hc;done)
  |(exfalso;simp at hc;omega)
  |((repeat' split)<;>first|rfl|(exfalso;omega))
  | trace_state
end
theorem SlA1.updw {cs:List LV}{lb:LB}(h:SlA1 blv M a l)(r:At M n (.cells own cs ty))(g:∀ c∈cs,∀ b,c≠.bool b)(x:Upd M n lb M'):SlA1 blv M' a l:=by
 refine h.imp id fun⟨i,o,p,q⟩=>⟨i,o,p,fun k u=>?_⟩
 have j:=q k u
 refine Rd1.upd_ne x (fun e=>?_) j
 subst e
 have d:=j.1
 unfold load1 atCells at d
 rw[r.1] at d
 have d:nth cs (o+k*1)=some (.bool l[k]):=d
 rw[z7s] at d
 exact g _ (List.mem_of_getElem? d) _ rfl
theorem zjz (w:Wt)(hM:ScM M A s)(hO:OcM M) :
  CallN Tryz.prog 56 [wtv w,scv A s] M (fun r M'=>(∃(ad:Option (Nat×Nat)) (dg:List Bool) (fd:Bool) (ed:Nat) (e:Int),r=.tup [.agg (lgc A s w ad dg.length fd ed),I e]/\(e=0->WtOk w/\ScOk s/\dg.length=s.sh.length/\SlA1 blv M' ad dg/\(dg≠[]->ed=1)))/\Grow M M'):=by
 have Z:=fun M' (H:Grow M M')=>zn6 w (hM.grow H) (hO.grow H)
 obtain⟨u,y,x,Y,fr,er,U,fe,ee,X,fh,eh,V,fg,eg⟩:=A
 obtain⟨D,K,F,J,G⟩:=s
 obtain⟨L,q,i,o,g,p,j⟩:=w
 dsimp only at *
 show CallN Tryz.prog 56 [.agg [I L,I q,I i,I o,I g,I p,I j],.agg [.slice u D.length y x,.slice Y K.length fr er,.slice U F.length fe ee,.slice X J.length fh eh,.slice V G.length fg eg]] M _
 refine z1z Y56.2 rfl ?_
 delta Y56;refine un ?_
 refine Wh ?_;intros
 refine z55 (by exact gd) rfl rfl (Z _ (xg)) ?_
 rintro r N ⟨⟨v,e,rfl,h1,h2⟩,g4⟩
 have l4:=g4.le
 have hv:∃(ad:Option (Nat×Nat)) (dg:List Bool) (fd:Bool) (ed:Nat),v=.slice ad dg.length fd ed/\(e=0->WtOk ⟨L,q,i,o,g,p,j⟩/\ScOk ⟨D,K,F,J,G⟩/\dg.length=D.length/\SlA1 blv N ad dg/\(dg≠[]->ed=1)):=by
  by_cases d:e=0
  ·obtain⟨hw,hs,dg,hl,ad,fd,ed,rfl,C,B⟩:=h1 d
   exact⟨ad,dg,fd,ed,rfl,fun _=>⟨hw,hs,hl,C,B⟩⟩
  ·exact⟨none,[],true,0,h2 d,fun h=>absurd h d⟩
 obtain⟨ad,dg,fd,ed,rfl,h3⟩:=hv
 repeat' first|with_reducible intro _|refine sv ?_|refine ss ?_ ?_<;>(intro h;first|exact sz h|refine sy h ?_)|exact sq|fail
 rename_i n2 M1 u1 u2 u3 n3 M2 u4 u5 u6 n4 M3 u7 u8 u9 M5 E a0 a6
 have z:=(At.new_same u7).grow g4
 refine kf ?_
 refine⟨⟨ad,dg,fd,ed,e,rfl,fun d=>?_⟩,xg⟩
 obtain⟨O,P,Q,R,S⟩:=h3 d
 exact⟨O,P,Q,R.updw z (by intro c hc b hb;subst hb;simp at hc) E,S⟩
end Go.Proofs.YtpgalhbplcanhaaGreatDoor.C
end
section
open Go PvL Go.Proofs
namespace Go.Proofs.YtpgalhbplcanhaaGreatDoor.C
theorem zvp:∃ e,Tryz.prog.underlying 63=some (.slice e):=⟨3,by kernel_rfl⟩
instance:IsSl Tryz.prog 63:=⟨zvp⟩
theorem zjq{b:Nat}{v:LV}{l:List Int}{M:Mem}(y:Vec b 1 3 intc M v l)(c:l=[]->v=.slice none 0 true 0)(o:l.length<=1000000) :
  zc Tryz.prog 62 [v] M (fun w M'=>Vec M.next 1 3 intc M' w l/\(l=[]->w=.slice none 0 true 0)/\Grow M M'):=by
 refine zd Y62.2 rfl ?_
 delta Y62;refine un ?_
 rcases y with⟨rfl,rfl⟩|⟨i,rfl,q,H⟩
 ·refine Wh ?_;intro h
  refine kf ?_
  exact⟨.nil,fun _=>rfl,xg⟩
 ·by_cases d:l=[]
  ·subst d
   exact absurd (c rfl) (by simp)
  have r:0<l.length:=List.length_pos_iff.2 d
  refine Wh ?_;intro h J p g D E
  have z:zz 1 l.length (.slice (some (i,0)) l.length false 1) p=some (l.flatMap intc):=z1g (enc:=intc) (fun x _=>rfl) (fun k u=>z18 (enc:=intc) (At.new_old g q) (fun x _=>rfl) u)
  refine z6v (by exact gd) (old:=[]) rfl rfl rfl r (by omega) rfl rfl z (z0j (fun x _=>rfl)) (.inr rfl) ?_
  intro B C j F G
  refine Wh ?_
  refine kf ?_
  exact⟨.inr ⟨B,by rw[Nat.zero_add];rfl,At.new_same j,by omega⟩,fun h=>absurd h d,xg⟩
theorem zvq:∃ e,Tryz.prog.underlying 91=some (.slice e):=⟨28,by kernel_rfl⟩
instance:IsSl Tryz.prog 91:=⟨zvq⟩
theorem zd5{b:Nat}{v:LV}{l:List Rg}{M:Mem}(y:Vec b 8 28 rgc M v l)(c:l=[]->v=.slice none 0 true 0)(o:l.length<=1000000) :
  zc Tryz.prog 125 [v] M (fun w M'=>Vec M.next 8 28 rgc M' w l/\(l=[]->w=.slice none 0 true 0)/\Grow M M'):=by
 refine zd Y125.2 rfl ?_
 delta Y125;refine un ?_
 rcases y with⟨rfl,rfl⟩|⟨i,rfl,q,H⟩
 ·refine Wh ?_;intro h
  refine kf ?_
  exact⟨.nil,fun _=>rfl,xg⟩
 ·by_cases d:l=[]
  ·subst d
   exact absurd (c rfl) (by simp)
  have r:0<l.length:=List.length_pos_iff.2 d
  refine Wh ?_;intro h J p g D E
  have z:zz 8 l.length (.slice (some (i,0)) l.length false 8) p=some (l.flatMap rgc):=z1g (enc:=rgc) (fun x _=>rfl) (fun k u=>z18 (enc:=rgc) (At.new_old g q) (fun x _=>rfl) u)
  refine z6v (by exact gd) (old:=[]) rfl rfl rfl r (by omega) rfl rfl z (z0j (fun x _=>rfl)) (.inr rfl) ?_
  intro B C j F G
  refine Wh ?_
  refine kf ?_
  exact⟨.inr ⟨B,by rw[Nat.zero_add];rfl,At.new_same j,by omega⟩,fun h=>absurd h d,xg⟩
theorem zvo:∃ e,Tryz.prog.underlying 92=some (.slice e):=⟨4,by kernel_rfl⟩
instance:IsSl Tryz.prog 92:=⟨zvo⟩
theorem zd4{b:Nat}{v:LV}{l:List Bool}{M:Mem}(y:Vec b 1 4 (fun b=>[blv b]) M v l)(c:l=[]->v=.slice none 0 true 0)(o:l.length<=1000000) :
  zc Tryz.prog 126 [v] M (fun w M'=>Vec M.next 1 4 (fun b=>[blv b]) M' w l/\(l=[]->w=.slice none 0 true 0)/\Grow M M'):=by
 refine zd Y126.2 rfl ?_
 delta Y126;refine un ?_
 rcases y with⟨rfl,rfl⟩|⟨i,rfl,q,H⟩
 ·refine Wh ?_;intro h
  refine kf ?_
  exact⟨.nil,fun _=>rfl,xg⟩
 ·by_cases d:l=[]
  ·subst d
   exact absurd (c rfl) (by simp)
  have r:0<l.length:=List.length_pos_iff.2 d
  refine Wh ?_;intro h J p g D E
  have z:zz 1 l.length (.slice (some (i,0)) l.length false 1) p=some (l.flatMap (fun b=>[blv b])):=z1g (enc:=(fun b=>[blv b])) (fun x _=>rfl) (fun k u=>z18 (enc:=(fun b=>[blv b])) (At.new_old g q) (fun x _=>rfl) u)
  refine z6v (by exact gd) (old:=[]) rfl rfl rfl r (by omega) rfl rfl z (z0j (fun x _=>rfl)) (.inr rfl) ?_
  intro B C j F G
  refine Wh ?_
  refine kf ?_
  exact⟨.inr ⟨B,by rw[Nat.zero_add];rfl,At.new_same j,by omega⟩,fun h=>absurd h d,xg⟩
theorem zvr:∃ e,Tryz.prog.underlying 66=some (.slice e):=⟨268,by kernel_rfl⟩
instance:IsSl Tryz.prog 66:=⟨zvr⟩
theorem zjr{b:Nat}{v:LV}{l:List Sg}{M:Mem}(y:Vec b 5 268 sgc M v l)(c:l=[]->v=.slice none 0 true 0)(o:l.length<=1000000) :
  zc Tryz.prog 127 [v] M (fun w M'=>Vec M.next 5 268 sgc M' w l/\(l=[]->w=.slice none 0 true 0)/\Grow M M'):=by
 refine zd Y127.2 rfl ?_
 delta Y127;refine un ?_
 rcases y with⟨rfl,rfl⟩|⟨i,rfl,q,H⟩
 ·refine Wh ?_;intro h
  refine kf ?_
  exact⟨.nil,fun _=>rfl,xg⟩
 ·by_cases d:l=[]
  ·subst d
   exact absurd (c rfl) (by simp)
  have r:0<l.length:=List.length_pos_iff.2 d
  refine Wh ?_;intro h J p g D E
  have z:zz 5 l.length (.slice (some (i,0)) l.length false 5) p=some (l.flatMap sgc):=z1g (enc:=sgc) (fun x _=>rfl) (fun k u=>z18 (enc:=sgc) (At.new_old g q) (fun x _=>rfl) u)
  refine z6v (by exact gd) (old:=[]) rfl rfl rfl r (by omega) rfl rfl z (z0j (fun x _=>rfl)) (.inr rfl) ?_
  intro B C j F G
  refine Wh ?_
  refine kf ?_
  exact⟨.inr ⟨B,by rw[Nat.zero_add];rfl,At.new_same j,by omega⟩,fun h=>absurd h d,xg⟩
