/-
 Part of the proof of TapeRepairs. No condition beyond those in each theorem.
-/
import Derived.Test.YtbfnnllgdioccaaGreatDoorSD
import Derived.Test.YtbfnnllgdioccaaGreatDoorSA
section
open Go PvL Go.Proofs
set_option linter.unusedSimpArgs false
set_option linter.unusedVariables false
namespace Go.Proofs.YtbfnnllgdioccaaGreatDoor.C
def FrD(s:ByteArray)(p:Nat):Option (Fr × Nat):=match twoB s p with
 | none=>none
 | some (m,p1)=>match twoB s p1 with
  | none=>none
  | some (sh,p2)=>match oneB s p2 with
   | none=>none
   | some (ch,p3)=>match oneB s p3 with
    | none=>none
    | some (n,p4)=>if m=42330 /\ 1<=n /\ n<=64 then(match smpB s n p4 0 [] with
     | none=>none
     | some (l,p5)=>if frB ((sh:Int),(ch:Int),l) then(match chkB s p p5 with
      | none=>none
      | some (_,p6)=>some (((sh:Int),(ch:Int),l),p6)) else none) else none
def FrQ(a:Nat)(s:ByteArray)(r:Option (Fr × Nat))(M:Mem)(w:LV)(M':Mem):Prop:=∃ x q,r=some (x,q) /\ (∃ v,w=.agg [I x.1,I x.2.1,v] /\ Vec M.next 1 3 intc M' v x.2.2) /\ Keep (fun i=>i=a) M M' /\ At M' a (rdr s q)
theorem z51{s:ByteArray}{p b q:Nat}(h:oneB s p=some (b,q)):p < q /\ q<=s.size:=by
 obtain⟨h1,_,h2⟩:=z8d h
 omega
theorem z6h{s:ByteArray}{p b q:Nat}(h:twoB s p=some (b,q)):p < q /\ q<=s.size /\ b < 65536:=by
 unfold twoB at h
 split at h
 ·cases h
 ·rename_i c p1 h1
  split at h
  ·cases h
  ·rename_i d p2 h2
   cases h
   have:=z51 h1
   have:=z51 h2
   have:=z30 h1
   have:=z30 h2
   omega
theorem ze4{s:ByteArray}:∀(j p n u:Nat) {c q:Nat},codeS s j p n u=some (c,q)->p < q /\ q<=s.size
 | 0,p,n,u,c,q,h=>by cases h
 | j+1,p,n,u,c,q,h=>by
  unfold codeS at h
  split at h
  ·cases h
  ·rename_i b p' hb
   have h1:=z51 hb
   split at h
   ·split at h
    ·cases h;exact h1
    ·cases h
   ·have:=ze4 j p' _ _ h
    omega
theorem z8n{s:ByteArray}:∀(n p:Nat) (last:Int) (acc:List Int) {l:List Int} {q:Nat},p<=s.size->smpB s n p last acc=some (l,q)->p<=q /\ q<=s.size /\ l.length=acc.length+n
 | 0,p,last,acc,l,q,hp,h=>by cases h;exact⟨Nat.le_refl _,hp,rfl⟩
 | n+1,p,last,acc,l,q,hp,h=>by
  unfold smpB at h
  split at h
  ·cases h
  ·rename_i c p' hc
   have h1:=ze4 _ _ _ _ hc
   split at h
   ·have:=z8n n p' _ _ h1.2 h
    rw[List.length_append] at this;simp at this;omega
   ·split at h
    ·have:=z8n n p' _ _ h1.2 h
     rw[List.length_append] at this;simp at this;omega
    ·split at h
     ·have:=z8n n p' _ _ h1.2 h
      rw[List.length_append] at this;simp at this;omega
     ·cases h
theorem Vec.low{α:Type}{b b' sz:Nat}{ty:TypeId}{enc:α->List LV}{M:Mem}{v:LV}{l:List α}(h:Vec b sz ty enc M v l)(hb:b'<=b):Vec b' sz ty enc M v l:=h.imp id fun⟨i,h1,h2,h3⟩=>⟨i,h1,h2,Nat.le_trans hb h3⟩
theorem Keep.wide{F:Nat->Prop}{M M':Mem}{n:Nat}(h:Keep F M M')(hn:M'.next<=n):Keep F M ⟨n,M'.tr⟩:=⟨Nat.le_trans h.le hn,fun i hi hf=>h.old i hi hf⟩
theorem At.wide{M:Mem}{n i:Nat}{lb:LB}(h:At M i lb)(hn:M.next<=n):At ⟨n,M.tr⟩ i lb:=⟨h.1,Nat.lt_of_lt_of_le h.2 hn⟩
theorem z78{s:ByteArray}:∀(n p:Nat) (last:Int) (acc:List Int) {l:List Int} {q:Nat},(∀ x ∈ acc,smB x=true)->smpB s n p last acc=some (l,q)->∀ x ∈ l,smB x=true
 | 0,p,last,acc,l,q,ha,h=>by cases h;exact ha
 | n+1,p,last,acc,l,q,ha,h=>by
  have hx:∀ y,smB y=true->∀ x ∈ acc ++ [y],smB x=true:=fun y hy x hx=>by
   rcases List.mem_append.1 hx with hx|hx
   ·exact ha x hx
   ·rw[List.mem_singleton.1 hx];exact hy
  unfold smpB at h
  split at h
  ·cases h
  ·split at h
   ·exact z78 n _ _ _ (hx _ rfl) h
   ·split at h
    ·exact z78 n _ _ _ (hx _ rfl) h
    ·split at h
     ·rename_i hk
      exact z78 n _ _ _ (hx _ (by unfold smB;rw[hk];rfl)) h
     ·cases h
theorem znf{x:Int}(h:smB x=true):I64 x:=by
 unfold smB knB at h
 simp only[Bool.or_eq_true,decide_eq_true_eq] at h
 unfold I64
 omega
set_option maxHeartbeats 8000000 in
theorem zje{a:Nat}{s:ByteArray}{p:Nat}{M:Mem}(ha:At M a (rdr s p))(hs:s.size<=140737488355328)(hp:p<=s.size) :
  CallB Tryz.prog 123 [.ptr (some (a,0))] M (FrQ a s (FrD s p) M) (RdN a s (FrD s p) M):=by
 refine z2p k123 rfl ?_
 dsimp only[x123,zM,zO,zI,zF,zS,zB,zL,zA,zE,zN,zW,zC,zipE,Nat.reduceAdd]
 have haM:a < M.next:=ha.2
 repeat' first|with_reducible intro _|refine svb ?_|refine su ?_|(refine sc ?_ ?_<;>(intro h;try exact sz h))|(refine sgb ?_ ?_<;>(intro h;first|exact sz h|refine sy h ?_))|exact sq|fail
 refine x_rd gd rfl rfl (zgm (p:=p) (xm) (by omega)) ?_ ?_
 ·intro g1 M2 g2 g3 q2 g4
  refine⟨?_,rfl,xk,q2,g4⟩
  unfold FrD;rw[g1]
 intro m p1 r1 N1 k1 l1 a1
 repeat' first|with_reducible intro _|refine svb ?_|refine su ?_|(refine sc ?_ ?_<;>(intro h;try exact sz h))|(refine sgb ?_ ?_<;>(intro h;first|exact sz h|refine sy h ?_))|exact sq|fail
 refine x_rd gd rfl rfl (zgm (p:=p1) (xm) (by omega)) ?_ ?_
 ·intro g1 M2 g2 g3 q2 g4
  refine⟨?_,rfl,xk,q2,g4⟩
  unfold FrD;rw[r1];simp only;rw[g1]
 intro sh p2 r2 N2 k2 l2 a2
 repeat' first|with_reducible intro _|refine svb ?_|refine su ?_|(refine sc ?_ ?_<;>(intro h;try exact sz h))|(refine sgb ?_ ?_<;>(intro h;first|exact sz h|refine sy h ?_))|exact sq|fail
 refine x_rd gd rfl rfl (zgj (p:=p2) (xm) (by omega)) ?_ ?_
 ·intro g1 M2 g2 g3 q2 g4
  refine⟨?_,rfl,xk,q2,g4⟩
  unfold FrD;rw[r1];simp only;rw[r2];simp only;rw[g1]
 intro ch p3 r3 N3 k3 l3 a3
 repeat' first|with_reducible intro _|refine svb ?_|refine su ?_|(refine sc ?_ ?_<;>(intro h;try exact sz h))|(refine sgb ?_ ?_<;>(intro h;first|exact sz h|refine sy h ?_))|exact sq|fail
 refine x_rd gd rfl rfl (zgj (p:=p3) (xm) (by omega)) ?_ ?_
 ·intro g1 M2 g2 g3 q2 g4
  refine⟨?_,rfl,xk,q2,g4⟩
  unfold FrD;rw[r1];simp only;rw[r2];simp only;rw[r3];simp only;rw[g1]
 intro n p4 r4 N4 k4 l4 a4
 repeat' first|with_reducible intro _|refine svb ?_|refine su ?_|(refine sc ?_ ?_<;>(intro h;try exact sz h))|((with_reducible first|apply z02|apply zbc);exact gd;exact rfl;exact rfl;(first|exact zaf _ _ _ _))|((with_reducible first|apply x_mu|apply b_mu);exact gd;exact rfl;exact rfl;(first|exact z94 _ _);infer_instance)|(refine sgb ?_ ?_<;>(intro h;first|exact sz h|refine sy h ?_))|exact sq|fail
 ·rename_i B
  refine⟨?_,rfl,xk,p4,xm⟩
  unfold FrD;rw[r1];simp only;rw[r2];simp only;rw[r3];simp only;rw[r4];simp only
  rw[if_neg fun h=>?_]
  unfold btB at B
  have:=of_decide_eq_false B
  omega
 ·rename_i n1 M5 A17 A16 A15 n2 M4 A14 A13 A12 q4 M3 A11 A10 A9 q3 M2 A8 A7 A6 q2 M1 A5 A4 A3 q1 M0 A2 A1 A0 q0 B
  have hbt:1<=n /\ n<=64:=by unfold btB at B;have:=of_decide_eq_true B;omega
  have hR:At M0 a (rdr s p4):=xm
  have hc1:At M0 n1 (.cells true [I 0,I 0,.slice none 0 true 0] 48):=xm
  have hK:Keep (fun i=>i=a) M M0:=xk
  have hm:M.next<=M0.next:=hK.le
  have hn1:M.next<=n1:=by omega
  have hn2:n1 < n2:=by omega
  have hF:FrD s p=(match smpB s n p4 0 [] with
     | none=>none
     | some (l,p5)=>if frB ((sh:Int),(ch:Int),l) then(match chkB s p p5 with
      | none=>none
      | some (_,p6)=>some (((sh:Int),(ch:Int),l),p6)) else none):=by
   unfold FrD;rw[r1];simp only;rw[r2];simp only;rw[r3];simp only;rw[r4];simp only
   rw[if_pos ⟨by omega,hbt⟩]
  clear A17 A16 A15 A14 A13 A12 q4 A11 A10 A9 q3 A8 A7 A6 q2 A5 A4 A3 q1 A2 A1 q0 k1 k2 k3 k4 l1 l2 l3 l4 a1 a2 a3 a4 ha
  refine zkw gd rfl rfl (zf5 hR (by omega) (by omega)) ?_ ?_
  ·rintro v M' ⟨e1,rfl,e3,pp,e4⟩
   have hg:Grow M0 ⟨M'.next,M0.tr⟩:=⟨e3.le,fun _ _=>rfl⟩
   repeat' first|with_reducible intro _|refine svb ?_|(refine sc ?_ ?_<;>(intro h;try exact sz h))|(refine sgb ?_ ?_<;>(intro h;first|exact sz h|refine sy h ?_))|exact sq|fail
   rename_i m5 M6 hnw x1 x2
   have hle:M'.next<=M6.next:=by rw[x2];exact Nat.le_succ _
   exact⟨by rw[hF,e1],rfl,Keep.wide (hK.trans e3 (fun i hi=>.inl hi)) hle,pp,At.wide e4 hle⟩
  ·rintro w M' ⟨l,p5,e1,hv,e3,e4⟩
   rw[e1] at hF
   simp only at hF
   have hm':M0.next<=M'.next:=e3.le
   obtain⟨aa,ff,ee,rfl,hsl⟩:=SlI.vec hv
   have hc2':=e3.at A0 (fun h=>by omega)
   have hc1':=e3.at hc1 (fun h=>by omega)
   have hK':Keep (fun i=>i=a) M M':=hK.trans e3 (fun i hi=>.inl hi)
   refine zpx ?_
   repeat' first|with_reducible intro _|refine sv ?_|refine sc ?_ ?_<;>(intro h;try exact sz h)|refine sg ?_ ?_<;>(intro h;first|exact sz h|refine sy h ?_)|exact sq|fail
   rename_i n3 M6 B1 B2 B3 M7 B4 B5 B6
   have hn13:n1 < M'.next:=hc1'.2
   have hfr:FrV M7 (.agg [I sh,I ch,.slice aa l.length ff ee]) ((sh:Int),(ch:Int),l):=⟨aa,ff,ee,rfl,hsl.grow (xg)⟩
   have hb1:=z6h r1
   have hb2:=z6h r2
   have hb3:=z30 r3
   have hb4:=z51 r3
   have hb5:=z51 r4
   have hb6:=z8n n p4 0 [] hb5.2 e1
   have hin:FrIn ((sh:Int),(ch:Int),l):=⟨(show I64 (sh:Int) from by unfold I64;omega),(show I64 (ch:Int) from by unfold I64;omega),by have:=hb6.2.2;simp at this;show l.length<=_;omega,fun x hx=>znf (z78 n p4 0 [] (fun _ h=>by cases h) e1 x hx)⟩
   have hK7:Keep (fun i=>i=a) M M7:=xk
   have hR7:At M7 a (rdr s p5):=xm
   have hc17:At M7 n1 (.cells true [I 0,I 0,.slice none 0 true 0] 48):=xm
   have hlt1:n1 < M7.next:=by omega
   have hm7:M.next<=M7.next:=hK7.le
   have hv7:Vec M0.next 1 3 intc M7 (.slice aa l.length ff ee) l:=hv.grow (xg)
   have hn10:n1 < M0.next:=hc1.2
   have hn3a:a < n3:=by omega
   have hn3b:n1 < n3:=by omega
   have hn3c:n3 < M7.next:=B6.2
   clear B1 B2 B4 hc1' hc2' hK' hK hR hc1 A0 e3 e4 hv hsl
   repeat' first|with_reducible intro _|refine svb ?_|(refine sc ?_ ?_<;>(intro h;try exact sz h))|((with_reducible first|apply z0g|apply b_pure);exact gd;exact rfl;exact rfl;(first|exact zbi hfr hin))|((with_reducible first|apply x_mu|apply b_mu);exact gd;exact rfl;exact rfl;(first|exact z94 _ _);infer_instance)|(refine sgb ?_ ?_<;>(intro h;first|exact sz h|refine sy h ?_))|exact sq|fail
   ·rename_i M8 C1 C2 hF2
    refine⟨?_,rfl,xk,p5,xm⟩
    rw[hF,if_neg]
    intro hh
    unfold errF at hF2
    rw[if_pos hh] at hF2
    exact hF2 rfl
   rename_i M8 C1 C2 hT2
   have hfB:frB ((sh:Int),(ch:Int),l)=true:=by
    by_cases hh:frB ((sh:Int),(ch:Int),l)=true
    ·exact hh
    ·unfold errF at hT2
     rw[if_neg hh] at hT2
     exact absurd hT2 (by decide)
   rw[if_pos hfB] at hF
   refine x_rd gd rfl rfl (zok (f:=p) (p:=p5) (xm) hs (by omega) (by omega)) ?_ ?_
   ·intro g1 M2 g2 g3 q2 g4
    refine⟨?_,rfl,xk,q2,g4⟩
    rw[hF,g1]
   intro u p6 g1 M9 g2 g3 g4
   rw[g1] at hF
   have hc9:At M9 n1 (.cells true [I 0,I 0,.slice none 0 true 0] 48):=xm
   have hc39:At M9 n3 (.cells true [I sh,I ch,.slice aa l.length ff ee] 48):=xm
   have hv9:Vec M0.next 1 3 intc M9 (.slice aa l.length ff ee) l:=(hv7.grow C1).keep g2 (fun i hi=>by subst hi;omega)
   repeat' first|with_reducible intro _|refine svb ?_|(refine sc ?_ ?_<;>(intro h;try exact sz h))|(refine sgb ?_ ?_<;>(intro h;first|exact sz h|refine sy h ?_))|exact sq|fail
   rename_i M10 D1 D2 D3
   refine kf ?_
   have hv10:Vec M0.next 1 3 intc M10 (.slice aa l.length ff ee) l:=(hv9.keep ((Keep.refl (fun i=>i=n1) M9).upd D1 (.inl rfl)) (fun i hi=>by subst hi;exact hn10))
   exact⟨((sh:Int),(ch:Int),l),p6,hF,⟨_,rfl,Vec.low hv10 hm⟩,xk,xm⟩
 ·refine⟨?_,rfl,xk,p4,xm⟩
  unfold FrD;rw[r1];simp only;rw[r2];simp only;rw[r3];simp only;rw[r4];simp only
  rw[if_neg fun h=>by omega]
 ·exfalso;assumption
def rc1:XRec:=⟨15,4,some 1,.seq (
 .ops [
  ⟨(some 5),.mv (.t 1),none⟩,
  ⟨(some 6),.isn true (.t 5),none⟩]) (
 .cond (.t 6) (
  .seq (
  .seq (
  .ops [
   ⟨(some 8),.mv (.t 1),none⟩,
   ⟨(some 9),.asr 185 (.agg []) true (.t 8),none⟩,
   ⟨(some 7),.mv (.t 9),none⟩,
   ⟨(some 10),.ext 0 (.t 7),none⟩,
   ⟨(some 11),.ext 1 (.t 7),none⟩,
   ⟨(some 2),.new 185 [],none⟩,
   ⟨none,.st 0 (.t 2) (.t 10),none⟩,
   ⟨(some 3),.mv (.t 11),none⟩]) (
  .seq (
  .ops [
   ⟨(some 12),.mv (.t 3),none⟩,
   ⟨(some 13),.un .not (.t 12),none⟩]) (
  .cond (.t 13) (
   .ops [
    ⟨(some 14),.mv (.t 1),none⟩,
    ⟨none,.pan (.t 14),none⟩]) (
   .skip)))) (
  .ops [
   ⟨none,.st 1 (.t 0) (.c (.bool false)),none⟩])) (
  .skip))⟩
def rd1:XRead:=⟨6,[⟨(some 2),.new 4 [(.bool false)],none⟩],some 3,.mkf 119 [] [(.t 2)],none,.t 3,[],some 4,.mv (.t 0),some 5,.t 4,[],[⟨none,.st 1 (.t 2) (.c (.bool true)),none⟩],[.cell1 2]⟩
theorem kc1:cRec Tryz.prog 119=some rc1:=by kernel_rfl
theorem kd1:cRead Tryz.prog 71=some rd1:=by kernel_rfl
theorem zow{n:Nat}{M:Mem}:DfrOk Tryz.prog 119 [.ptr (some (n,0))] .nilIface M (fun M'=>M'=M):=by
 refine zlg kc1 rfl ?_
 dsimp only[rc1,zipE,Nat.reduceAdd]
 repeat' first|with_reducible intro _|refine sv ?_|refine sc ?_ ?_<;>(intro h;try exact sz h)|refine sg ?_ ?_<;>(intro h;first|exact sz h|refine sy h ?_)|exact sq|fail
 refine z1w gd (v:=.bool false) rfl ?_
 repeat' first|with_reducible intro _|refine sv ?_|refine sc ?_ ?_<;>(intro h;try exact sz h)|refine sg ?_ ?_<;>(intro h;first|exact sz h|refine sy h ?_)|exact sq|fail
 exact⟨fun i h=>(by cases h),rfl,rfl⟩
theorem zov{n:Nat}{b:Bool}{M:Mem}(hn:At M n (.cells true [.bool b] 4)):DfrOk Tryz.prog 119 [.ptr (some (n,0))] bk M (fun M'=>Keep (fun i=>i=n) M M' /\ At M' n (.cells true [.bool false] 4)):=by
 refine zlg kc1 rfl ?_
 dsimp only[rc1,zipE,Nat.reduceAdd]
 have hlt:n < M.next:=hn.2
 repeat' first|with_reducible intro _|refine sv ?_|refine sc ?_ ?_<;>(intro h;try exact sz h)|refine sg ?_ ?_<;>(intro h;first|exact sz h|refine sy h ?_)|exact sq|fail
 refine z1w gd (v:=.bool true) rfl ?_
 repeat' first|with_reducible intro _|refine sv ?_|refine sc ?_ ?_<;>(intro h;try exact sz h)|refine sg ?_ ?_<;>(intro h;first|exact sz h|refine sy h ?_)|exact sq|fail
 refine z1w gd (v:=.tup [.agg [],.bool true]) rfl ?_
 repeat' first|with_reducible intro _|refine sv ?_|refine sc ?_ ?_<;>(intro h;try exact sz h)|refine sg ?_ ?_<;>(intro h;first|exact sz h|refine sy h ?_)|exact sq|fail
 exact⟨fun i h=>(by cases h),rfl,xk,xm⟩
theorem zou{g:FuncId}{ca:List LV}{M:Mem}{F:Nat->Prop}{R R':Mem->Mem->Prop}(hF:∀ i,F i->i < M.next)
  (h:∀ M1,Grow M M1->CallB Tryz.prog g ca M1 (fun v M'=>Keep F M1 M' /\ R M1 M') (fun v M'=>v=bk /\ Keep F M1 M' /\ R' M1 M')) :
  z9 Tryz.prog 71 [.func (.func g) [] ca] M (fun w M'=>∃ M1 M2 n,Grow M M1 /\ M.next<=n /\ n < M1.next /\ Keep F M1 M2 /\ Keep (fun i=>i=n) M2 M' /\ ((w=.bool true /\ R M1 M2) ∨(w=.bool false /\ R' M1 M2))):=by
 refine zne kd1 rfl ?_
 dsimp only[rd1,zipE,Nat.reduceAdd]
 repeat' first|with_reducible intro _|refine sv ?_|refine sc ?_ ?_<;>(intro h;try exact sz h)|refine sg ?_ ?_<;>(intro h;first|exact sz h|refine sy h ?_)|exact sq|fail
 rename_i n M1 h1 h2 h3
 have hg:Grow M M1:=h1.grow
 have hA:At M1 n (.cells true [.bool false] 4):=xm
 refine⟨.func (.func 119) [] [.ptr (some (n,0))],.func (.func g) [] ca,119,[],[.ptr (some (n,0))],[],g,[],ca,[],rfl,rfl,rfl,rfl,rfl,rfl,?_⟩
 refine(h M1 hg).mono (fun v M2 ⟨k1,k2⟩=>?_) (fun v M2 ⟨k0,k1,k2⟩=>?_)
 ·have hA2:At M2 n (.cells true [.bool false] 4):=k1.at hA (fun hi=>by have:=hF n hi;omega)
  have hl:=k1.le
  dsimp only[putE]
  repeat' first|with_reducible intro _|refine sv ?_|refine sc ?_ ?_<;>(intro h;try exact sz h)|refine sg ?_ ?_<;>(intro h;first|exact sz h|refine sy h ?_)|exact sq|fail
  rename_i M3 e1 e2 e3
  obtain⟨M4,e4,rfl⟩:=zow (n:=n) (M:=M3)
  refine⟨M4,e4,_,.cell1 rfl (Rd1.of_at e3 rfl).1 .nil,M1,M2,n,hg,by omega,by omega,k1,xk,.inl ⟨rfl,k2⟩⟩
 ·subst k0
  have hA2:At M2 n (.cells true [.bool false] 4):=k1.at hA (fun hi=>by have:=hF n hi;omega)
  obtain⟨M4,e4,e5,e6⟩:=zov hA2
  refine⟨M4,e4,_,.cell1 rfl (Rd1.of_at e6 rfl).1 .nil,M1,M2,n,hg,by omega,by omega,k1,e5,.inr ⟨rfl,k2⟩⟩
theorem zji{x fc a:Nat}{s:ByteArray}{p:Nat}{M:Mem}{z1 z2 z3:LV}(hx:At M x (.cells true [.ptr (some (a,0))] 117))(hf:At M fc (.cells true [z1,z2,z3] 48))(ha:At M a (rdr s p))(hne:fc ≠ a)(hs:s.size<=140737488355328)(hp:p<=s.size) :
  CallB Tryz.prog 127 [.ptr (some (x,0)),.ptr (some (fc,0))] M
   (fun _ M'=>Keep (fun i=>i=a ∨ i=fc) M M' /\ ∃ fr q sl,FrD s p=some (fr,q) /\ At M' a (rdr s q) /\ At M' fc (.cells true [I fr.1,I fr.2.1,sl] 48) /\ Vec M.next 1 3 intc M' sl fr.2.2)
   (fun v M'=>v=bk /\ Keep (fun i=>i=a ∨ i=fc) M M' /\ FrD s p=none /\ ∃ q,At M' a (rdr s q)):=by
 refine z2p k127 rfl ?_
 dsimp only[x127,zM,zO,zI,zF,zS,zB,zL,zA,zE,zN,zW,zC,zipE,Nat.reduceAdd]
 have hfl:fc < M.next:=hf.2
 repeat' first|with_reducible intro _|refine svb ?_|(refine sc ?_ ?_<;>(intro h;try exact sz h))|(refine sgb ?_ ?_<;>(intro h;first|exact sz h|refine sy h ?_))|exact sq|fail
 refine znt gd rfl rfl ((zje ha hs hp).mono (fun _ _ h=>h) (fun v M' ⟨e1,e2,e3,q,e4⟩=>?_)) ?_
 ·exact⟨e2,e3.weaken (fun i hi=>.inl hi),e1,q,e4⟩
 rintro w M1 ⟨fr,q,e1,⟨sl,rfl,hv⟩,e3,e4⟩
 have hf1:At M1 fc (.cells true [z1,z2,z3] 48):=e3.at hf hne
 have hk1:Keep (fun i=>i=a ∨ i=fc) M M1:=e3.weaken (fun i hi=>.inl hi)
 obtain⟨aa,ff,ee,rfl⟩:=hv.shape
 refine x_st gd rfl rfl hf1 rfl rfl rfl ?_
 intro M2 h1 h2 h3
 repeat' first|with_reducible intro _|refine svb ?_|(refine sc ?_ ?_<;>(intro h;try exact sz h))|(refine sgb ?_ ?_<;>(intro h;first|exact sz h|refine sy h ?_))|exact sq|fail
 refine kf ?_
 exact⟨hk1.upd h1 (.inl (.inr rfl)),fr,q,_,e1,At.upd_ne h1 hne.symm e4,h3,hv.keep ((Keep.refl (fun i=>i=fc) M1).upd h1 (.inl rfl)) (fun i hi=>by subst hi;exact hfl)⟩
abbrev Bd:=Int × Int
abbrev bdc(x:Bd):List LV:=[I x.1,I x.2]
def lostA(L:List Bd)(p:Nat):List Bd:=match L.getLast? with
 | some x=>if x.2=(p:Int) - 1 then L.dropLast ++ [(x.1,(p:Int))] else L ++ [((p:Int),(p:Int))]
 | none=>L ++ [((p:Int),(p:Int))]
def whB(s:ByteArray):Nat->Nat->List Fr->List Bd->List Fr × List Bd
 | 0,_,F,L=>(F,L)
 | k+1,p,F,L=>if p < s.size then(match FrD s p with
  | some (x,q)=>whB s k q (F ++ [x]) L
  | none=>whB s k (p+1) F (lostA L p)) else(F,L)
def whA(s:ByteArray):List Fr × List Bd:=whB s s.size 0 [] []
theorem Vec.ge{α:Type}{b sz:Nat}{ty:TypeId}{enc:α->List LV}{M:Mem}{v:LV}{l:List α}(h:Vec b sz ty enc M v l){i o n e:Nat}{f:Bool}(hv:v=.slice (some (i,o)) n f e):b<=i:=by
 rcases h with⟨_,rfl⟩|⟨j,rfl,_,h3⟩
 ·cases hv
 ·cases hv;exact h3
theorem Vec.blt{α:Type}{b sz:Nat}{ty:TypeId}{enc:α->List LV}{M:Mem}{v:LV}{l:List α}(h:Vec b sz ty enc M v l){i o n e:Nat}{f:Bool}(hv:v=.slice (some (i,o)) n f e):i < M.next:=by
 rcases h with⟨_,rfl⟩|⟨j,rfl,h2,_⟩
 ·cases hv
 ·cases hv;exact h2.2
section
variable {α:Type} {b sz:Nat} {ty:TypeId} {enc:α->List LV} {M:Mem} {v:LV} {l:List α}
theorem Vec.appx{P:Program}[Orc P]{E:Env}{s x:XO}{by':Nat}{z:List LV}{l':List α}{xv:LV}(h:Vec b sz ty enc M v l)(hs:xval E s=some v)(hx:xval E x=some xv)(hn:z0v xv=some l'.length)(h0:0 < l'.length)
  (hb:(2*(l.length+l'.length)+2048)*by'<=140737488355328) (hz:(Nat.ble 1 sz && (Nat.ble 1 by' && Nat.beq z.length sz))=true) (hw:z0d sz l'.length xv M=some (l'.flatMap enc))
  (henc:∀ x,(enc x).length=sz) (hfl:∀ x,ze (enc x)=true) (hbM:b<=M.next) :
  ∃ v' M',zf P (.app ty sz by' z s x) E M=some (.val v' M') /\ Vec b sz ty enc M' v' (l ++ l') /\ M'.next=M.next+1 /\ Keep (fun i=>b<=i /\ ∃ o n f e,v=.slice (some (i,o)) n f e) M M' /\ ∃ n f e,v'=.slice (some (M.next,0)) n f e:=by
 have hf:=z2f (l:=l') (enc:=enc) (fun x _=>hfl x)
 rcases h with⟨rfl,rfl⟩|⟨i,rfl,h2,h3⟩
 ·refine⟨_,_,z6m hs hx hn h0 (by simpa using hb) hz rfl hw hf (.inl rfl),.inr ⟨M.next,?_,?_,hbM⟩,rfl,?_,_,_,_,rfl⟩
  ·rw[List.nil_append,Nat.zero_add]
  ·rw[List.nil_append,List.nil_append];exact⟨by rw[Mem.get_push,if_pos rfl],Nat.lt_succ_self _⟩
  ·have hN:New M M.next (.cells true ([] ++ l'.flatMap enc) (apE ty)) (M.push (.cells true ([] ++ l'.flatMap enc) (apE ty))):=⟨rfl,rfl⟩
   exact hN.grow.to_keep _
 ·have ho:z0d sz l.length (.slice (some (i,0)) l.length false sz) M=some (l.flatMap enc):=by
   rw[z2r h2 (by rw[z12 (fun x _=>henc x)];omega),List.drop_zero,List.take_of_length_le (by rw[z12 (fun x _=>henc x)];omega)]
  have hK:Kill M i M.next (.cells true (l.flatMap enc ++ l'.flatMap enc) (apE ty)) ((M.upd i none).push (.cells true (l.flatMap enc ++ l'.flatMap enc) (apE ty))):=⟨rfl,rfl⟩
  refine⟨_,_,z54 hs hx hn h0 hb hz ho hw hf h2 (by rw[show Nat.beq (apE ty) (apE ty)=true by simp,Bool.or_true]),.inr ⟨M.next,by rw[List.length_append],?_,hbM⟩,hK.next,hK.keep.weaken fun j hj=>?_,_,_,_,rfl⟩
  ·rw[List.flatMap_append];exact hK.same
  ·subst hj;exact⟨h3,_,_,_,_,rfl⟩
theorem z2e{P:Program}[Orc P]{s0:Nat}{E:Env}{K:Env->Mem->Prop}{ll:List XG}{d:Nat}{g:Option (Nat × Bool)}{s x:XO}{by':Nat}{z:List LV}{l':List α}{xv:LV}{μ:Md}(hg:GOn E g)(hv:Vec b sz ty enc M v l)(hs:xval E s=some v)(hx:xval E x=some xv)(hn:z0v xv=some l'.length)(h0:0 < l'.length)(hb:(2*(l.length+l'.length)+2048)*by'<=140737488355328)(hz:(Nat.ble 1 sz && (Nat.ble 1 by' && Nat.beq z.length sz))=true)(hw:z0d sz l'.length xv M=some (l'.flatMap enc))
  (henc:∀ x,(enc x).length=sz) (hfl:∀ x,ze (enc x)=true) (hbM:b<=M.next) (hk:∀ v' M',Vec b sz ty enc M' v' (l ++ l')->M'.next=M.next+1->Keep (fun i=>b<=i /\ ∃ o n f e,v=.slice (some (i,o)) n f e) M M'->(∃ n f e,v'=.slice (some (M.next,0)) n f e)->XW μ P s0 ll ((d,v') :: E) M' K):XW μ P s0 (⟨some d,.app ty sz by' z s x,g⟩ :: ll) E M K:=by
 obtain⟨v',M',h1,h2,h3,h4,h5⟩:=Vec.appx (P:=P) hv hs hx hn h0 hb hz hw henc hfl hbM
 exact zkv hg h1 (hk v' M' h2 h3 h4 h5)
end
theorem z74{m:Nat}{x:Bd}{M M':Mem}{ty:TypeId}(hn:New M m (.cells true [I x.1,I x.2] ty) M'):z0d 2 1 (.slice (some (m,0)) 1 true 2) M'=some ([x].flatMap bdc) :=
 z33 (enc:=bdc) (l:=[x]) (fun _ _=>rfl) (fun k' hk'=>z1v (enc:=bdc) (l:=[x]) (At.new_same hn) (fun _ _=>rfl) hk')
theorem zg1{s:ByteArray}{p:Nat}{x:Fr}{q:Nat}(hp:p<=s.size)(h:FrD s p=some (x,q)):frB x=true /\ p < q /\ q<=s.size:=by
 unfold FrD at h
 split at h
 ·cases h
 ·rename_i m p1 h1
  split at h
  ·cases h
  ·rename_i sh p2 h2
   split at h
   ·cases h
   ·rename_i ch p3 h3
    split at h
    ·cases h
    ·rename_i n p4 h4
     split at h
     ·split at h
      ·cases h
      ·rename_i l p5 h5
       split at h
       ·rename_i hf
        split at h
        ·cases h
        ·rename_i u p6 h6
         cases h
         have g1:=z6h h1
         have g2:=z6h h2
         have g3:=z51 h3
         have g4:=z51 h4
         have g5:=z8n _ _ _ _ g4.2 h5
         unfold chkB at h6
         split at h6
         ·cases h6
         ·rename_i c p7 h7
          have g6:=z6h h7
          split at h6
          ·cases h6
           exact⟨hf,by omega,by omega⟩
          ·cases h6
       ·cases h
     ·cases h
set_option maxHeartbeats 8000000 in
theorem zmn{r:Nat}{R:Rk}{s:ByteArray}{M:Mem}(hR:RkM M r R)(hB:RkB R)(hs:s.size<=1000000) :
  z9 Tryz.prog 77 [.map (some r),.str s] M (fun w M'=>RkM M' r ((whA s).1.foldl rkA R) /\ RkB ((whA s).1.foldl rkA R) /\ Vec M.next 2 65 bdc M' w (whA s).2 /\ Keep (fun i=>i=r) M M'):=by
 refine zb k77 rfl ?_
 dsimp only[x77,zM,zO,zI,zF,zS,zB,zL,zA,zE,zN,zW,zC,zipE,Nat.reduceAdd]
 have hrM:r < M.next:=hR.lt
 repeat' first|with_reducible intro _|refine sv ?_|refine sc ?_ ?_<;>(intro h;try exact sz h)|refine sg ?_ ?_<;>(intro h;first|exact sz h|refine sy h ?_)|exact sq|fail
 rename_i a M1 A1 A2 A3 x M2 A4 A5 A6 M3 A7 A8 A9
 have ha:At M3 a (rdr s 0):=by
  have:At M3 a (.cells true [.str s,I 0] 120):=xm
  exact this
 have hg3:Grow M M3:=xg
 have hax:a < x:=by omega
 have hxb:x < M3.next:=A9.2
 have har:r < a:=by omega
 have haM:M.next<=a:=by omega
 have hb3:M.next<=M3.next:=hg3.le
 have hR3:RkMb (fun i=>i=a ∨ ∃ o n f e,zsl=.slice (some (i,o)) n f e) M3 r (([]:List Fr).foldl rkA R):=(hR.b.ge (fun i hi=>by
  rcases hi with rfl|⟨o,n,f,e,h⟩
  ·exact .inr haM
  ·cases h)).grow hg3
 have hk3:Keep (fun i=>i=r) M M3:=hg3.to_keep _
 clear A1 A4 A7
 refine z8 (fun z E ms M'=>∃(p k:Nat) (F:List Fr) (L:List Bd) (v:LV),z=s.size - p /\ p<=s.size /\ s.size - p<=k /\ ms=[] /\ Has E [(0,.map (some r)),(1,.str s),(5,v),(6,.ptr (some (x,0)))] /\ At M' x (.cells true [.ptr (some (a,0))] 117) /\ At M' a (rdr s p) /\
   RkMb (fun i=>i=a ∨ ∃ o n f e,v=.slice (some (i,o)) n f e) M' r (F.foldl rkA R) /\ RkB (F.foldl rkA R) /\ Vec M3.next 2 65 bdc M' v L /\ L.length<=p /\ (∀ y ∈ L,-1000000<=y.2 /\ y.2<=1000000) /\ Keep (fun i=>i=r) M M' /\ whA s=whB s k p F L /\ M3.next<=M'.next)
  ?_ s.size _ _ _ ⟨0,s.size,[],[],_,rfl,Nat.zero_le _,by omega,rfl,.cons rfl (.cons rfl (.cons rfl (.cons rfl .nil))),A9,ha,hR3,hB,Vec.nil,Nat.le_refl _,(fun _ h=>nomatch h),hk3,rfl,Nat.le_refl _⟩
 rintro z E ms N ⟨p,k,F,L,v,rfl,hp,hk,rfl,hE,hx1,ha1,hR1,hB1,hv1,hL1,hLb,hk1,hw,hNb⟩
 refine zy hE ?_
 by_cases hlast:p=s.size
 ·subst hlast
  have hw2:whA s=(F,L):=by
   rw[hw]
   cases k with
   | zero=>rfl
   | succ k=>unfold whB;rw[if_neg (by omega)]
  repeat' first|with_reducible intro _|refine sv ?_|refine sc ?_ ?_<;>(intro h;try exact sz h)|refine sg ?_ ?_<;>(intro h;first|exact sz h|refine sy h ?_)|exact sq|fail
  refine kf ?_
  rw[hw2]
  exact⟨hR1.rk,hB1,Vec.low hv1 hb3,hk1⟩
 have hlt:p < s.size:=by omega
 obtain⟨k,rfl⟩:∃ j,k=j+1:=⟨k - 1,by omega⟩
 rw[show whB s (k+1) p F L=(if p < s.size then(match FrD s p with
  | some (x,q)=>whB s k q (F ++ [x]) L
  | none=>whB s k (p+1) F (lostA L p)) else(F,L)) from rfl,if_pos hlt] at hw
 repeat' first|with_reducible intro _|refine sv ?_|refine sc ?_ ?_<;>(intro h;try exact sz h)|refine sg ?_ ?_<;>(intro h;first|exact sz h|refine sy h ?_)|exact sq|fail
 rename_i fc N1 B1 B2 B3
 have hf1:At N1 fc (.cells true [I 0,I 0,.slice none 0 true 0] 48):=xm
 have hx2:At N1 x (.cells true [.ptr (some (a,0))] 117):=xm
 have ha2:At N1 a (rdr s p):=xm
 refine zx gd rfl rfl (zou (g:=127) (ca:=[.ptr (some (x,0)),.ptr (some (fc,0))]) (M:=N1) (F:=fun i=>i=a ∨ i=fc)
  (R:=fun M1 M'=>∃ fr q sl,FrD s p=some (fr,q) /\ At M' a (rdr s q) /\ At M' fc (.cells true [I fr.1,I fr.2.1,sl] 48) /\ Vec M1.next 1 3 intc M' sl fr.2.2)
  (R':=fun M1 M'=>FrD s p=none /\ ∃ q,At M' a (rdr s q)) (fun i hi=>by rcases hi with rfl|rfl;exact ha2.2;exact hf1.2)
  (fun M1 hg=>zji (hx2.grow hg) (hf1.grow hg) (ha2.grow hg) (by omega) (by omega) hp)) ?_
 rintro w N5 ⟨M1',M2',n,g1,g2,g3,k1,k2,hres⟩
 have g1l:=g1.le
 have kN5:Keep (fun i=>i=a) N N5:=((((Keep.refl _ N).new B1).grow g1).trans k1 (fun i hi=>by rcases hi with h|h;exact .inl h;exact .inr (by omega))).trans k2 (fun i hi=>.inr (by omega))
 have hNr:¬(r=a ∨ ∃ o n f e,v=.slice (some (r,o)) n f e):=by
  rintro(h|⟨o,n,f,e,h⟩)
  ·omega
  ·have:=Vec.ge hv1 h;omega
 have hR5:=hR1.keep kN5 (fun i hi=>.inl hi) hNr
 have hv5:Vec M3.next 2 65 bdc N5 v L:=hv1.keep kN5 (fun i hi=>by subst hi;omega)
 have hx5:=kN5.at hx1 (fun h=>by omega)
 have hk5:Keep (fun i=>i=r) M N5:=hk1.trans kN5 (fun i hi=>by subst hi;exact .inr haM)
 have hN5:=kN5.le
 rcases hres with⟨rfl,fr,q,sl,e1,e2,e3,e4⟩|⟨rfl,e1,q,e2⟩
 ·have ha5:At N5 a (rdr s q):=k2.at e2 (fun h=>by omega)
  have hf5:At N5 fc (.cells true [I fr.1,I fr.2.1,sl] 48):=k2.at e3 (fun h=>by omega)
  have hs5:Vec M1'.next 1 3 intc N5 sl fr.2.2:=e4.keep k2 (fun i hi=>by subst hi;exact g3)
  obtain⟨aa,ff,ee,rfl,hsl⟩:=SlI.vec hs5
  obtain⟨o1,o2,o3⟩:=zg1 hp e1
  rw[e1] at hw
  clear e2 e3 e4 hs5 k1 k2 g1 B1 hf1 hx2 ha2 hx1 ha1 hR1 hv1 hk1
  repeat' first|with_reducible intro _|refine sv ?_|refine sc ?_ ?_<;>(intro h;try exact sz h)|refine sg ?_ ?_<;>(intro h;first|exact sz h|refine sy h ?_)|exact sq|fail
  rename_i n6 N6 C1 C2 C3
  have hfs:FsV N6 (some (n6,0)) [fr]:=.inr ⟨n6,0,rfl,fun k hk=>by
   obtain rfl:k=0:=by simpa using hk
   exact⟨aa,ff,ee,Rd.of_at (At.new_same C1) rfl,hsl.grow C1.grow⟩⟩
  have hR6:=hR5.grow C1.grow
  have hx6:=hx5.grow C1.grow
  have ha6:=ha5.grow C1.grow
  have hv6:=hv5.grow C1.grow
  have hk6:=hk5.grow C1.grow
  have hN6:=C1.grow.le
  refine zx gd rfl rfl (zoh (f:=true) (e:=3) hR6 (fun i hi=>?_) hfs (fun y hy=>by rw[List.mem_singleton.1 hy];exact o1) hB1 (by show 1<=1000000;omega)) ?_
  ·rcases hi with rfl|⟨o,n,f,e,h⟩
   ·exact ha6.2
   ·exact Vec.blt hv6 h
  rintro w N7 ⟨hR7,k7⟩
  have k7l:=k7.le
  clear C1
  repeat' first|with_reducible intro _|refine sv ?_|refine sc ?_ ?_<;>(intro h;try exact sz h)|refine sg ?_ ?_<;>(intro h;first|exact sz h|refine sy h ?_)|exact sq|fail
  refine zd (s.size - q) (by omega) ⟨q,k,F ++ [fr],L,v,rfl,o3,by omega,rfl,.cons rfl (.cons rfl (.cons rfl (.cons rfl .nil))),k7.at hx6 (fun h=>by omega),k7.at ha6 (fun h=>by omega),?_,?_,hv6.keep k7 (fun i hi=>by subst hi;omega),by omega,hLb,hk6.trans k7 (fun i hi=>.inl hi),hw,by omega⟩
  ·rw[List.foldl_append];exact hR7
  ·rw[List.foldl_append];exact hB1.add (z3w o1).2
 ·have ha5:At N5 a (.cells true [.str s,I q] 120):=k2.at e2 (fun h=>by omega)
  rw[e1] at hw
  simp only at hw
  clear e2 k1 k2 g1 B1 hf1 hx2 ha2 hx1 ha1 hR1 hv1 hk1
  rcases List.eq_nil_or_concat L with rfl|⟨D,y,rfl⟩
  ·obtain⟨aa,ff,ee,rfl⟩:=hv5.shape
   repeat' first|with_reducible intro _|refine sv ?_|refine sc ?_ ?_<;>(intro h;try exact sz h)|refine sg ?_ ?_<;>(intro h;first|exact sz h|refine sy h ?_)|exact sq|fail
   rename_i hh N6 C1 C2 C3 n7 N7 C4 C5 C6
   have hR7:RkMb (fun i=>i=a ∨ ∃ o n f e,LV.slice aa ([]:List Bd).length ff ee=.slice (some (i,o)) n f e) N7 r (F.foldl rkA R):=(hR5.keep ((Keep.refl (fun i=>i=a) N5).upd C1 (.inl rfl)) (fun i hi=>.inl hi) hNr).grow C4.grow
   have hv7:Vec M3.next 2 65 bdc N7 (.slice aa ([]:List Bd).length ff ee) []:=(hv5.keep ((Keep.refl (fun i=>i=a) N5).upd C1 (.inl rfl)) (fun i hi=>by subst hi;omega)).grow C4.grow
   have hx7:At N7 x (.cells true [.ptr (some (a,0))] 117):=xm
   have ha7:At N7 a (rdr s (p+1)):=by
    have:At N7 a (.cells true [.str s,I ((p:Int)+1)] 120):=xm
    exact this
   have hk7:Keep (fun i=>i=r) M N7:=(hk5.upd C1 (.inr haM)).new C4
   have hbf:=z74 (x:=((p:Int),(p:Int))) C4
   clear hR5 hv5 hx5 hk5 C1 C4 ha5
   refine z2e (by exact gd) (l':=[((p:Int),(p:Int))]) hv7 rfl rfl rfl (by simp) (by simp) rfl hbf (fun _=>rfl) (fun _=>rfl) (by omega) ?_
   rintro v8 N8 hv8 e8 k8 ⟨n8,f8,q8,rfl⟩
   repeat' first|with_reducible intro _|refine sv ?_|refine sc ?_ ?_<;>(intro h;try exact sz h)|refine sg ?_ ?_<;>(intro h;first|exact sz h|refine sy h ?_)|exact sq|fail
   refine zd (s.size - (p+1)) (by omega) ⟨p+1,k,F,lostA [] p,_,rfl,by omega,by omega,rfl,.cons rfl (.cons rfl (.cons rfl (.cons rfl .nil))),k8.at hx7 (fun hi=>by have:=hi.1;omega),k8.at ha7 (fun hi=>by have:=hi.1;omega),?_,hB1,hv8,?_,?_,hk7.trans k8 (fun i hi=>.inr (by have:=hi.1;omega)),hw,by omega⟩
   ·refine((hR7.ge (b':=fun i=>(i=a ∨ ∃ o n f e,LV.slice aa ([]:List Bd).length ff ee=.slice (some (i,o)) n f e) ∨ i=N7.next) (fun i hi=>hi.imp id fun h=>by omega)).keep k8 (fun i hi=>.inl (.inr hi.2)) (fun h=>?_)).ge (fun i hi=>.inl ?_)
    ·rcases h with h|h
     ·exact hNr h
     ·omega
    ·rcases hi with h|⟨o,n,f,e,h⟩
     ·exact .inl (.inl h)
     ·cases h;exact .inr rfl
   ·show 1<=p+1;omega
   ·intro y hy
    obtain rfl:y=((p:Int),(p:Int)):=by simpa [lostA] using hy
    show -1000000<=(p:Int) /\ (p:Int)<=1000000
    omega
  ·rw[List.concat_eq_append] at *
   rcases hv5 with⟨h0,_⟩|⟨i,hveq,hvi,hib⟩
   ·simp at h0
   subst hveq
   have hlen:(D ++ [y]).length=D.length+1:=by simp
   have hyb:=hLb y (by simp)
   have hia:i ≠ a:=by omega
   have hnn:Int.toNat (((D ++ [y]).length:Int) - 1)=D.length:=by rw[hlen];omega
   have hset:z0k ((D ++ [y]).flatMap bdc) (0+Int.toNat (((D ++ [y]).length:Int) - 1)*2+1) [I p]=some ((D ++ [(y.1,(p:Int))]).flatMap bdc):=by
    rw[hnn,List.flatMap_append,List.flatMap_append]
    have:=z3p (D.flatMap bdc) [I y.1,I y.2] [I p] 1 [I y.1,I p] rfl (by simp)
    have hl2:(D.flatMap bdc).length=D.length*2:=z12 (enc:=bdc) (fun _ _=>rfl)
    rw[hl2] at this
    rw[Nat.zero_add];exact this
   have hla:lostA (D ++ [y]) p=if y.2=(p:Int) - 1 then D ++ [(y.1,(p:Int))] else(D ++ [y]) ++ [((p:Int),(p:Int))]:=by
    unfold lostA
    rw[List.getLast?_concat]
    simp only[List.dropLast_concat]
   repeat' first|with_reducible intro _|refine sv ?_|refine sc ?_ ?_<;>(intro h;try exact sz h)|refine sg ?_ ?_<;>(intro h;first|exact sz h|refine sy h ?_)|exact sq|fail
   rename_i hh N6 C1 C2 C3
   have hu5:Keep (fun i=>i=a) N5 N6:=(Keep.refl (fun i=>i=a) N5).upd C1 (.inl rfl)
   have hvi6:At N6 i (.cells true ((D ++ [y]).flatMap bdc) (apE 65)):=hu5.at hvi hia
   have hrd:Rd1 N6 i (0+Int.toNat (((D ++ [y]).length:Int) - 1)*2+1) (I y.2):=by
    have h1:=z1v (enc:=bdc) (sz:=2) hvi6 (fun _ _=>rfl) (k:=D.length) (by omega)
    have h2:(D ++ [y])[D.length]'(by omega)=y:=by simp
    rw[h2] at h1
    rw[hnn]
    exact Rd.nth (j:=1) h1 rfl
   have hR6:=hR5.keep hu5 (fun i hi=>.inl hi) hNr
   have hx6:At N6 x (.cells true [.ptr (some (a,0))] 117):=hu5.at hx5 (fun h=>by omega)
   have hk6:Keep (fun i=>i=r) M N6:=hk5.upd C1 (.inr haM)
   have hv6:Vec M3.next 2 65 bdc N6 (.slice (some (i,0)) (D ++ [y]).length false 2) (D ++ [y]):=.inr ⟨i,rfl,hvi6,hib⟩
   clear hR5 hx5 hk5 C1 hvi ha5
   refine x_l1 (by exact gd) rfl hrd ?_
   repeat' first|with_reducible intro _|refine sv ?_|refine sc ?_ ?_<;>(intro h;try exact sz h)|refine sg ?_ ?_<;>(intro h;first|exact sz h|refine sy h ?_)|exact sq|fail
   ·refine x_st (by exact gd) rfl rfl hvi6 rfl rfl hset ?_
    intro N7 D1 D2 D3
    have hu7:Keep (fun j=>j=i) N6 N7:=(Keep.refl (fun j=>j=i) N6).upd D1 (.inl rfl)
    have ha6:At N6 a (rdr s (p+1)):=C3
    repeat' first|with_reducible intro _|refine sv ?_|refine sc ?_ ?_<;>(intro h;try exact sz h)|refine sg ?_ ?_<;>(intro h;first|exact sz h|refine sy h ?_)|exact sq|fail
    refine zd (s.size - (p+1)) (by omega) ⟨p+1,k,F,D ++ [(y.1,(p:Int))],_,rfl,by omega,by omega,rfl,.cons rfl (.cons rfl (.cons rfl (.cons rfl .nil))),hu7.at hx6 (fun h=>by omega),hu7.at ha6 (fun h=>hia h.symm),?_,hB1,?_,?_,?_,hk6.upd D1 (.inr (by omega)),?_,by omega⟩
    ·exact hR6.keep hu7 (fun j hj=>.inr (by subst hj;exact⟨_,_,_,_,rfl⟩)) hNr
    ·refine .inr ⟨i,by rw[hlen,show(D ++ [(y.1,(p:Int))]).length=D.length+1 by simp],D3,hib⟩
    ·rw[show(D ++ [(y.1,(p:Int))]).length=D.length+1 by simp];omega
    ·intro z hz
     rcases List.mem_append.1 hz with hz|hz
     ·exact hLb z (by simp[hz])
     ·rw[List.mem_singleton.1 hz]
      show -1000000<=(p:Int) /\ (p:Int)<=1000000
      omega
    ·rw[hw,hla,if_pos ‹y.2=_›]
   ·rename_i n7 N7 C4 C5 C6
    have hR7:=hR6.grow C4.grow
    have hv7:=hv6.grow C4.grow
    have hx7:=hx6.grow C4.grow
    have ha7:At N7 a (rdr s (p+1)):=At.grow C4.grow C3
    have hk7:=hk6.grow C4.grow
    have hbf:=z74 (x:=((p:Int),(p:Int))) C4
    clear C4
    refine z2e (by exact gd) (l':=[((p:Int),(p:Int))]) hv7 rfl rfl rfl (by simp) (by rw[hlen];simp;omega) rfl hbf (fun _=>rfl) (fun _=>rfl) (by omega) ?_
    rintro v8 N8 hv8 e8 k8 ⟨n8,f8,q8,rfl⟩
    have hib7:i ≠ a:=hia
    repeat' first|with_reducible intro _|refine sv ?_|refine sc ?_ ?_<;>(intro h;try exact sz h)|refine sg ?_ ?_<;>(intro h;first|exact sz h|refine sy h ?_)|exact sq|fail
    have hxi:x ≠ i:=by omega
    refine zd (s.size - (p+1)) (by omega) ⟨p+1,k,F,(D ++ [y]) ++ [((p:Int),(p:Int))],_,rfl,by omega,by omega,rfl,.cons rfl (.cons rfl (.cons rfl (.cons rfl .nil))),k8.at hx7 (fun hi=>by have:=hi.1;omega),k8.at ha7 (fun hi=>by have:=hi.1;omega),?_,hB1,hv8,?_,?_,hk7.trans k8 (fun j hj=>.inr (by have:=hj.1;omega)),?_,by omega⟩
    ·refine((hR7.ge (b':=fun j=>(j=a ∨ ∃ o n f e,LV.slice (some (i,0)) (D ++ [y]).length false 2=.slice (some (j,o)) n f e) ∨ j=N7.next) (fun i hi=>hi.imp id fun h=>by omega)).keep k8 (fun i hi=>.inl (.inr hi.2)) (fun h=>?_)).ge (fun i hi=>.inl ?_)
     ·rcases h with h|h
      ·exact hNr h
      ·omega
     ·rcases hi with h|⟨o,n,f,e,h⟩
      ·exact .inl (.inl h)
      ·cases h;exact .inr rfl
    ·rw[List.length_append,hlen];simp;omega
    ·intro z hz
     rcases List.mem_append.1 hz with hz|hz
     ·exact hLb z hz
     ·rw[List.mem_singleton.1 hz]
      show -1000000<=(p:Int) /\ (p:Int)<=1000000
      omega
    ·rw[hw,hla,if_neg ‹¬ y.2=_›]
end Go.Proofs.YtbfnnllgdioccaaGreatDoor.C
end
section
open Go PvL Go.Proofs
set_option linter.unusedSimpArgs false
set_option linter.unusedVariables false
variable {μ:Md}
namespace Go.Proofs.YtbfnnllgdioccaaGreatDoor.C
def atR(s:ByteArray)(i:Nat):Int:=if i < s.size then(byteAt s i:Int) else -1
theorem zme(s:ByteArray)(hs:s.size<=1000000000000000)(p:Nat)(M:Mem):z9 Tryz.prog 74 [.str s,I p] M (fun w M'=>w=I (atR s p) /\ M'=M):=by
 refine zb k74 rfl ?_
 dsimp only[x74,zM,zO,zI,zF,zS,zB,zL,zA,zE,zN,zW,zC,zipE,Nat.reduceAdd]
 have hb2:=z0p s p
 unfold atR
 by_cases hlt:p < s.size
 ·rw[if_pos hlt]
  repeat' first|with_reducible intro _|refine sv ?_|refine sc ?_ ?_<;>(intro h;try exact sz h)|refine sg ?_ ?_<;>(intro h;first|exact sz h|refine sy h ?_)|exact sq|fail
  all_goals first|((refine kf ?_);exact⟨rfl,rfl⟩)|(exfalso;omega)
 ·rw[if_neg hlt]
  repeat' first|with_reducible intro _|refine sv ?_|refine sc ?_ ?_<;>(intro h;try exact sz h)|refine sg ?_ ?_<;>(intro h;first|exact sz h|refine sy h ?_)|exact sq|fail
  all_goals first|((refine kf ?_);exact⟨rfl,rfl⟩)|(exfalso;omega)
theorem zoi(s:ByteArray)(hs:s.size<=1000000000000000)(p:Nat)(z:Int)(hz:z=p)(M:Mem):z9 Tryz.prog 74 [.str s,I z] M (fun w M'=>w=I (atR s p) /\ M'=M):=by
 subst hz;exact zme s hs p M
def ldC(s:ByteArray):Nat->Nat->Nat->Nat->Option (Nat × Nat)
 | 0,i,n,_=>some (n,i)
 | j+1,i,n,u=>if i < s.size then(if 128<=byteAt s i then ldC s j (i+1) (n+u*(byteAt s i % 128)) (u*128) else some (n+u*(byteAt s i % 128),i+1)) else none
def ldV(n:Nat)(last:Int):Int × Int:=if n=0 then(40000,last) else if n=1 then(40001,last) else(nxS last n,nxS last n)
def ldS(s:ByteArray):Nat->Nat->Int->List Int->Option (List Int)
 | 0,_,_,acc=>some acc
 | k+1,i,last,acc=>match ldC s 4 i 0 1 with
  | none=>none
  | some (n,q)=>ldS s k q (ldV n last).2 (acc ++ [(ldV n last).1])
def fdR(s:ByteArray)(p:Nat):Option (Fr × Nat) :=
 if atR s p=165 /\ atR s (p+1)=90 /\ p+6<=s.size then(match ldS s (byteAt s (p+5)) (p+6) 0 [] with
  | none=>none
  | some l=>let f:Fr:=((((256*byteAt s (p+2)+byteAt s (p+3):Nat)):Int),((byteAt s (p+4):Nat):Int),l)
   if frB f=true /\ p+(pkL f).length<=s.size /\ s.extract p (p+(pkL f).length)=strL (pkL f) then some (f,p+(pkL f).length) else none)
 else none
abbrev zFrv:LV:=.agg [I 0,I 0,.slice none 0 true 0]
def FdQ(r:Option (Fr × Nat))(M:Mem)(w:LV)(M':Mem):Prop:=(match r with
 | some (x,q)=>∃ v,w=.tup [.agg [I x.1,I x.2.1,v],I q,.bool true] /\ Vec M.next 1 3 intc M' v x.2.2
 | none=>w=.tup [zFrv,I 0,.bool false]) /\ Grow M M'
set_option maxHeartbeats 8000000 in
theorem zmk{s:ByteArray}{p:Nat}{M:Mem}(hs:s.size<=1000000)(hp:p < s.size) :
  z9 Tryz.prog 75 [.str s,I p] M (FdQ (fdR s p) M):=by
 refine zb k75 rfl ?_
 dsimp only[x75,zM,zO,zI,zF,zS,zB,zL,zA,zE,zN,zW,zC,zipE,Nat.reduceAdd]
 have ca:=fun(k:Nat) (z:Int) (hz:z=(k:Int)) (M':Mem)=>zoi s (by omega) k z hz M'
 have hat:∀ k,-1<=atR s k /\ atR s k<=255:=fun k=>by
  unfold atR
  have:=z0p s k
  split<;>omega
 have h0:=hat p
 have h1:=hat (p+1)
 by_cases hc:atR s p=165 /\ atR s (p+1)=90 /\ p+6<=s.size
 case neg =>
  have hF:fdR s p=none:=by unfold fdR;rw[if_neg hc]
  rw[hF]
  repeat' first|with_reducible intro _|refine sv ?_|refine sc ?_ ?_<;>(intro h;try exact sz h)|((with_reducible first|apply z02|apply z0f|apply d_same0);exact gd;exact rfl;exact rfl;(first|exact ca p _ rfl _|exact ca (p+1) _ (by omega) _))|refine sg ?_ ?_<;>(intro h;first|exact sz h|refine sy h ?_)|exact sq|fail
  all_goals first|(exfalso;omega)|skip
  all_goals ((refine kf ?_);exact⟨rfl,xg⟩)
 obtain⟨hc1,hc2,hc3⟩:=hc
 have hb:∀ k,k < s.size->atR s k=byteAt s k:=fun k hk=>by unfold atR;rw[if_pos hk]
 have e2:=hb (p+2) (by omega)
 have e3:=hb (p+3) (by omega)
 have e4:=hb (p+4) (by omega)
 have e5:=hb (p+5) (by omega)
 have l2:=z0p s (p+2)
 have l3:=z0p s (p+3)
 have l4:=z0p s (p+4)
 have l5:=z0p s (p+5)
 repeat' first|with_reducible intro _|refine sv ?_|refine sc ?_ ?_<;>(intro h;try exact sz h)|((with_reducible first|apply z02|apply z0f|apply d_same0);exact gd;exact rfl;exact rfl;(first|exact ca p _ rfl _|exact ca (p+1) _ (by omega) _|exact ca (p+2) _ (by omega) _|exact ca (p+3) _ (by omega) _|exact ca (p+4) _ (by omega) _|exact ca (p+5) _ (by omega) _))|refine sg ?_ ?_<;>(intro h;first|exact sz h|refine sy h ?_)|exact sq|fail
 all_goals first|(exfalso;omega)|skip
 rename_i rc M1 A1 A2 A3 y1 y2 fc M2 A4 A5 A6 M3 A7 A8 A9
 rw[e2,e3,e4] at A9
 rw[e5]
 generalize hn:byteAt s (p+5)=n at *
 generalize hsh:(256*(byteAt s (p+2):Int)+(byteAt s (p+3):Int))=sh at *
 generalize hch:(byteAt s (p+4):Int)=ch at *
 have hrc3:At M3 rc (.cells true [I 0,I 0,.slice none 0 true 0] 48):=xm
 have hg3:Grow M M3:=xg
 have hrf:rc < fc:=by omega
 have hrM:M.next<=rc:=by omega
 have hfc3:fc < M3.next:=A9.2
 have hF:fdR s p=(match ldS s n (p+6) 0 [] with
  | none=>none
  | some l=>if frB (sh,ch,l)=true /\ p+(pkL (sh,ch,l)).length<=s.size /\ s.extract p (p+(pkL (sh,ch,l)).length)=strL (pkL (sh,ch,l)) then some ((sh,ch,l),p+(pkL (sh,ch,l)).length) else none):=by
  unfold fdR
  rw[if_pos ⟨hc1,hc2,hc3⟩,hn]
  have hs2:(((256*byteAt s (p+2)+byteAt s (p+3):Nat)):Int)=sh:=by omega
  rw[hs2,hch]
 have hshb:0<=sh /\ sh<=65535:=by omega
 have hchb:0<=ch /\ ch<=255:=by omega
 have hn255:n<=255:=by omega
 clear A1 A4 A7
 refine z8 (fun z E ms M'=>∃(k i:Nat) (last:Int) (acc:List Int) (v:LV),z=n - k /\ k<=n /\ ms=[] /\ Has E [(0,.str s),(1,I p),(4,.ptr (some (rc,0))),(7,.ptr (some (fc,0))),(8,I n),(9,I last),(10,I i),(11,I k)] /\ acc.length=k /\ (-(k*134217728)<=last /\ last<=k*134217728) /\ (∀ x ∈ acc,I64 x) /\ i<=s.size /\
   ldS s n (p+6) 0 []=ldS s (n - k) i last acc /\ At M' fc (.cells true [I sh,I ch,v] 48) /\ At M' rc (.cells true [I 0,I 0,.slice none 0 true 0] 48) /\ Vec M3.next 1 3 intc M' v acc /\ Grow M M' /\ M3.next<=M'.next)
  ?_ n _ _ _ ⟨0,p+6,0,[],_,by omega,by omega,rfl,.cons rfl (.cons rfl (.cons rfl (.cons rfl (.cons rfl (.cons rfl (.cons (by show some (I _)=some (I _);push_cast;rfl) (.cons rfl .nil))))))),rfl,by omega,(fun _ h=>nomatch h),hc3,rfl,A9,hrc3,Vec.nil,hg3,Nat.le_refl _⟩
 rintro z E ms N ⟨k,i,last,acc,v,rfl,hk,rfl,hE,hacc,hla,haI,hi,hw,hf1,hr1,hv1,hg1,hN⟩
 refine zy hE ?_
 by_cases hlast:k=n
 case neg =>
  obtain⟨m,hm⟩:∃ m,n - k=m+1:=⟨n - k - 1,by omega⟩
  rw[hm,show ldS s (m+1) i last acc=(match ldC s 4 i 0 1 with
   | none=>none
   | some (n,q)=>ldS s m q (ldV n last).2 (acc ++ [(ldV n last).1])) from rfl] at hw
  repeat' first|with_reducible intro _|refine sv ?_|refine sc ?_ ?_<;>(intro h;try exact sz h)|refine sg ?_ ?_<;>(intro h;first|exact sz h|refine sy h ?_)|exact sq|fail
  refine z24 (K:=fun e E ms M'=>(e=.exit 2 /\ ms=[] /\ M'=N /\ ∃ n' i':Nat,Has E [(0,.str s),(1,I p),(4,.ptr (some (rc,0))),(7,.ptr (some (fc,0))),(8,I n),(9,I last),(10,I i'),(11,I k),(12,I n')] /\ ldC s 4 i 0 1=some (n',i') /\ n' < 268435456 /\ i'<=s.size) ∨(e=.ret /\ KFun [.cellN 4 3,.tmp 5,.tmp 6] (FdQ (fdR s p) M) .ret E ms M')) ?_ ?_
  rotate_left
  ·rintro e E4 ms4 N4 (⟨rfl,rfl,rfl,n',i',hE4,hcd,hn28,hi'⟩|⟨rfl,hkf⟩)
   rotate_left
   ·repeat' first|with_reducible intro _|refine sv ?_|refine sc ?_ ?_<;>(intro h;try exact sz h)|refine sg ?_ ?_<;>(intro h;first|exact sz h|refine sy h ?_)|exact sq|fail
   rw[hcd] at hw
   simp only at hw
   refine z0x ?_
   refine z3j ?_
   refine zy hE4 ?_
   obtain⟨va,vf,ve,rfl⟩:=hv1.shape
   clear ca hE4 hE
   have e1n:((n':Int) % 2)=((n' % 2:Nat):Int):=by omega
   repeat' first|with_reducible intro _|refine sv ?_|refine sc ?_ ?_<;>(intro h;try exact sz h)|refine sg ?_ ?_<;>(intro h;first|exact sz h|refine sy h ?_)|exact sq|fail
   ·rename_i m7 M7 C1 C2 C3
    have hv7:=hv1.grow C1.grow
    have hf7:=hf1.grow C1.grow
    have hr7:=hr1.grow C1.grow
    have hg7:=hg1.trans C1.grow
    have hof:=z1k C1
    clear C1
    refine z1l (by exact gd) (l':=[40000]) hv7 rfl rfl rfl (by simp) (by rw[hacc,List.length_singleton];omega) rfl hof (fun _=>rfl) (fun _=>rfl) (by omega) ?_
    intro v8 M8 hv8 e8 k8
    have hf8:=k8.at hf7 (fun hi=>by have:=hi.1;omega)
    have hr8:=k8.at hr7 (fun hi=>by have:=hi.1;omega)
    have hg8:Grow M M8:=Keep.to_grow' hg7 k8 (fun i hi=>by have:=hi.1;have:=hg3.le;omega)
    obtain⟨v8a,v8f,v8e,rfl⟩:=hv8.shape
    repeat' first|with_reducible intro _|refine sv ?_|refine sc ?_ ?_<;>(intro h;try exact sz h)|refine sg ?_ ?_<;>(intro h;first|exact sz h|refine sy h ?_)|exact sq|fail
    rename_i M9 D1 D2 D3
    have hu9:Keep (fun i=>i=fc) M8 M9:=(Keep.refl (fun i=>i=fc) M8).upd D1 (.inl rfl)
    have hval:ldV n' last=(40000,last):=by unfold ldV;rw[if_pos (by omega)]
    have hI:I64 (40000):=by unfold I64;omega
    refine zd (n - (k+1)) (by omega) ⟨k+1,i',last,acc ++ [40000],_,rfl,by omega,rfl,.cons rfl (.cons rfl (.cons rfl (.cons rfl (.cons rfl (.cons rfl (.cons rfl (.cons rfl .nil))))))),by simp[hacc],by omega,?_,hi',?_,D3,hu9.at hr8 (fun h=>by omega),hv8.keep hu9 (fun i hi=>by subst hi;exact hfc3),hg8.keep hu9 (fun i hi=>by omega),by omega⟩
    ·intro y hy
     rcases List.mem_append.1 hy with hy|hy
     ·exact haI y hy
     ·rw[List.mem_singleton.1 hy];exact hI
    ·rw[hw,hval,show n - (k+1)=m by omega]
   ·rename_i m7 M7 C1 C2 C3
    have hv7:=hv1.grow C1.grow
    have hf7:=hf1.grow C1.grow
    have hr7:=hr1.grow C1.grow
    have hg7:=hg1.trans C1.grow
    have hof:=z1k C1
    clear C1
    refine z1l (by exact gd) (l':=[40001]) hv7 rfl rfl rfl (by simp) (by rw[hacc,List.length_singleton];omega) rfl hof (fun _=>rfl) (fun _=>rfl) (by omega) ?_
    intro v8 M8 hv8 e8 k8
    have hf8:=k8.at hf7 (fun hi=>by have:=hi.1;omega)
    have hr8:=k8.at hr7 (fun hi=>by have:=hi.1;omega)
    have hg8:Grow M M8:=Keep.to_grow' hg7 k8 (fun i hi=>by have:=hi.1;have:=hg3.le;omega)
    obtain⟨v8a,v8f,v8e,rfl⟩:=hv8.shape
    repeat' first|with_reducible intro _|refine sv ?_|refine sc ?_ ?_<;>(intro h;try exact sz h)|refine sg ?_ ?_<;>(intro h;first|exact sz h|refine sy h ?_)|exact sq|fail
    rename_i M9 D1 D2 D3
    have hu9:Keep (fun i=>i=fc) M8 M9:=(Keep.refl (fun i=>i=fc) M8).upd D1 (.inl rfl)
    have hval:ldV n' last=(40001,last):=by unfold ldV;rw[if_neg (by omega),if_pos (by omega)]
    have hI:I64 (40001):=by unfold I64;omega
    refine zd (n - (k+1)) (by omega) ⟨k+1,i',last,acc ++ [40001],_,rfl,by omega,rfl,.cons rfl (.cons rfl (.cons rfl (.cons rfl (.cons rfl (.cons rfl (.cons rfl (.cons rfl .nil))))))),by simp[hacc],by omega,?_,hi',?_,D3,hu9.at hr8 (fun h=>by omega),hv8.keep hu9 (fun i hi=>by subst hi;exact hfc3),hg8.keep hu9 (fun i hi=>by omega),by omega⟩
    ·intro y hy
     rcases List.mem_append.1 hy with hy|hy
     ·exact haI y hy
     ·rw[List.mem_singleton.1 hy];exact hI
    ·rw[hw,hval,show n - (k+1)=m by omega]
   ·rename_i m7 M7 C1 C2 C3
    have hv7:=hv1.grow C1.grow
    have hf7:=hf1.grow C1.grow
    have hr7:=hr1.grow C1.grow
    have hg7:=hg1.trans C1.grow
    have hof:=z1k C1
    clear C1
    refine z1l (by exact gd) (l':=[last+((n':Int) - 2) / 2]) hv7 rfl rfl rfl (by simp) (by rw[hacc,List.length_singleton];omega) rfl hof (fun _=>rfl) (fun _=>rfl) (by omega) ?_
    intro v8 M8 hv8 e8 k8
    have hf8:=k8.at hf7 (fun hi=>by have:=hi.1;omega)
    have hr8:=k8.at hr7 (fun hi=>by have:=hi.1;omega)
    have hg8:Grow M M8:=Keep.to_grow' hg7 k8 (fun i hi=>by have:=hi.1;have:=hg3.le;omega)
    obtain⟨v8a,v8f,v8e,rfl⟩:=hv8.shape
    repeat' first|with_reducible intro _|refine sv ?_|refine sc ?_ ?_<;>(intro h;try exact sz h)|refine sg ?_ ?_<;>(intro h;first|exact sz h|refine sy h ?_)|exact sq|fail
    rename_i M9 D1 D2 D3
    have hu9:Keep (fun i=>i=fc) M8 M9:=(Keep.refl (fun i=>i=fc) M8).upd D1 (.inl rfl)
    have hval:ldV n' last=(last+((n':Int) - 2) / 2,last+((n':Int) - 2) / 2):=by unfold ldV nxS;rw[if_neg (by omega),if_neg (by omega),if_pos (by omega)];congr 1<;>omega
    have hI:I64 (last+((n':Int) - 2) / 2):=by unfold I64;omega
    refine zd (n - (k+1)) (by omega) ⟨k+1,i',last+((n':Int) - 2) / 2,acc ++ [last+((n':Int) - 2) / 2],_,rfl,by omega,rfl,.cons rfl (.cons rfl (.cons rfl (.cons rfl (.cons rfl (.cons rfl (.cons rfl (.cons rfl .nil))))))),by simp[hacc],by omega,?_,hi',?_,D3,hu9.at hr8 (fun h=>by omega),hv8.keep hu9 (fun i hi=>by subst hi;exact hfc3),hg8.keep hu9 (fun i hi=>by omega),by omega⟩
    ·intro y hy
     rcases List.mem_append.1 hy with hy|hy
     ·exact haI y hy
     ·rw[List.mem_singleton.1 hy];exact hI
    ·rw[hw,hval,show n - (k+1)=m by omega]
   ·rename_i m7 M7 C1 C2 C3
    have hv7:=hv1.grow C1.grow
    have hf7:=hf1.grow C1.grow
    have hr7:=hr1.grow C1.grow
    have hg7:=hg1.trans C1.grow
    have hof:=z1k C1
    clear C1
    refine z1l (by exact gd) (l':=[last - ((n':Int) - 1) / 2]) hv7 rfl rfl rfl (by simp) (by rw[hacc,List.length_singleton];omega) rfl hof (fun _=>rfl) (fun _=>rfl) (by omega) ?_
    intro v8 M8 hv8 e8 k8
    have hf8:=k8.at hf7 (fun hi=>by have:=hi.1;omega)
    have hr8:=k8.at hr7 (fun hi=>by have:=hi.1;omega)
    have hg8:Grow M M8:=Keep.to_grow' hg7 k8 (fun i hi=>by have:=hi.1;have:=hg3.le;omega)
    obtain⟨v8a,v8f,v8e,rfl⟩:=hv8.shape
    repeat' first|with_reducible intro _|refine sv ?_|refine sc ?_ ?_<;>(intro h;try exact sz h)|refine sg ?_ ?_<;>(intro h;first|exact sz h|refine sy h ?_)|exact sq|fail
    rename_i M9 D1 D2 D3
    have hu9:Keep (fun i=>i=fc) M8 M9:=(Keep.refl (fun i=>i=fc) M8).upd D1 (.inl rfl)
    have hval:ldV n' last=(last - ((n':Int) - 1) / 2,last - ((n':Int) - 1) / 2):=by unfold ldV nxS;rw[if_neg (by omega),if_neg (by omega),if_neg (by omega)];congr 1<;>omega
    have hI:I64 (last - ((n':Int) - 1) / 2):=by unfold I64;omega
    refine zd (n - (k+1)) (by omega) ⟨k+1,i',last - ((n':Int) - 1) / 2,acc ++ [last - ((n':Int) - 1) / 2],_,rfl,by omega,rfl,.cons rfl (.cons rfl (.cons rfl (.cons rfl (.cons rfl (.cons rfl (.cons rfl (.cons rfl .nil))))))),by simp[hacc],by omega,?_,hi',?_,D3,hu9.at hr8 (fun h=>by omega),hv8.keep hu9 (fun i hi=>by subst hi;exact hfc3),hg8.keep hu9 (fun i hi=>by omega),by omega⟩
    ·intro y hy
     rcases List.mem_append.1 hy with hy|hy
     ·exact haI y hy
     ·rw[List.mem_singleton.1 hy];exact hI
    ·rw[hw,hval,show n - (k+1)=m by omega]
  refine z8 (fun z E ms M'=>∃(j i' n' u:Nat) (more:Bool),z=(if more then 4 - j else 0) /\ j<=4 /\ ms=[] /\ Has E [(0,.str s),(1,I p),(4,.ptr (some (rc,0))),(7,.ptr (some (fc,0))),(8,I n),(9,I last),(10,I i'),(11,I k),(12,I n'),(13,I u),(14,.bool more),(15,I j)] /\ M'=N /\ n' < u /\ u=128 ^ j /\ i'<=s.size /\ ldC s 4 i 0 1=(if more then ldC s (4 - j) i' n' u else some (n',i')))
   ?_ 4 _ _ _ ⟨0,i,0,1,true,rfl,by omega,rfl,.cons rfl (.cons rfl (.cons rfl (.cons rfl (.cons rfl (.cons rfl (.cons rfl (.cons rfl (.cons rfl (.cons rfl (.cons rfl (.cons rfl .nil))))))))))),rfl,by omega,rfl,hi,rfl⟩
  rintro z2 E2 ms2 N2 ⟨j,i',n',u,more,rfl,hj,rfl,hE2,rfl,hnu,hu,hi',hc⟩
  refine zy hE2 ?_
  clear hE hE2
  have huu:u=1 ∨ u=128 ∨ u=16384 ∨ u=2097152 ∨ u=268435456:=by
   have:j=0 ∨ j=1 ∨ j=2 ∨ j=3 ∨ j=4:=by omega
   rcases this with rfl|rfl|rfl|rfl|rfl<;>simp at hu<;>omega
  by_cases hgo:more=true /\ j < 4
  ·obtain⟨rfl,hj4⟩:=hgo
   rw[if_pos rfl] at hc
   obtain⟨jj,hjj⟩:∃ x,4 - j=x+1:=⟨4 - j - 1,by omega⟩
   rw[hjj,show ldC s (jj+1) i' n' u=(if i' < s.size then(if 128<=byteAt s i' then ldC s jj (i' + 1) (n' + u*(byteAt s i' % 128)) (u*128) else some (n' + u*(byteAt s i' % 128),i' + 1)) else none) from rfl] at hc
   by_cases hin:i' < s.size
   ·have hbi:=hb i' hin
    have hbl:=z0p s i'
    rw[if_pos hin] at hc
    have hmul:u*(byteAt s i' % 128)<=u*127:=Nat.mul_le_mul_left _ (by omega)
    generalize hbv:byteAt s i'=bv at *
    have e1':((bv:Int) % 128)=((bv % 128:Nat):Int):=by omega
    have e2':(u:Int)*((bv:Int) % 128)=((u*(bv % 128):Nat):Int):=by rw[e1'];push_cast;rfl
    have ca':∀ M',z9 Tryz.prog 74 [.str s,I i'] M' (fun w M''=>w=I bv /\ M''=M'):=fun M'=>by have:=zme s (by omega) i' M';rw[hbi] at this;exact this
    clear ca
    repeat' first|with_reducible intro _|refine sv ?_|refine sc ?_ ?_<;>(intro h;try exact sz h)|((with_reducible first|apply z02|apply z0f|apply d_same0);exact gd;exact rfl;exact rfl;(first|exact ca' _))|refine sg ?_ ?_<;>(intro h;first|exact sz h|refine sy h ?_)|exact sq|fail
    all_goals first|(exfalso;omega)|skip
    have hd:decide ((128:Int)<=(bv:Int))=decide (128<=bv):=decide_eq_decide.2 (by omega)
    refine zd (if decide (128<=bv)=true then 4 - (j+1) else 0) ?_ ⟨j+1,i' + 1,n' + u*(bv % 128),u*128,decide (128<=bv),rfl,by omega,rfl,.cons rfl (.cons rfl (.cons rfl (.cons rfl (.cons rfl (.cons rfl (.cons (by show some (I _)=some (I _);push_cast;rfl) (.cons rfl (.cons ?_ (.cons (by show some (I _)=some (I _);push_cast;rfl) (.cons ?_ (.cons (by show some (I _)=some (I _);push_cast;rfl) .nil))))))))))),rfl,by omega,by rw[hu,<- Nat.pow_succ],by omega,?_⟩
    ·rw[if_pos rfl];split<;>omega
    ·show some (I _)=some (I _)
     rw[e2'];push_cast;rfl
    ·show some (LV.bool _)=some (LV.bool _)
     rw[hd]
    ·rw[hc]
     by_cases h128:128<=bv
     ·rw[if_pos h128,if_pos (decide_eq_true h128),show 4 - (j+1)=jj by omega]
     ·rw[if_neg h128,if_neg (by rw[decide_eq_false h128];decide)]
   ·have hn1:atR s i'=-1:=by unfold atR;rw[if_neg hin]
    have ca':∀ M',z9 Tryz.prog 74 [.str s,I i'] M' (fun w M''=>w=I (-1) /\ M''=M'):=fun M'=>by have:=zme s (by omega) i' M';rw[hn1] at this;exact this
    rw[if_neg hin] at hc
    rw[hc] at hw
    have hF2:fdR s p=none:=by rw[hF,hw]
    rw[hF2]
    clear ca
    repeat' first|with_reducible intro _|refine sv ?_|refine sc ?_ ?_<;>(intro h;try exact sz h)|((with_reducible first|apply z02|apply z0f|apply d_same0);exact gd;exact rfl;exact rfl;(first|exact ca' _))|refine sg ?_ ?_<;>(intro h;first|exact sz h|refine sy h ?_)|exact sq|fail
    all_goals first|(exfalso;omega)|skip
    refine .inr ⟨rfl,?_⟩
    refine kf ?_
    exact⟨rfl,xg⟩
  ·have hcd:ldC s 4 i 0 1=some (n',i'):=by
    cases more with
    | false=>exact hc
    | true =>
     obtain rfl:j=4:=by
      by_cases h:j < 4
      ·exact absurd ⟨rfl,h⟩ hgo
      ·omega
     exact hc
   have hn28:n' < 268435456:=by omega
   cases more with
   | false =>
    repeat' first|with_reducible intro _|refine sv ?_|refine sc ?_ ?_<;>(intro h;try exact sz h)|refine sg ?_ ?_<;>(intro h;first|exact sz h|refine sy h ?_)|exact sq|fail
    all_goals exact .inl ⟨rfl,rfl,rfl,n',i',.cons rfl (.cons rfl (.cons rfl (.cons rfl (.cons rfl (.cons rfl (.cons rfl (.cons rfl (.cons rfl .nil)))))))),hcd,hn28,hi'⟩
   | true =>
    have hj4:j=4:=by
     by_cases h:j < 4
     ·exact absurd ⟨rfl,h⟩ hgo
     ·omega
    repeat' first|with_reducible intro _|refine sv ?_|refine sc ?_ ?_<;>(intro h;try exact sz h)|refine sg ?_ ?_<;>(intro h;first|exact sz h|refine sy h ?_)|exact sq|fail
    all_goals first|(exfalso;omega)|skip
    exact .inl ⟨rfl,rfl,rfl,n',i',.cons rfl (.cons rfl (.cons rfl (.cons rfl (.cons rfl (.cons rfl (.cons rfl (.cons rfl (.cons rfl .nil)))))))),hcd,hn28,hi'⟩
 subst hlast
 have hw2:ldS s k (p+6) 0 []=some acc:=by rw[hw,Nat.sub_self];rfl
 rw[hw2] at hF
 simp only at hF
 have hv10:=hv1
 obtain⟨aa,ff,ee,rfl,hsl⟩:=SlI.vec hv1
 have hfr:FrV N (.agg [I sh,I ch,.slice aa acc.length ff ee]) (sh,ch,acc):=⟨aa,ff,ee,rfl,hsl⟩
 have hin:FrIn (sh,ch,acc):=⟨(show I64 sh from by unfold I64;omega),(show I64 ch from by unfold I64;omega),by show acc.length<=_;omega,haI⟩
 have hck:=fun M' (hg:Grow N M')=>zaa (hfr.grow hg) hin
 by_cases hfB:frB (sh,ch,acc)=true
 case neg =>
  have hF2:fdR s p=none:=by rw[hF,if_neg fun h=>hfB h.1]
  have hne:errF (sh,ch,acc)=80:=by unfold errF;rw[if_neg hfB]
  rw[hne] at hck
  rw[hF2]
  clear ca hE
  repeat' first|with_reducible intro _|refine sv ?_|refine sc ?_ ?_<;>(intro h;try exact sz h)|((with_reducible first|apply z0g|apply z0h|apply d_pure0);exact gd;exact rfl;exact rfl;(first|exact hck _ (xg)))|refine sg ?_ ?_<;>(intro h;first|exact sz h|refine sy h ?_)|exact sq|fail
  all_goals first|(exfalso;omega)|skip
  refine kf ?_
  exact⟨rfl,xg⟩
 have hne:errF (sh,ch,acc)=0:=by unfold errF;rw[if_pos hfB]
 rw[hne] at hck
 have hpk:=fun M' (hg:Grow N M')=>zgk (hfr.grow hg) hfB
 have hlen:=znc (x:=(sh,ch,acc)) (z3w hfB).2
 generalize hpl:pkL (sh,ch,acc)=pl at *
 have hsz:(strL pl).size=pl.length:=rfl
 by_cases hpq:p+pl.length<=s.size
 case neg =>
  have hF2:fdR s p=none:=by rw[hF,if_neg fun h=>hpq h.2.1]
  rw[hF2]
  clear ca hE
  repeat' first|with_reducible intro _|refine sv ?_|refine sc ?_ ?_<;>(intro h;try exact sz h)|((with_reducible first|apply z0g|apply z0h|apply d_pure0);exact gd;exact rfl;exact rfl;(first|exact hck _ (xg)|exact hpk _ (xg)))|refine sg ?_ ?_<;>(intro h;first|exact sz h|refine sy h ?_)|exact sq|fail
  all_goals first|(exfalso;omega)|skip
  refine kf ?_
  exact⟨rfl,xg⟩
 clear ca hE
 repeat' first|with_reducible intro _|refine sv ?_|refine sc ?_ ?_<;>(intro h;try exact sz h)|((with_reducible first|apply z0g|apply z0h|apply d_pure0);exact gd;exact rfl;exact rfl;(first|exact hck _ (xg)|exact hpk _ (xg)))|refine sg ?_ ?_<;>(intro h;first|exact sz h|refine sy h ?_)|exact sq|fail
 all_goals first|(exfalso;omega)|skip
 refine z1w (by exact gd) (zix (f:=p) (p:=p+pl.length) rfl rfl rfl (by omega) hpq) ?_
 repeat' first|with_reducible intro _|refine sv ?_|refine sc ?_ ?_<;>(intro h;try exact sz h)|refine sg ?_ ?_<;>(intro h;first|exact sz h|refine sy h ?_)|exact sq|fail
 ·rename_i h
  have hF2:fdR s p=none:=by
   rw[hF,if_neg]
   intro h'
   have hx:(s.extract p (p+pl.length) == strL pl)=false:=by assumption
   rw[h'.2.2,z60] at hx
   cases hx
  rw[hF2]
  refine kf ?_
  exact⟨rfl,xg⟩
 ·rename_i _ N1 G1 L1 _ N2 G2 L2 _ N3 U1 U2 U3
  have hx:(s.extract p (p+pl.length) == strL pl)=true:=by assumption
  have hF2:fdR s p=some ((sh,ch,acc),p+pl.length):=by rw[hF,if_pos ⟨hfB,hpq,zbf hx⟩]
  rw[hF2]
  refine kf ?_
  exact⟨⟨_,rfl,Vec.low (((hv10.grow G1).grow G2).keep ((Keep.refl (fun i=>i=rc) N2).upd U1 (.inl rfl)) (fun i hi=>by subst hi;omega)) hg3.le⟩,xg⟩
def FwN(N:Nat->Prop)(M:Mem)(x:FW)(f:Fr):Prop:=x.1=fky f /\ x.2.2.1=f.2.2.length /\ (f.2.2=[] ∨ ∃ i o,x.2.1=some (i,o) /\ ¬ N i /\ ∀ k (hk:k < f.2.2.length),Rd1 M i (o+k*1) (I f.2.2[k]))
inductive FwLN (N:Nat->Prop) (M:Mem):List FW->List Fr->Prop
 | nil:FwLN N M [] []
 | cons {x:FW} {f:Fr} {xs:List FW} {fs:List Fr} (h:FwN N M x f) (h':FwLN N M xs fs):FwLN N M (x :: xs) (f :: fs)
theorem FwN.keep{N F:Nat->Prop}{M M':Mem}{x:FW}{f:Fr}(h:FwN N M x f)(hk:Keep F M M')(hF:∀ i,F i->N i):FwN N M' x f :=
 ⟨h.1,h.2.1,h.2.2.imp id fun⟨i,o,h1,h2,h3⟩=>⟨i,o,h1,h2,fun k hk'=>(h3 k hk').keep hk (fun hf=>h2 (hF i hf))⟩⟩
theorem FwN.ge{N N':Nat->Prop}{M:Mem}{x:FW}{f:Fr}(h:FwN N M x f)(hb:∀ i,N' i->N i ∨ M.next<=i):FwN N' M x f:=by
 refine⟨h.1,h.2.1,?_⟩
 rcases h.2.2 with h0|⟨i,o,h1,h2,h3⟩
 ·exact .inl h0
 ·by_cases h0:f.2.2=[]
  ·exact .inl h0
  ·refine .inr ⟨i,o,h1,fun hN=>?_,h3⟩
   have:=(h3 0 (List.length_pos_iff.2 h0)).2
   rcases hb i hN with h|h
   ·exact h2 h
   ·omega
theorem FwLN.keep{N F:Nat->Prop}{M M':Mem}{xs:List FW}{fs:List Fr}(h:FwLN N M xs fs)(hk:Keep F M M')(hF:∀ i,F i->N i):FwLN N M' xs fs:=by
 induction h with
 | nil=>exact .nil
 | cons h _ ih=>exact .cons (h.keep hk hF) ih
theorem FwLN.ge{N N':Nat->Prop}{M:Mem}{xs:List FW}{fs:List Fr}(h:FwLN N M xs fs)(hb:∀ i,N' i->N i ∨ M.next<=i):FwLN N' M xs fs:=by
 induction h with
 | nil=>exact .nil
 | cons h _ ih=>exact .cons (h.ge hb) ih
theorem FwLN.snoc{N:Nat->Prop}{M:Mem}{xs:List FW}{fs:List Fr}{x:FW}{f:Fr}(h:FwLN N M xs fs)(h':FwN N M x f):FwLN N M (xs ++ [x]) (fs ++ [f]):=by
 induction h with
 | nil=>exact .cons h' .nil
 | cons h _ ih=>exact .cons h ih
theorem FwLN.l{N:Nat->Prop}{M:Mem}{xs:List FW}{fs:List Fr}(h:FwLN N M xs fs):FwL M xs fs:=by
 induction h with
 | nil=>exact .nil
 | cons h _ ih=>exact .cons ⟨h.1,h.2.1,h.2.2.imp id fun⟨i,o,h1,_,h3⟩=>⟨i,o,h1,h3⟩⟩ ih
theorem FwN.vec{N:Nat->Prop}{b:Nat}{ty:TypeId}{M:Mem}{v:LV}{f:Fr}(h:Vec b 1 ty intc M v f.2.2)(hN:∀ i,N i->i < b):∃ a g e,v=.slice a f.2.2.length g e /\ FwN N M (fky f,a,f.2.2.length,g,e) f:=by
 rcases h with⟨h0,rfl⟩|⟨i,rfl,h2,h3⟩
 ·exact⟨none,true,0,by rw[h0];rfl,rfl,rfl,.inl h0⟩
 ·exact⟨_,_,_,rfl,rfl,rfl,.inr ⟨i,0,rfl,fun hn=>by have:=hN i hn;omega,fun k hk=>z9w (z1v (enc:=intc) h2 (fun _ _=>rfl) hk)⟩⟩
def wordL:List UInt8:=[80,65,82,65,86,65,78,69]
def wdB(s:ByteArray):Nat->Nat->Nat->Option (Unit × Nat)
 | 0,_,p=>some ((),p)
 | k+1,i,p=>match oneB s p with
  | none=>none
  | some (b,q)=>if b=byteAt (strL wordL) i then wdB s k (i+1) q else none
def nmR(s:ByteArray):Nat->Nat->List UInt8->Option (List UInt8 × Nat)
 | 0,p,acc=>some (acc,p)
 | k+1,p,acc=>match oneB s p with
  | none=>none
  | some (b,q)=>nmR s k q (acc ++ [u8 b])
def frsB(s:ByteArray):Nat->Nat->List Fr->Option (List Fr × Nat)
 | 0,p,acc=>some (acc,p)
 | k+1,p,acc=>match FrD s p with
  | none=>none
  | some (x,q)=>frsB s k q (acc ++ [x])
def RlD(s:ByteArray):Option (Rl × Nat):=match wdB s 8 0 0 with
 | none=>none
 | some (_,p1)=>match oneB s p1 with
  | none=>none
  | some (n,p2)=>match nmR s n p2 [] with
   | none=>none
   | some (nm,p3)=>match oneB s p3 with
    | none=>none
    | some (m,p4)=>match chkB s 0 p4 with
     | none=>none
     | some (_,p5)=>match frsB s m p5 [] with
      | none=>none
      | some (L,p6)=>if p6=s.size /\ zd7 (strL nm,L)=0 then some ((strL nm,L),p6) else none
def RlQ(a:Nat)(s:ByteArray)(r:Option (Rl × Nat))(M:Mem)(w:LV)(M':Mem):Prop:=∃ x q,r=some (x,q) /\ (∃ v xs,w=.agg [.str x.1,v] /\ Vec M.next 3 48 fwc M' v xs /\ FwLN (fun i=>i < M.next) M' xs x.2) /\ Keep (fun i=>i=a) M M' /\ At M' a (rdr s q)
