/-
 Part of the proof of CourseAccepted: what functions of the program and of the statement come to,walked by the rules. No condition beyond those in each theorem.
-/
import Derived.Test.YtpccafeedfpbaaaGreatUG
import Derived.Test.YtpccafeedfpbaaaGreatUE
import Derived.Test.YtpccafeedfpbaaaGreatUD
import Derived.Test.YtpccafeedfpbaaaGreatUS
section
open Go PvL Go.Proofs
set_option linter.unusedSimpArgs false
set_option linter.unusedVariables false
namespace Go.Proofs.YtpccafeedfpbaaaGreat.C
def PlainR {α:Type} (f:α->LV) (x:α) (v:List LV) (U:Nat->Prop) (_:Mem):Prop:=v=[f x] /\ ∀ i,¬ U i
theorem zar {p:Nat->Bool} {n k:Nat} (hk:k < n):(List.range n).filter p=(List.range k).filter p ++ ((if p k then [k] else []) ++ ((List.range n).drop (k+1)).filter p):=by
 have h1:List.range n=List.range k ++ ([k] ++ (List.range n).drop (k+1)):=by
  have h2:=List.take_append_drop (k+1) (List.range n)
  rw [List.take_range,Nat.min_eq_left (by omega),List.range_succ] at h2
  rw [<-List.append_assoc];exact h2.symm
 rw [h1,List.filter_append,List.filter_append]
 congr 1
 have h3:(List.range k ++ ([k] ++ (List.range n).drop (k+1))).drop (k+1)=(List.range n).drop (k+1):=by rw [<-h1]
 rw [h3]
 congr 1
 cases hp:p k with
 | true=>rw [List.filter_cons_of_pos hp];rfl
 | false=>rw [List.filter_cons_of_neg (by rw [hp];decide)];rfl
theorem zcc {p:Nat->Bool} {k:Nat}:(List.range (k+1)).filter p=(List.range k).filter p ++ (if p k then [k] else []):=by
 rw [List.range_succ,List.filter_append]
 cases hp:p k with
 | true=>rw [List.filter_cons_of_pos hp];rfl
 | false=>rw [List.filter_cons_of_neg (by rw [hp];decide)];rfl
set_option maxHeartbeats 4000000 in
theorem z4j {A:CrA} {s:Cr} {pc pm pk np ns set:Nat} {M0:Mem} (hC:At M0 pc (.cells true (chc A s pm) 128)) (hnp:At M0 np (.cells true [.ptr (some (pc,0)),.map (some pk)] 109)) (hns:At M0 ns (.cells true [I set] 3)) (hn5:s.lines.length<=5) (hset:set < 1048576) :
  YieldsS Tryz.prog 114 [] [.ptr (some (np,0)),.ptr (some (ns,0))] (fun i=>i=np ∨ i=ns ∨ i=pc) (fun _=>False) (fun _=>True) (shootsL s set) (PlainR shC) M0:=by
 intro l AA II DD tk hS hI0
 have hAnp:¬ AA np:=hS _ (.inl rfl)
 have hAns:¬ AA ns:=hS _ (.inr (.inl rfl))
 have hApc:¬ AA pc:=hS _ (.inr (.inr rfl))
 have hAlt:=tk.lt
 have l1:=hC.2
 have l2:=hnp.2
 have l3:=hns.2
 refine z6 kq114 rfl ?_
 dsimp only [xq114,qm,qf,ql,qi,qn,qB,qC,qg,qo,qk,qK,qq,qZ,zipE,Nat.reduceAdd,List.nil_append,List.cons_append]
 (repeat' first|with_reducible intro _|refine sv ?_|refine sc ?_ ?_<;>(intro h;try exact sz h)|refine sg ?_ ?_<;>(intro h;first|exact sz h|refine sy h ?_)|exact sq|fail)
 refine zc (fun n E ms M'=>∃ (i:Nat) (T:Nat->Prop),n=s.lines.length - i /\ i<=s.lines.length /\ ms=[] /\ Has E [(0,.func (.yield l) [] []),(1,.ptr (some (np,0))),(2,.ptr (some (ns,0))),(12,I s.lines.length),(13,I i)] /\ Keep AA M0 M' /\ (∀ j,T j->M0.next<=j /\ j < M'.next) /\ II ((List.range (2*i)).filter fun c=>set.testBit (c / 2)) T M') ?_ s.lines.length _ _ _
  ⟨0,fun _=>False,by omega,by omega,rfl,.cons rfl (.cons rfl (.cons rfl (.cons rfl (.cons rfl .nil)))),Keep.refl _ _,fun j hj=>hj.elim,hI0⟩
 rintro n E ms M1 ⟨i,T1,rfl,hi,rfl,hE,hk1,hT1,hI1⟩
 refine zw hE ?_
 by_cases hlast:i=s.lines.length
 ·subst hlast
  (repeat' first|with_reducible intro _|refine sv ?_|refine sc ?_ ?_<;>(intro h;try exact sz h)|refine sg ?_ ?_<;>(intro h;first|exact sz h|refine sy h ?_)|exact sq|fail)
  (refine kf ?_)
  exact ⟨hk1.weaken (fun j hj=>.inl hj),trivial,T1,hT1,.inl hI1⟩
 have hlt:i < s.lines.length:=by omega
 (repeat' first|with_reducible intro _|refine sv ?_|refine sc ?_ ?_<;>(intro h;try exact sz h)|refine sg ?_ ?_<;>(intro h;first|exact sz h|refine sy h ?_)|exact sq|fail)
 refine zc (fun n E ms M'=>∃ (j:Nat) (T:Nat->Prop),n=2 - j /\ j<=2 /\ ms=[] /\ Has E [(0,.func (.yield l) [] []),(1,.ptr (some (np,0))),(2,.ptr (some (ns,0))),(4,I i),(12,I s.lines.length),(13,I i),(16,I j)] /\ Keep AA M0 M' /\ (∀ j,T j->M0.next<=j /\ j < M'.next) /\ II ((List.range (2*i+j)).filter fun c=>set.testBit (c / 2)) T M') ?_ 2 _ _ _
  ⟨0,T1,by omega,by omega,rfl,.cons rfl (.cons rfl (.cons rfl (.cons rfl (.cons rfl (.cons rfl (.cons rfl .nil)))))),hk1,hT1,hI1⟩
 rintro n E ms M2 ⟨j,T2,rfl,hj,rfl,hE2,hk2,hT2,hI2⟩
 refine zw hE2 ?_
 have hle2:=hk2.le
 by_cases hlast2:j=2
 ·subst hlast2
  (repeat' first|with_reducible intro _|refine sv ?_|refine sc ?_ ?_<;>(intro h;try exact sz h)|refine sg ?_ ?_<;>(intro h;first|exact sz h|refine sy h ?_)|exact sq|fail)
  refine zg (s.lines.length - (i+1)) (by omega) ⟨i+1,T2,rfl,by omega,rfl,.cons rfl (.cons rfl (.cons rfl (.cons rfl (.cons rfl .nil)))),hk2,hT2,hI2⟩
 have hj2:j < 2:=by omega
 have hd2:(2*i+j) / 2=i:=by omega
 have hm2:(2*i+j) % 2=j:=by omega
 have hns2:=hns.keep hk2 hAns
 have l4:=hns2.2
 have hsb:=z08 (k:=i) (by omega)
 have hsucc:=zcc (p:=fun c=>set.testBit (c / 2)) (k:=2*i+j)
 have hsplit:=zar (p:=fun c=>set.testBit (c / 2)) (n:=2*s.lines.length) (k:=2*i+j) (by omega)
 rw [hd2] at hsucc hsplit
 cases hb:set.testBit i with
 | false =>
  have hz:andZ (set:Int) (shlZ 1 (i:Int))=0:=(z2t _ _).2 hb
  rw [hb,if_neg (by decide),List.append_nil] at hsucc
  (repeat' first|with_reducible intro _|refine sv ?_|refine sc ?_ ?_<;>(intro h;try exact sz h)|refine sg ?_ ?_<;>(intro h;first|exact sz h|refine sy h ?_)|exact sq|fail)
  refine zg (2 - (j+1)) (by omega) ⟨j+1,T2,rfl,by omega,rfl,.cons rfl (.cons rfl (.cons rfl (.cons rfl (.cons rfl (.cons rfl (.cons rfl .nil)))))),hk2,hT2,by rw [show 2*i+(j+1)=2*i+j+1 by omega,hsucc];exact hI2⟩
 | true =>
  have hz:¬ andZ (set:Int) (shlZ 1 (i:Int))=0:=fun h=>by rw [z2t,hb] at h;cases h
  rw [hb,if_pos rfl] at hsucc hsplit
  have hst:=tk.step _ (2*i+j) _ [shC (2*i+j)] (fun _=>False) T2 M2 hsplit ⟨rfl,fun _ h=>h⟩ hle2 hT2 (fun _ h=>h.elim) hI2
  rw [show shC (2*i+j)=.agg [I i,I j] by unfold shC;rw [hd2,hm2]] at hst
  (repeat' first|with_reducible intro _|refine sv ?_|refine sc ?_ ?_<;>(intro h;try exact sz h)|refine sg ?_ ?_<;>(intro h;first|exact sz h|refine sy h ?_)|exact sq|fail)
  refine zu (by exact gd) rfl rfl (show AppOk Tryz.prog (.func (.yield l) [] []) _ M2 _ from hst) ?_
  rintro w M3 ⟨hk3,T3,hT3,hres⟩
  have hle3:=hk3.le
  have hk03:Keep AA M0 M3:=hk2.trans hk3 (fun q hq=>by
   rcases hq with hq|hq|hq
   ·exact .inl hq
   ·exact .inr (hT2 q hq).1
   ·exact hq.elim)
  have hT3':∀ q,T3 q->M0.next<=q /\ q < M3.next:=fun q hq=>by
   obtain ⟨h1,h2⟩:=hT3 q hq
   rcases h1 with h1|h1|h1
   ·exact ⟨(hT2 q h1).1,h2⟩
   ·exact h1.elim
   ·exact ⟨by omega,h2⟩
  rcases hres with ⟨rfl,hI3⟩|⟨rfl,hD3⟩
  ·(repeat' first|with_reducible intro _|refine sv ?_|refine sc ?_ ?_<;>(intro h;try exact sz h)|refine sg ?_ ?_<;>(intro h;first|exact sz h|refine sy h ?_)|exact sq|fail)
   refine zg (2 - (j+1)) (by omega) ⟨j+1,T3,rfl,by omega,rfl,.cons rfl (.cons rfl (.cons rfl (.cons rfl (.cons rfl (.cons rfl (.cons rfl .nil)))))),hk03,hT3',by rw [show 2*i+(j+1)=2*i+j+1 by omega,hsucc];exact hI3⟩
  ·(repeat' first|with_reducible intro _|refine sv ?_|refine sc ?_ ?_<;>(intro h;try exact sz h)|refine sg ?_ ?_<;>(intro h;first|exact sz h|refine sy h ?_)|exact sq|fail)
   (refine kf ?_)
   exact ⟨hk03.weaken (fun j hj=>.inl hj),trivial,T3,hT3',.inr hD3⟩
theorem za2 (u k:Nat):andnZ (u:Int) (shlZ 1 (k:Int))=((restN u k:Nat):Int):=by
 unfold andnZ restN
 rw [z1c]
 show (u:Int) - ((u &&& 2 ^ k:Nat):Int)=_
 rw [Int.ofNat_sub Nat.and_le_left]
structure ChC (M:Mem) (A:CrA) (s:Cr) (pc pm:Nat):Prop where
 cr:CrM M A s
 cells:At M pc (.cells true (chc A s pm) 128)
theorem ChC.grow {M M':Mem} {A:CrA} {s:Cr} {pc pm:Nat} (h:ChC M A s pc pm) (hg:Grow M M'):ChC M' A s pc pm:=⟨h.cr.grow hg,h.cells.grow hg⟩
theorem PlM.chc {MB M:Mem} {A:CrA} {s:Cr} {pc pm pk:Nat} (h:PlM MB A s pc pm pk) (hk:Keep (fun i=>i=pm ∨ i=pk) MB M):ChC M A s pc pm :=
 ⟨h.ch.cr.keepN hk (fun i o n x hr hf=>hf.elim (h.ch.known.ne_rd hr) (h.kc.ne_rd hr)) (fun i o x hr hf=>hf.elim (h.ch.known.ne_rd1 hr) (h.kc.ne_rd1 hr)),h.ch.cells.keep hk (fun hf=>hf.elim h.ch.ne h.nc)⟩
theorem zof {A:CrA} {s:Cr} {pc pm:Nat} {k:Nat} {w:Int} {M:Mem} (hC:ChC M A s pc pm) (hk:k < s.lines.length) (hw:w=0 ∨ w=1) :
  CallOk Tryz.prog 119 [.ptr (some (pc,0)),shv k w] M (fun v M'=>v=wayv (wayF s k w) /\ Grow M M'):=by
 obtain ⟨aL,fL,aF,fF,aB,fB,aO,fO,eF⟩:=A
 have hcell:=hC.cells
 have hpc:=hcell.2
 obtain ⟨i,o,rfl,hr⟩:=(show SlA 4 legc M aL s.lines from hC.cr.lines).resolve_left (fun e=>by rw [e] at hk;simp at hk)
 have r1:=hr k hk
 have hi:=r1.2
 refine z6 kq119 rfl ?_
 dsimp only [xq119,qm,qf,ql,qL,qb,qa,qC,qS,qo,qk,qK,qq,qZ,zipE,Nat.reduceAdd]
 unfold wayF
 rw [ze hk]
 rcases hw with rfl|rfl
 ·(have hrd0:=r1;repeat' first|with_reducible intro _|refine sv ?_|refine sc ?_ ?_<;>(intro h;try exact sz h)|refine sg ?_ ?_<;>(intro h;first|exact sz h|refine sy h ?_)|exact sq|fail)
  (refine kf ?_)
  exact ⟨rfl,xg⟩
 ·(have hrd0:=r1;repeat' first|with_reducible intro _|refine sv ?_|refine sc ?_ ?_<;>(intro h;try exact sz h)|refine sg ?_ ?_<;>(intro h;first|exact sz h|refine sy h ?_)|exact sq|fail)
  (refine kf ?_)
  exact ⟨rfl,xg⟩
theorem zm9 {A:CrA} {s:Cr} {pc pm:Nat} {c:Nat} {M:Mem} (hC:ChC M A s pc pm) (hs:CrOk s) (hc:c < 2*s.lines.length) :
  CallOk Tryz.prog 108 [.ptr (some (pc,0)),shC c] M (fun v M'=>v=.tup [.agg (posc (begC s c)),.agg (posc (endC s c))] /\ Grow M M'):=by
 have hway:=z55 hs (z29 hc)
 have hw:=fun M' (hg:Grow M M')=>zof (hC.grow hg) (z29 hc) (w:=((c % 2:Nat):Int)) (by omega)
 unfold begC endC
 rw [show wayF s (c / 2) ((c % 2:Nat):Int)=wayC s c from rfl] at hw
 generalize wayC s c=q at *
 have p1:=hway.1
 have p2:=hway.2.1
 dsimp only [PlP,Pl] at p1 p2
 have hco:=z8x (q.2.1 - q.1.1) (q.2.2 - q.1.2) (by omega) (by omega)
 rw [show octF (q.2.1 - q.1.1) (q.2.2 - q.1.2)=octW q.1 q.2 from rfl] at hco
 refine z6 kq108 rfl ?_
 dsimp only [xq108,qm,qf,ql,qL,qb,qc,qB,qS,qo,qk,qK,qq,qZ,zipE,Nat.reduceAdd]
 (repeat' first|with_reducible intro _|refine sv ?_|refine sc ?_ ?_<;>(intro h;try exact sz h)|(with_reducible first|apply za|apply z8|apply z5);exact gd;exact rfl;exact rfl;(first|exact hw _ (xg)|exact hco _)|refine sg ?_ ?_<;>(intro h;first|exact sz h|refine sy h ?_)|exact sq|fail)
 (refine kf ?_)
 exact ⟨rfl,xg⟩
theorem z92 {A:CrA} {s:Cr} {pc pm pk:Nat} {M:Mem} (hC:ChC M A s pc pm):CallOk Tryz.prog 54 [planv pc pk] M (fun v M'=>v=.agg (rchc (startR s)) /\ Grow M M'):=by
 have hcell:=hC.cells
 have hpc:=hcell.2
 refine z6 kq54 rfl ?_
 dsimp only [xq54,qf,ql,qL,qb,qS,qo,qq,qZ,zipE,Nat.reduceAdd]
 (repeat' first|with_reducible intro _|refine sv ?_|refine sc ?_ ?_<;>(intro h;try exact sz h)|refine sg ?_ ?_<;>(intro h;first|exact sz h|refine sy h ?_)|exact sq|fail)
 (refine kf ?_)
 exact ⟨rfl,xg⟩
theorem z8y {A:CrA} {s:Cr} {pc pm pk:Nat} {c:Nat} {t:Int} {M:Mem} (hC:ChC M A s pc pm) (hs:CrOk s) (hc:c < 2*s.lines.length):CallOk Tryz.prog 56 [planv pc pk,shC c,I t] M (fun v M'=>v=.agg (rchc (rchF s c t)) /\ Grow M M'):=by
 have he:=fun M' (hg:Grow M M')=>zm9 (hC.grow hg) hs hc
 unfold rchF
 refine z6 kq56 rfl ?_
 dsimp only [xq56,qm,qf,ql,qL,qb,qe,qc,qS,qo,qq,qZ,zipE,Nat.reduceAdd]
 (repeat' first|with_reducible intro _|refine sv ?_|refine sc ?_ ?_<;>(intro h;try exact sz h)|(with_reducible first|apply za|apply z8|apply z5);exact gd;exact rfl;exact rfl;exact he _ (xg)|refine sg ?_ ?_<;>(intro h;first|exact sz h|refine sy h ?_)|exact sq|fail)
 (refine kf ?_)
 exact ⟨rfl,xg⟩
theorem zow {s:Cr} {set c:Nat}:((plN s set c:Nat):Int)=2*(s.lines.length:Int)*(set:Int)+2*((c / 2:Nat):Int)+((c % 2:Nat):Int):=by
 unfold plN
 have:2*(c / 2)+c % 2=c:=Nat.div_add_mod c 2
 rw [Int.natCast_add,Int.natCast_mul,Int.natCast_mul]
 have h2:((c:Nat):Int)=2*((c / 2:Nat):Int)+((c % 2:Nat):Int):=by omega
 rw [h2]
 show 2*(s.lines.length:Int)*(set:Int)+(2*((c / 2:Nat):Int)+((c % 2:Nat):Int))=_
 rw [Int.add_assoc]
theorem z3v {A:CrA} {s:Cr} {pc pm pk:Nat} {set c:Nat} {M:Mem} (hC:ChC M A s pc pm) (hn5:s.lines.length<=5) (hset:set<=1000) (hc:c<=1000):CallOk Tryz.prog 64 [planv pc pk,I set,shC c] M (fun v M'=>v=I (plN s set c:Nat) /\ Grow M M'):=by
 have hcell:=hC.cells
 have hpc:=hcell.2
 have hm:=z0o (a:=2*(s.lines.length:Int)) (b:=(set:Int)) (A:=10) (B:=1000) (by omega) (by omega)
 rw [zow]
 refine z6 kq64 rfl ?_
 dsimp only [xq64,qm,qf,ql,qi,qb,qn,qB,qo,qk,qK,qq,zipE,Nat.reduceAdd]
 (repeat' first|with_reducible intro _|refine sv ?_|refine sc ?_ ?_<;>(intro h;try exact sz h)|refine sg ?_ ?_<;>(intro h;first|exact sz h|refine sy h ?_)|exact sq|fail)
 (refine kf ?_)
 exact ⟨rfl,xg⟩
abbrev shtF (np ns:Nat):LV:=.func (.func 114) [] [.ptr (some (np,0)),.ptr (some (ns,0))]
theorem z3w {pc pk:Nat} {set:Int} (M:Mem):CallOk Tryz.prog 63 [planv pc pk,I set] M (fun v M'=>∃ np ns,v=shtF np ns /\ Grow M M' /\ M.next<=np /\ M.next<=ns /\ At M' np (.cells true [.ptr (some (pc,0)),.map (some pk)] 109) /\ At M' ns (.cells true [I set] 3)):=by
 refine z6 kq63 rfl ?_
 dsimp only [xq63,qm,qb,qo,qq,zipE,Nat.reduceAdd]
 (repeat' first|with_reducible intro _|refine sv ?_|refine sc ?_ ?_<;>(intro h;try exact sz h)|refine sg ?_ ?_<;>(intro h;first|exact sz h|refine sy h ?_)|exact sq|fail)
 (refine kf ?_)
 exact ⟨_,_,rfl,xg,by omega,by omega,xm,xm⟩
abbrev intz (n:Int):List LV:=[I n]
theorem zfm {s:Cr}:shootsL s (2 ^ s.lines.length - 1)=List.range (2*s.lines.length):=by
 unfold shootsL
 rw [List.filter_eq_self]
 intro c hc
 exact zbv (by have:=List.mem_range.1 hc;omega)
noncomputable abbrev befF2 (s:Cr) (tab:List Int) (rest y:Nat):Option Rch:=if tab.getD (plN s rest y) 0 ≠ -1 then some (rchF s y (tab.getD (plN s rest y) 0)) else none
set_option maxHeartbeats 8000000 in
theorem zkx {MB M0:Mem} {A:CrA} {s:Cr} {pc pm pk nq ne nx nt set c:Nat} {aT:Option (Nat × Nat)} {fT:Bool} {tab:List Int} (hpl:PlM MB A s pc pm pk) (htab:SlA 1 intz MB aT tab) (hK:Keep (fun i=>i=pm ∨ i=pk) MB M0)
  (hq0:At M0 nq (.cells true [.ptr (some (pc,0)),.map (some pk)] 109)) (he0:At M0 ne (.cells true [I set] 3)) (hx0:At M0 nx (.cells true [I (c / 2:Nat),I (c % 2:Nat)] 50)) (ht0:At M0 nt (.cells true [.slice aT tab.length fT 1] 52))
  (hs:CrOk s) (hc:c < 2*s.lines.length) (hset:set < 2 ^ s.lines.length) (htl:tab.length=2*s.lines.length*2 ^ s.lines.length) (htb:∀ v ∈ tab,-1<=v /\ v<=5000000) :
  YieldsS Tryz.prog 146 [] [.ptr (some (ne,0)),.ptr (some (nx,0)),.ptr (some (nq,0)),.ptr (some (nt,0))] (fun i=>i=nq ∨ i=nt ∨ (i < MB.next /\ i ≠ pm /\ i ≠ pk)) (fun _=>False) (fun _=>True) (befL s tab set c) (PlainR fun x=>.agg (rchc x)) M0:=by
 intro l AA II DD tk hS hI0
 have hn5:=hs.n5
 have hp2:2 ^ s.lines.length<=32:=Nat.pow_le_pow_right (n:=2) (by omega) hn5
 have l1:=hq0.2
 have l2:=he0.2
 have l3:=hx0.2
 have l4:=ht0.2
 have hch0:=hpl.chc hK
 have hcell:=hch0.cells
 have l5:=hcell.2
 have hAlt:=tk.lt
 have hAm:∀ i,AA i->i=pm ∨ i=pk ∨ MB.next<=i:=fun i hi=>by
  by_cases h1:i=pm
  ·exact .inl h1
  ·by_cases h2:i=pk
   ·exact .inr (.inl h2)
   ·exact .inr (.inr (by
     rcases Nat.lt_or_ge i MB.next with h3|h3
     ·exact absurd hi (hS i (.inr (.inr ⟨h3,h1,h2⟩)))
     ·exact h3))
 have hstab:∀ {d M M'},II d (fun _=>False) M->Grow M M'->M0.next<=M.next->II d (fun _=>False) M':=fun {d M M'} hI hg hle=>tk.stab _ _ _ _ hI hg.le fun i hi=>hg.old i (by rcases hi with hi|hi;omega;exact hi.elim)
 have hsb:=z08 (k:=c / 2) (by omega)
 have hsb2:=z08 (k:=s.lines.length) (by omega)
 refine z6 kq146 rfl ?_
 dsimp only [xq146,qm,qf,ql,qL,qb,qc,qa,qn,qB,qC,qg,qS,qo,qk,qK,qq,qZ,zipE,Nat.reduceAdd,List.nil_append,List.cons_append]
 have hrest:=za2 set (c / 2)
 have hrle:restN set (c / 2)<=set:=by unfold restN;omega
 by_cases hr0:restN set (c / 2)=0
 ·have hrz:andnZ (set:Int) (shlZ 1 ((c / 2:Nat):Int))=0:=by rw [hrest,hr0];rfl
  have hitems:befL s tab set c=[] ++ startR s :: []:=by unfold befL;rw [if_pos hr0];rfl
  (repeat' first|with_reducible intro _|refine sv ?_|refine sc ?_ ?_<;>(intro h;try exact sz h)|(with_reducible first|apply za|apply z8|apply z5);exact gd;exact rfl;exact rfl;exact z92 (hch0.grow (xg))|refine sg ?_ ?_<;>(intro h;first|exact sz h|refine sy h ?_)|exact sq|fail)
  rename_i ny M1 hny e1 e2 n6 M2 hn6 e3 e4 M3 hu3 e5 a6 M4 hg4 e6
  have hg04:Grow M0 M4:=xg
  have hst:=tk.step [] (startR s) [] [.agg (rchc (startR s))] (fun _=>False) (fun _=>False) M4 hitems ⟨rfl,fun _ h=>h⟩ hg04.le (fun _ h=>h.elim) (fun _ h=>h.elim) (hstab hI0 hg04 (Nat.le_refl _))
  refine zu (by exact gd) rfl rfl (show AppOk Tryz.prog (.func (.yield l) [] []) _ M4 _ from hst) ?_
  rintro w M5 ⟨hk5,T5,hT5,hres⟩
  have hle5:=hk5.le
  have hk05:Keep AA M0 M5:=(hg04.to_keep AA).trans hk5 (fun q hq=>by
   rcases hq with hq|hq|hq
   ·exact .inl hq
   ·exact hq.elim
   ·exact hq.elim)
  have hT5':∀ q,T5 q->M0.next<=q /\ q < M5.next:=fun q hq=>by
   obtain ⟨h1,h2⟩:=hT5 q hq
   rcases h1 with h1|h1|h1
   ·exact h1.elim
   ·exact h1.elim
   ·exact ⟨by have:=hg04.le;omega,h2⟩
  clear hg04
  (repeat' first|with_reducible intro _|refine sv ?_|refine sc ?_ ?_<;>(intro h;try exact sz h)|refine sg ?_ ?_<;>(intro h;first|exact sz h|refine sy h ?_)|exact sq|fail)
  (refine kf ?_)
  exact ⟨hk05.weaken (fun q hq=>.inl hq),trivial,T5,hT5',hitems ▸ hres.imp (fun h=>h.2) (fun h=>h.2)⟩
 ·have hrz:¬ andnZ (set:Int) (shlZ 1 ((c / 2:Nat):Int))=0:=by rw [hrest];omega
  have hall:shlZ 1 (s.lines.length:Int) - 1=((2 ^ s.lines.length - 1:Nat):Int):=by rw [z1c];have:=Nat.two_pow_pos s.lines.length;omega
  have hitems:befL s tab set c=(List.range (2*s.lines.length)).filterMap (befF2 s tab (restN set (c / 2))):=by unfold befL;rw [if_neg hr0]
  (repeat' first|with_reducible intro _|refine sv ?_|refine sc ?_ ?_<;>(intro h;try exact sz h)|refine sg ?_ ?_<;>(intro h;first|exact sz h|refine sy h ?_)|exact sq|fail)
  rename_i ny M1 hny e1 e2 n6 M2 hn6 e3 e4 M3 hu3 e5 a6
  have hg03:Grow M0 M3:=xg
  have hle03:=hg03.le
  refine zu (by exact gd) rfl rfl (show AppOk Tryz.prog _ _ M3 _ from z3w (pc:=pc) (pk:=pk) (set:=shlZ 1 (s.lines.length:Int) - 1) M3) ?_
  rintro w M4 ⟨np2,ns2,rfl,hg4,hp4,hs4,a4,b4⟩
  have hle4:=hg4.le
  rw [hall] at b4
  have q4:=a4.2
  have q5:=b4.2
  (repeat' first|with_reducible intro _|refine sv ?_|refine sc ?_ ?_<;>(intro h;try exact sz h)|refine sg ?_ ?_<;>(intro h;first|exact sz h|refine sy h ?_)|exact sq|fail)
  apply z2r
  exact rfl
  intro lb d l2 M5 M6 hlb hd e7 e8 hl e9 e10
  have hg06:Grow M0 M6:=((hg03.trans hg4).new hd).new hl
  have hle06:=hg06.le
  have hg46:Grow M4 M6:=hd.grow.trans hl.grow
  have hy:=z4j (A:=A) (s:=s) (pc:=pc) (pm:=pm) (pk:=pk) (np:=np2) (ns:=ns2) (set:=2 ^ s.lines.length - 1) (M0:=M6) (hcell.grow hg06) (a4.grow hg46) (b4.grow hg46) hn5 (by omega)
  rw [zfm] at hy
  have by6:At M6 ny (.cells true [.func (.yield l) [] []] 214):=At.grow hg46 (At.grow hg4 (xm))
  have b66:At M6 n6 (.cells true [I (restN set (c / 2):Nat)] 3):=by rw [<-hrest];exact At.grow hg46 (At.grow hg4 a6)
  have bd6:At M6 d .defr:=At.new_old hl (At.new_same hd)
  have hII6:=hstab hI0 hg06 (Nat.le_refl _)
  refine (hy l2 (fun i=>AA i ∨ i=l2) (fun dn T M=>Keep AA M0 M /\ (∀ i,T i->M0.next<=i /\ i < M.next) /\ II (dn.filterMap (befF2 s tab (restN set (c / 2)))) T M /\ At M ny (.cells true [.func (.yield l) [] []] 214) /\ At M n6 (.cells true [I (restN set (c / 2):Nat)] 3) /\ At M l2 (lb .ready none) /\ At M d .defr)
   (fun T M=>Keep AA M0 M /\ (∀ i,T i->M0.next<=i /\ i < M.next) /\ DD T M /\ At M l2 (lb .done (some .ret)) /\ At M d .defr) ⟨?_,?_,?_,?_⟩ ?_ ⟨hg06.to_keep _,fun _ h=>h.elim,hII6,by6,b66,At.new_same hl,bd6⟩).mono ?_
  ·rintro i (hi|hi)
   ·have:=hAlt i hi;omega
   ·omega
  ·rintro dn T M M' ⟨h1,h2,h3,h4,h5,h6,h7⟩ hle hg
   have hgo:∀ i,i < M6.next->M'.get i=M.get i:=fun i hi=>hg i (.inl ⟨hi,id⟩)
   exact ⟨⟨Nat.le_trans h1.le hle,fun i hi hf=>by rw [hgo i (by omega)];exact h1.old i hi hf⟩,fun i hi=>by have:=h2 i hi;omega,tk.stab _ _ _ _ h3 hle (fun i hi=>by
    rcases hi with hi|hi
    ·exact hgo i (by omega)
    ·exact hg i (.inr hi)),h4.same hle (hgo _ by6.2),h5.same hle (hgo _ b66.2),h6.same hle (hgo _ (by omega)),h7.same hle (hgo _ bd6.2)⟩
  ·rintro T M M' ⟨h1,h2,h3,h4,h5⟩ hle hg
   have hgo:∀ i,i < M6.next->M'.get i=M.get i:=fun i hi=>hg i (.inl ⟨hi,id⟩)
   exact ⟨⟨Nat.le_trans h1.le hle,fun i hi hf=>by rw [hgo i (by omega)];exact h1.old i hi hf⟩,fun i hi=>by have:=h2 i hi;omega,tk.stabD _ _ _ h3 hle (fun i hi=>by
    rcases hi with hi|hi
    ·exact hgo i (by omega)
    ·exact hg i (.inr hi)),h4.same hle (hgo _ (by omega)),h5.same hle (hgo _ bd6.2)⟩
  ·rintro dn y rest v U T M hits ⟨rfl,hU⟩ hN hT hUd ⟨h1,h2,h3,h4,h5,h6,h7⟩
   have hKB:Keep (fun i=>i=pm ∨ i=pk) MB M:=hK.trans h1 (fun i hi=>by
    rcases hAm i hi with h|h|h
    ·exact .inl (.inl h)
    ·exact .inl (.inr h)
    ·exact .inr h)
   have hleK:=hK.le
   have hle1:=h1.le
   have hq1:=hq0.keep h1 (hS _ (.inl rfl))
   have ht1:=ht0.keep h1 (hS _ (.inr (.inl rfl)))
   have htb1:SlA 1 intz M aT tab:=htab.keepN hKB (fun i o n x hr hf=>hf.elim (hpl.ch.known.ne_rd hr) (hpl.kc.ne_rd hr))
   have hy2:y < 2*s.lines.length:=List.mem_range.1 (by rw [hits];simp)
   have hidx:plN s (restN set (c / 2)) y < tab.length:=by rw [htl];exact z7u (by omega) hy2
   obtain ⟨iT,oT,rfl,hrT⟩:=htb1.resolve_left (fun h=>by rw [h] at hidx;simp at hidx)
   have rT:Rd1 M iT (oT+plN s (restN set (c / 2)) y*1) (I tab[plN s (restN set (c / 2)) y]):=(hrT _ hidx).nth (j:=0) rfl
   have hiT:=rT.2
   have hlq:=hq1.2
   have hlt2:=ht1.2
   have hl2M:=h6.2
   have hdM:=h7.2
   have hniT:iT ≠ l2:=by
    have:=(show SlA 1 intz MB (some (iT,oT)) tab from htab).resolve_left (fun h=>by rw [h] at hidx;simp at hidx)
    obtain ⟨i',o',e,hr'⟩:=this
    cases e
    have:=(hr' _ hidx).2
    omega
   have hgD:tab.getD (plN s (restN set (c / 2)) y) 0=tab[plN s (restN set (c / 2)) y]:=ze hidx
   have hub:=htb _ (List.getElem_mem hidx)
   have hchk:∀ M',Keep (fun i=>i=l2) M M'->ChC M' A s pc pm:=fun M' hk'=>hpl.chc (hKB.trans hk' (fun i hi=>.inr (by omega)))
   have hplc:=fun M' (hk':Keep (fun i=>i=l2) M M')=>z3v (pk:=pk) (set:=restN set (c / 2)) (c:=y) (hchk M' hk') hn5 (by omega) (by omega)
   have hfm:(dn ++ [y]).filterMap (befF2 s tab (restN set (c / 2)))=dn.filterMap (befF2 s tab (restN set (c / 2))) ++ (befF2 s tab (restN set (c / 2)) y).toList:=by
    rw [List.filterMap_append]
    congr 1
   have hsameT:∀ M',Keep (fun i=>i=l2) M M'->II (dn.filterMap (befF2 s tab (restN set (c / 2)))) T M':=fun M' hk'=>tk.stab _ _ _ _ h3 hk'.le (fun i hi=>hk'.old i (by
    rcases hi with hi|hi
    ·omega
    ·exact (hT i hi).2) (by
    rcases hi with hi|hi
    ·omega
    ·have:=(hT i hi).1;omega))
   have hbf:befF2 s tab (restN set (c / 2)) y=if tab[plN s (restN set (c / 2)) y] ≠ -1 then some (rchF s y tab[plN s (restN set (c / 2)) y]) else none:=by unfold befF2;rw [hgD]
   rw [hfm]
   generalize tab[plN s (restN set (c / 2)) y]=u at *
   by_cases hu:u=-1
   ·rw [if_neg (fun h=>h hu)] at hbf
    rw [hbf]
    refine z0h hlb h6 rfl ?_
    dsimp only [zipP]
    (have hrd0:=rT;repeat' first|with_reducible intro _|refine sv ?_|refine sc ?_ ?_<;>(intro h;try exact sz h)|(with_reducible first|apply za|apply z8|apply z5);exact gd;exact rfl;exact rfl;exact hplc _ (xk)|refine sg ?_ ?_<;>(intro h;first|exact sz h|refine sy h ?_)|exact sq|fail)
    rename_i n7 MA hnA e11 e12 MX huX e13 aX MC huC e14 aC MD hgD2 e15 hx ME huE e16 aE
    have hkE:Keep (fun i=>i=l2) M ME:=xk
    exact ⟨hkE.weaken (fun i hi=>.inl (.inr hi)),T,fun i hi=>⟨.inl hi,by have:=hT i hi;omega⟩,.inl ⟨rfl,h1.trans hkE (fun i hi=>.inr (by omega)),fun i hi=>by have:=h2 i hi;omega,by show II (_ ++ []) T ME;rw [List.append_nil];exact hsameT ME hkE,h4.keep hkE (by omega),h5.keep hkE (by omega),aE,h7.keep hkE (by omega)⟩⟩
   ·rw [if_pos hu] at hbf
    rw [hbf]
    have haft:=fun M' (hk':Keep (fun i=>i=l2) M M')=>z8y (pk:=pk) (c:=y) (t:=u) (hchk M' hk') hs hy2
    refine z0h hlb h6 rfl ?_
    dsimp only [zipP]
    (have hrd0:=rT;repeat' first|with_reducible intro _|refine sv ?_|refine sc ?_ ?_<;>(intro h;try exact sz h)|(with_reducible first|apply za|apply z8|apply z5);exact gd;exact rfl;exact rfl;(first|exact hplc _ (xk)|exact haft _ (xk))|refine sg ?_ ?_<;>(intro h;first|exact sz h|refine sy h ?_)|exact sq|fail)
    rename_i n7 MA hnA e11 e12 MX huX e13 aX MC huC e14 aC MD hgD2 e15 ME hgE e16
    have hkE:Keep (fun i=>i=l2) M ME:=xk
    have hits2:befL s tab set c=dn.filterMap (befF2 s tab (restN set (c / 2))) ++ rchF s y u :: rest.filterMap (befF2 s tab (restN set (c / 2))):=by rw [hitems,hits,List.filterMap_append,List.filterMap_cons,hbf]
    have hst:=tk.step _ _ _ [.agg (rchc (rchF s y u))] (fun _=>False) T ME hits2 ⟨rfl,fun _ h=>h⟩ (by omega) (fun i hi=>by have:=h2 i hi;omega) (fun _ h=>h.elim) (hsameT ME hkE)
    have aE:At ME l2 (lb .busy none):=xm
    refine zu (by exact gd) rfl rfl (show AppOk Tryz.prog (.func (.yield l) [] []) _ ME _ from hst) ?_
    rintro w MF ⟨hkF,TF,hTF,hres⟩
    have hleF:=hkF.le
    have hl2out:¬ (AA l2 ∨ T l2 ∨ False):=by
     rintro (h|h|h)
     ·have:=hAlt _ h;omega
     ·have:=(hT _ h).1;omega
     ·exact h
    have aF:At MF l2 (lb .busy none):=aE.keep hkF hl2out
    have hkM:Keep (fun i=>(AA i ∨ i=l2) ∨ T i ∨ U i) M MF:=hkE.weaken (fun i hi=>.inl (.inr hi)) |>.trans hkF (fun i hi=>by
     rcases hi with hi|hi|hi
     ·exact .inl (.inl (.inl hi))
     ·exact .inl (.inr (.inl hi))
     ·exact hi.elim)
    have hk0F:Keep AA M0 MF:=(h1.trans hkE (fun i hi=>.inr (by omega))).trans hkF (fun i hi=>by
     rcases hi with hi|hi|hi
     ·exact .inl hi
     ·exact .inr (h2 i hi).1
     ·exact hi.elim)
    have hTF':∀ i,TF i->(T i ∨ U i ∨ M.next<=i) /\ i < MF.next:=fun i hi=>by
     obtain ⟨q1,q2⟩:=hTF i hi
     refine ⟨?_,q2⟩
     rcases q1 with q1|q1|q1
     ·exact .inl q1
     ·exact q1.elim
     ·exact .inr (.inr (by omega))
    have hTFl:∀ i,TF i->M0.next<=i /\ i ≠ l2:=fun i hi=>by
     rcases (hTF i hi).1 with q1|q1|q1
     ·have:=hT i q1;have:=h2 i q1;omega
     ·exact q1.elim
     ·omega
    have hout:∀ j,M0.next<=j->j < M6.next->¬ (AA j ∨ T j ∨ False):=fun j j1 j2 h=>by
     rcases h with h|h|h
     ·have:=hAlt _ h;omega
     ·have:=(hT _ h).1;omega
     ·exact h
    have hnyF:=(h4.keep hkE (by omega)).keep hkF (hout ny (by omega) (by omega))
    have hn6F:=(h5.keep hkE (by omega)).keep hkF (hout n6 (by omega) (by omega))
    have hdF:=(h7.keep hkE (by omega)).keep hkF (hout d (by omega) (by omega))
    have hl2F:M0.next<=l2:=by omega
    have hdl2:d ≠ l2:=by omega
    have hnyl2:ny ≠ l2:=by omega
    have hn6l2:n6 ≠ l2:=by omega
    rcases hres with ⟨rfl,hIF⟩|⟨rfl,hDF⟩
    ·(repeat' first|with_reducible intro _|refine sv ?_|refine sc ?_ ?_<;>(intro h;try exact sz h)|refine sg ?_ ?_<;>(intro h;first|exact sz h|refine sy h ?_)|exact sq|fail)
     rename_i hx2 MG huG e17 aG
     have hGo:∀ i,i ≠ l2->MG.get i=MF.get i:=fun i hi=>zl huG hi
     exact ⟨hkM.upd huG (.inl (.inl (.inr rfl))),TF,fun i hi=>by have:=hTF' i hi;rw [e17];exact this,.inl ⟨rfl,hk0F.upd huG (.inr hl2F),fun i hi=>by have:=hTFl i hi;have:=(hTF' i hi).2;omega,tk.stab _ _ _ _ hIF (by omega) (fun i hi=>hGo i (by
      rcases hi with hi|hi
      ·omega
      ·exact (hTFl i hi).2)),hnyF.upd_ne huG hnyl2,hn6F.upd_ne huG hn6l2,aG,hdF.upd_ne huG hdl2⟩⟩
    ·(repeat' first|with_reducible intro _|refine sv ?_|refine sc ?_ ?_<;>(intro h;try exact sz h)|refine sg ?_ ?_<;>(intro h;first|exact sz h|refine sy h ?_)|exact sq|fail)
     rename_i hx2 MG huG e17 aG
     have hGo:∀ i,i ≠ l2->MG.get i=MF.get i:=fun i hi=>zl huG hi
     exact ⟨hkM.upd huG (.inl (.inl (.inr rfl))),TF,fun i hi=>by have:=hTF' i hi;rw [e17];exact this,.inr ⟨rfl,hk0F.upd huG (.inr hl2F),fun i hi=>by have:=hTFl i hi;have:=(hTF' i hi).2;omega,tk.stabD _ _ _ hDF (by omega) (fun i hi=>hGo i (by
      rcases hi with hi|hi
      ·omega
      ·exact (hTFl i hi).2)),aG,hdF.upd_ne huG hdl2⟩⟩
  ·rintro i (rfl|rfl|rfl) (hi|hi)
   ·have:=hAlt _ hi;omega
   ·omega
   ·have:=hAlt _ hi;omega
   ·omega
   ·rcases hAm _ hi with h|h|h
    ·exact absurd h hpl.ch.ne
    ·exact absurd h hpl.nc
    ·have:=hpl.ch.cells.2;omega
   ·omega
  ·rintro v M7 ⟨hk7,_,T7,hT7,⟨h1,h2,h3,h4,h5,h6,h7⟩|⟨h1,h2,h3,h4,h5⟩⟩
   ·refine z2b h6 (by simp) fun M8 hu8 e11 a8=>?_
    have hle8:=hu8.next
    (repeat' first|with_reducible intro _|refine sv ?_|refine sc ?_ ?_<;>(intro h;try exact sz h)|refine sg ?_ ?_<;>(intro h;first|exact sz h|refine sy h ?_)|exact sq|fail)
    refine zq (.inl rfl) (by simp) (fun d' hd'=>by obtain rfl:=List.mem_singleton.1 hd';exact xm) fun M9 hm=>?_
    have hk9:Keep (fun i=>i=l2 ∨ i=d) M7 M9:=((Keep.refl _ M7).upd hu8 (.inl (.inl rfl))).unmark hm (fun d' hd'=>by obtain rfl:=List.mem_singleton.1 hd';exact .inl (.inr rfl))
    refine ⟨_,.nil,(h1.trans hk9 (fun i hi=>.inr (by omega))).weaken (fun i hi=>.inl hi),trivial,T7,fun i hi=>⟨(h2 i hi).1,by have:=(h2 i hi).2;have:=hk9.le;omega⟩,.inl ?_⟩
    rw [hitems]
    exact tk.stab _ _ _ _ h3 hk9.le (fun i hi=>hk9.old i (by
     rcases hi with hi|hi
     ·have:=h1.le;omega
     ·exact (h2 i hi).2) (by
     rcases hi with hi|hi
     ·omega
     ·have:=(hT7 i hi).1;omega))
   ·refine z15 h4 (by simp) fun M8 hu8 e11 a8=>?_
    (repeat' first|with_reducible intro _|refine sv ?_|refine sc ?_ ?_<;>(intro h;try exact sz h)|refine sg ?_ ?_<;>(intro h;first|exact sz h|refine sy h ?_)|exact sq|fail)
    refine zq (.inr rfl) (by simp) (fun d' hd'=>by obtain rfl:=List.mem_singleton.1 hd';exact xm) fun M9 hm=>?_
    have hk9:Keep (fun i=>i=l2 ∨ i=d) M7 M9:=((Keep.refl _ M7).upd hu8 (.inl (.inl rfl))).unmark hm (fun d' hd'=>by obtain rfl:=List.mem_singleton.1 hd';exact .inl (.inr rfl))
    refine ⟨_,.nil,(h1.trans hk9 (fun i hi=>.inr (by omega))).weaken (fun i hi=>.inl hi),trivial,T7,fun i hi=>⟨(h2 i hi).1,by have:=(h2 i hi).2;have:=hk9.le;omega⟩,.inr ?_⟩
    exact tk.stabD _ _ _ h3 hk9.le (fun i hi=>hk9.old i (by
     rcases hi with hi|hi
     ·have:=h1.le;omega
     ·exact (h2 i hi).2) (by
     rcases hi with hi|hi
     ·omega
     ·have:=(hT7 i hi).1;omega))
theorem z3x (a b:Int) (ha:0<=a /\ a<=7) (hb:0<=b /\ b<=7) (M:Mem):CallOk Tryz.prog 105 [I a,I b] M (fun w M'=>w=I (trnF a b) /\ M'=M):=by
 have hmx:0<=iMax (a - b) (-(a - b)) /\ iMax (a - b) (-(a - b))<=7:=by unfold iMax;omega
 refine z6 kq105 rfl ?_
 dsimp only [xq105,qm,qi,qc,qB,qo,qq,zipE,Nat.reduceAdd]
 (repeat' first|with_reducible intro _|refine sv ?_|refine sc ?_ ?_<;>(intro h;try exact sz h)|(with_reducible first|apply zj|apply zi|apply zd);exact gd;exact rfl;exact rfl;exact zbz _ (by omega) _|refine sg ?_ ?_<;>(intro h;first|exact sz h|refine sy h ?_)|exact sq|fail)
 (refine kf ?_)
 refine ⟨?_,rfl⟩
 show I (iMin (iMax (a - b) (-(a - b))) (8 - iMax (a - b) (-(a - b))))=I (trnF a b)
 congr 1
 unfold trnF iMin iMax
 omega
theorem zj5 (l:List Pt):befR [] l=false:=by cases l<;>rfl
set_option maxHeartbeats 4000000 in
theorem zgd {aa ab:Option (Nat × Nat)} {fa fb:Bool} {us vs:List Pt} {M:Mem} (ha:SlA 2 ptc M aa us) (hb:SlA 2 ptc M ab vs) (hl:us.length=vs.length) (hla:us.length<=1000000) :
  CallOk Tryz.prog 144 [.slice aa us.length fa 2,.slice ab vs.length fb 2] M (fun w M'=>w=.bool (befR us vs) /\ Grow M M'):=by
 refine z6 kq144 rfl ?_
 dsimp only [xq144,qm,qf,ql,qL,qi,qa,qn,qB,qC,qg,qo,qk,qK,qq,zipE,Nat.reduceAdd]
 (repeat' first|with_reducible intro _|refine sv ?_|refine sc ?_ ?_<;>(intro h;try exact sz h)|refine sg ?_ ?_<;>(intro h;first|exact sz h|refine sy h ?_)|exact sq|fail)
 refine zc (fun n E ms M'=>∃ k:Nat,n=us.length - k /\ k<=us.length /\ ms=[] /\ Has E [(0,.slice aa us.length fa 2),(1,.slice ab vs.length fb 2),(5,I k)] /\ Grow M M' /\ befR us vs=befR (us.drop k) (vs.drop k)) ?_ us.length _ _ _
  ⟨0,by omega,by omega,rfl,.cons rfl (.cons rfl (.cons rfl .nil)),xg,rfl⟩
 rintro n E ms M1 ⟨k,rfl,hk,rfl,hE,hg,hd⟩
 have hle:=hg.le
 refine zw hE ?_
 by_cases hlast:k=us.length
 ·subst hlast
  rw [List.drop_length,zj5] at hd
  (repeat' first|with_reducible intro _|refine sv ?_|refine sc ?_ ?_<;>(intro h;try exact sz h)|refine sg ?_ ?_<;>(intro h;first|exact sz h|refine sy h ?_)|exact sq|fail)
  (refine kf ?_)
  exact ⟨by rw [hd];rfl,hg⟩
 have hlt:k < us.length:=by omega
 have hlt2:k < vs.length:=by omega
 obtain ⟨i,o,rfl,hr⟩:=ha.resolve_left (fun h=>by subst h;simp at hlt)
 obtain ⟨i2,o2,rfl,hr2⟩:=hb.resolve_left (fun h=>by subst h;simp at hlt2)
 have r1:=(hr k hlt).grow hg
 have r2:=(hr2 k hlt2).grow hg
 have r11:Rd1 M1 i (o+k*2+0) (I (us[k]).1):=r1.nth (j:=0) rfl
 have r12:Rd1 M1 i (o+k*2+1) (I (us[k]).2):=r1.nth (j:=1) rfl
 have r21:Rd1 M1 i2 (o2+k*2+0) (I (vs[k]).1):=r2.nth (j:=0) rfl
 have r22:Rd1 M1 i2 (o2+k*2+1) (I (vs[k]).2):=r2.nth (j:=1) rfl
 have h1:=r1.2
 have h2:=r2.2
 rw [List.drop_eq_getElem_cons hlt,List.drop_eq_getElem_cons hlt2] at hd
 have hdr:befR (us[k] :: us.drop (k+1)) (vs[k] :: vs.drop (k+1))=if us[k] ≠ vs[k] then decide ((us[k]).1 < (vs[k]).1 ∨ ((us[k]).1=(vs[k]).1 /\ (us[k]).2 < (vs[k]).2)) else befR (us.drop (k+1)) (vs.drop (k+1)):=rfl
 rw [hdr] at hd
 have hpq:us[k] ≠ vs[k] ↔ ¬ ((us[k]).1=(vs[k]).1 /\ (us[k]).2=(vs[k]).2):=by rw [ne_eq,Prod.ext_iff]
 generalize us[k]=p at *
 generalize vs[k]=q at *
 obtain ⟨p1,p2⟩:=p
 obtain ⟨q1,q2⟩:=q
 dsimp only at hd hpq r11 r12 r21 r22
 clear hdr
 (have hrd0:=r1;have hrd1:=r2;have hrd2:=r11;have hrd3:=r12;have hrd4:=r21;have hrd5:=r22;repeat' first|with_reducible intro _|refine sv ?_|refine sc ?_ ?_<;>(intro h;try exact sz h)|refine sg ?_ ?_<;>(intro h;first|exact sz h|refine sy h ?_)|exact sq|fail)
 all_goals first
  |((refine kf ?_)
    refine ⟨?_,hg⟩
    rw [hd,if_pos (hpq.2 (by omega))]
    first
     | exact congrArg LV.bool (decide_eq_true (by omega)).symm
     | exact congrArg LV.bool (decide_eq_false (by omega)).symm
     | exact congrArg LV.bool (decide_eq_decide.2 (by omega)))
  |(refine zg (us.length - (k+1)) (by omega) ⟨k+1,rfl,by omega,rfl,.cons rfl (.cons rfl (.cons rfl .nil)),xg,?_⟩
    rw [hd,if_neg (fun h=>hpq.1 h (by omega))])
abbrev wyv (sl:LV) (c:Int) (b:Bool):LV:=.agg [sl,I c,.bool b]
def WayD (M:Mem) (o:Option Psg) (sl:LV) (c:Int) (b:Bool):Prop:=match o with|none=>b=false /\ sl=.slice none 0 true 0 /\ c=0|some y=>b=true /\ c=y.2 /\ ∃ a f,sl=.slice a y.1.length f 2 /\ SlA 2 ptc M a y.1
def betO (x y:Option Psg):Bool:=match x with|none=>false|some x=>match y with|none=>true|some y=>lessP x y
theorem z8q (x y:Option Psg):addO y x=if betO x y then x else y:=by
 unfold addO betO addB
 cases x with
 | none=>rfl
 | some x=>cases y with
  | none=>rfl
  | some y=>rfl
set_option maxHeartbeats 4000000 in
theorem z6f {x y:Option Psg} {s1 s2:LV} {c1 c2:Int} {b1 b2:Bool} {M:Mem} (hx:WayD M x s1 c1 b1) (hy:WayD M y s2 c2 b2) (hlx:∀ p,x=some p->p.1.length<=1000) (hly:∀ p,y=some p->p.1.length<=1000) :
  CallOk Tryz.prog 106 [wyv s1 c1 b1,wyv s2 c2 b2] M (fun w M'=>w=.bool (betO x y) /\ Grow M M'):=by
 refine z6 kq106 rfl ?_
 dsimp only [xq106,qm,qf,ql,qb,qc,qn,qB,qg,qo,qq,zipE,Nat.reduceAdd]
 cases x with
 | none =>
  obtain ⟨rfl,rfl,rfl⟩:=hx
  obtain ⟨a2,n2,f2,e2,rfl⟩:∃ a n f e,s2=.slice a n f e:=by
   cases y with
   | none=>exact ⟨_,_,_,_,hy.2.1⟩
   | some q=>obtain ⟨_,_,a,f,h,_⟩:=hy;exact ⟨_,_,_,_,h⟩
  (repeat' first|with_reducible intro _|refine sv ?_|refine sc ?_ ?_<;>(intro h;try exact sz h)|refine sg ?_ ?_<;>(intro h;first|exact sz h|refine sy h ?_)|exact sq|fail)
  (refine kf ?_)
  exact ⟨rfl,xg⟩
 | some p =>
  obtain ⟨rfl,rfl,aa,fa,rfl,hA⟩:=hx
  cases y with
  | none =>
   obtain ⟨rfl,rfl,rfl⟩:=hy
   (repeat' first|with_reducible intro _|refine sv ?_|refine sc ?_ ?_<;>(intro h;try exact sz h)|refine sg ?_ ?_<;>(intro h;first|exact sz h|refine sy h ?_)|exact sq|fail)
   (refine kf ?_)
   exact ⟨rfl,xg⟩
  | some q =>
   obtain ⟨rfl,rfl,ab,fb,rfl,hB⟩:=hy
   have l1:=hlx p rfl
   have l2:=hly q rfl
   have hbo:betO (some p) (some q)=lessR p q:=(zk8 p q).symm
   rw [hbo]
   unfold lessR
   by_cases hl:p.1.length=q.1.length
   ·have hc:=fun M' (hg:Grow M M')=>zgd (fa:=fa) (fb:=fb) (hA.grow hg) (hB.grow hg) hl (by omega)
    (repeat' first|with_reducible intro _|refine sv ?_|refine sc ?_ ?_<;>(intro h;try exact sz h)|(with_reducible first|apply za|apply z8|apply z5);exact gd;exact rfl;exact rfl;exact hc _ (xg)|refine sg ?_ ?_<;>(intro h;first|exact sz h|refine sy h ?_)|exact sq|fail)
    all_goals (refine kf ?_)
    all_goals refine ⟨?_,xg⟩
    ·rw [if_pos (by assumption)];rfl
    ·rw [if_neg (by omega),if_neg (by omega)];rfl
   ·(repeat' first|with_reducible intro _|refine sv ?_|refine sc ?_ ?_<;>(intro h;try exact sz h)|refine sg ?_ ?_<;>(intro h;first|exact sz h|refine sy h ?_)|exact sq|fail)
    all_goals (refine kf ?_)
    all_goals refine ⟨?_,xg⟩
    ·rw [if_pos (by assumption)];rfl
    ·rw [if_neg (by omega),if_pos (by omega)]
     exact congrArg LV.bool (decide_eq_decide.2 (by omega))
noncomputable def frB (s:Cr) (P:List Pt) (i k:Nat):Bool:=decide (P.getD i (0,0) ≠ P.getD k (0,0)) && clearF s (P.getD i (0,0)) (P.getD k (0,0))
noncomputable def frM (s:Cr) (P:List Pt):List (List Bool):=(List.range P.length).map fun i=>(List.range P.length).map fun k=>frB s P i k
abbrev boolc (b:Bool):List LV:=[.bool b]
abbrev mpc (A:CrA) (s:Cr) (aP:Option (Nat × Nat)) (n:Nat) (fP:Bool) (aF:Option (Nat × Nat)) (m:Nat) (fF:Bool):List LV:=[.slice A.aL s.lines.length A.fL 4,.slice A.aF s.fields.length A.fF A.eF,.slice A.aB s.buoys.length A.fB 2,I s.spread.1.1,I s.spread.1.2,I s.spread.2.1.1,I s.spread.2.1.2,I s.spread.2.2.1.1,I s.spread.2.2.1.2,I s.spread.2.2.2.1,I s.spread.2.2.2.2,
 I s.start.1.1,I s.start.1.2,I s.start.2,I s.speed,I s.turn,.slice A.aO s.opn.length A.fO 1,.slice aP n fP 2,.slice aF m fF 1]
structure MpM (M:Mem) (A:CrA) (s:Cr) (P:List Pt) (aP aF:Option (Nat × Nat)):Prop where
 cr:CrM M A s
 p:SlA 2 ptc M aP P
 fr:SlL 1 boolc M aF (frM s P)
theorem MpM.grow {M M':Mem} {A:CrA} {s:Cr} {P:List Pt} {aP aF:Option (Nat × Nat)} (h:MpM M A s P aP aF) (hg:Grow M M'):MpM M' A s P aP aF:=⟨h.cr.grow hg,h.p.grow hg,h.fr.grow hg⟩
theorem zhb {s:Cr} {P:List Pt}:(frM s P).length=P.length:=by unfold frM;rw [List.length_map,List.length_range]
theorem zq9 {M:Mem} {s:Cr} {P:List Pt} {aF:Option (Nat × Nat)} (h:SlL 1 boolc M aF (frM s P)) {i k:Nat} (hi:i < P.length) (hk:k < P.length) :
  ∃ ia oa ir ro fr,aF=some (ia,oa) /\ Rd1 M ia (oa+i*1) (.slice (some (ir,ro)) P.length fr 1) /\ Rd1 M ir (ro+k*1) (.bool (frB s P i k)):=by
 have hl:=zhb (s:=s) (P:=P)
 obtain ⟨ia,oa,e,hr⟩:=h.resolve_left (fun h=>by rw [h] at hl;simp at hl;omega)
 obtain ⟨aw,fw,g1,g2,g3⟩:=hr i (by omega)
 have hrow:(frM s P)[i]'(by omega)=(List.range P.length).map fun k=>frB s P i k:=by unfold frM;rw [List.getElem_map,List.getElem_range]
 rw [hrow] at g1 g2
 have hlen:((List.range P.length).map fun k=>frB s P i k).length=P.length:=by rw [List.length_map,List.length_range]
 obtain ⟨ir,ro,e2,hr2⟩:=g2.resolve_left (fun h=>by rw [h] at hlen;simp at hlen;omega)
 rw [hlen] at g1
 have g4:=(hr2 k (by omega)).nth (j:=0) (v:=.bool (frB s P i k)) (by rw [List.getElem_map,List.getElem_range];rfl)
 subst e2
 exact ⟨ia,oa,ir,ro,fw,e,g1,g4⟩
noncomputable def usedL (s:Cr) (done:List Nat):List Bool:=(List.range s.buoys.length).map fun k=>decide (k ∈ done)
theorem z1d {s:Cr} {done:List Nat}:(usedL s done).length=s.buoys.length:=by unfold usedL;rw [List.length_map,List.length_range]
theorem znb {M:Mem} {s:Cr} {done:List Nat} {aU:Option (Nat × Nat)} (h:SlA 1 boolc M aU (usedL s done)) {k:Nat} (hk:k < s.buoys.length) :
  ∃ iu ou,aU=some (iu,ou) /\ Rd1 M iu (ou+k*1) (.bool (decide (k ∈ done))):=by
 have hl:=z1d (s:=s) (done:=done)
 obtain ⟨iu,ou,e,hr⟩:=h.resolve_left (fun h=>by rw [h] at hl;simp at hl;omega)
 exact ⟨iu,ou,e,(hr k (by omega)).nth (j:=0) (v:=.bool (decide (k ∈ done))) (by unfold usedL;rw [List.getElem_map,List.getElem_range];rfl)⟩
theorem z5o:∀ (t:List Bool) (k:Nat) (v:Bool),k < t.length->setList (t.flatMap boolc) k [.bool v]=some ((t.set k v).flatMap boolc)
 | [],k,v,h=>absurd h (Nat.not_lt_zero _)
 | x :: t,0,v,_=>by
  show ob (setList (t.flatMap boolc) 0 []) (fun l=>some (.bool v :: l))=_
  rw [show setList (t.flatMap boolc) 0 []=some (t.flatMap boolc) from by cases (t.flatMap boolc)<;>rfl];rfl
 | x :: t,k+1,v,h=>by
  show ob (setList (t.flatMap boolc) k [.bool v]) (fun l=>some (.bool x :: l))=_
  rw [z5o t k v (by simpa using h)];rfl
theorem z7h {s:Cr} {done:List Nat} {j:Nat} (h:j < (usedL s done).length):(usedL s done)[j]=decide (j ∈ done) :=
 (List.getElem_map (l:=List.range s.buoys.length) (fun k=>decide (k ∈ done)) (i:=j) (h:=h)).trans (congrArg (fun k=>decide (k ∈ done)) (List.getElem_range ..))
theorem zio {s:Cr} {done:List Nat} {k:Nat}:(usedL s done).set k true=usedL s (k :: done):=by
 refine List.ext_getElem (by rw [List.length_set,z1d,z1d]) fun j h1 h2=>?_
 rw [List.getElem_set,z7h,z7h]
 split
 ·rename_i h;subst h;simp
 ·rename_i h
  refine decide_eq_decide.2 ?_
  rw [List.mem_cons]
  constructor
  ·exact .inr
  ·rintro (rfl|h')
   ·exact absurd rfl h
   ·exact h'
def WayN (b0:Nat) (M:Mem) (o:Option Psg) (sl:LV) (c:Int) (b:Bool):Prop:=match o with
 | none=>b=false /\ sl=.slice none 0 true 0 /\ c=0
 | some y=>b=true /\ c=y.2 /\ ∃ p f,sl=.slice (some (p,0)) y.1.length f 2 /\ At M p (.cells true (y.1.flatMap ptc) 30) /\ b0<=p
theorem WayN.d {b0:Nat} {M:Mem} {o:Option Psg} {sl:LV} {c:Int} {b:Bool} (h:WayN b0 M o sl c b):WayD M o sl c b:=by
 cases o with
 | none=>exact h
 | some y =>
  obtain ⟨h1,h2,p,f,h3,h4,_⟩:=h
  exact ⟨h1,h2,some (p,0),f,h3,.inr ⟨p,0,rfl,z0r h4⟩⟩
theorem WayN.keep {b0:Nat} {M M':Mem} {o:Option Psg} {sl:LV} {c:Int} {b:Bool} {F:Nat->Prop} (h:WayN b0 M o sl c b) (hk:Keep F M M') (hF:∀ i,b0<=i->i < M.next->¬ F i):WayN b0 M' o sl c b:=by
 cases o with
 | none=>exact h
 | some y =>
  obtain ⟨h1,h2,p,f,h3,h4,h5⟩:=h
  exact ⟨h1,h2,p,f,h3,h4.keep hk (hF p h5 h4.2),h5⟩
theorem WayN.low {b0 b1:Nat} {M:Mem} {o:Option Psg} {sl:LV} {c:Int} {b:Bool} (h:WayN b0 M o sl c b) (hb:b1<=b0):WayN b1 M o sl c b:=by
 cases o with
 | none=>exact h
 | some y =>
  obtain ⟨h1,h2,p,f,h3,h4,h5⟩:=h
  exact ⟨h1,h2,p,f,h3,h4,by omega⟩
theorem WayN.shape {b0:Nat} {M:Mem} {o:Option Psg} {sl:LV} {c:Int} {b:Bool} (h:WayN b0 M o sl c b):∃ a n f e,sl=.slice a n f e:=by
 cases o with
 | none=>exact ⟨_,_,_,_,h.2.1⟩
 | some y=>obtain ⟨_,_,p,f,h,_⟩:=h;exact ⟨_,_,_,_,h⟩
set_option maxHeartbeats 16000000 in
theorem zeu {A:CrA} {s:Cr} {P more:List Pt} (hs:CrOk s) (hP:P=s.buoys ++ more) (hPl:∀ p ∈ P,PlP p) (hPn:P.length<=100) {to:Nat} (hto:s.buoys.length<=to) (hto2:to < P.length) {last:Int} (hlast:0<=last /\ last<=7) (rec:Nat->Int->List Nat->Psg->Option Psg)
  {M:Mem} {at_:Nat} {o:Int} {done:List Nat} {so:Psg} {aP aF aU aL:Option (Nat × Nat)} {fP fF fU fL iS:Bool}
  (hrecl:∀ k o' u so' y,so'.1.length=so.1.length+1->rec k o' u so'=some y->y.1.length<=100)
  (hrec:∀ (M':Mem) (k:Nat) (o':Int) (so':Psg) (aU' aL':Option (Nat × Nat)) (fU' fL':Bool),k < s.buoys.length->k ∉ done->0<=o' /\ o'<=7->MpM M' A s P aP aF->SlA 1 boolc M' aU' (usedL s (k :: done))->SlA 2 ptc M' aL' so'.1->so'.1.length=so.1.length+1->0<=so'.2 /\ so'.2<=so.2+96682 ->
   CallOk Tryz.prog 104 [.agg (mpc A s aP P.length fP aF P.length fF),I k,I o',.slice aU' s.buoys.length fU' 1,I to,I last,wyv (.slice aL' so'.1.length fL' 2) so'.2 true] M' (fun v M''=>Grow M' M'' /\ ∃ sl c b,v=wyv sl c b /\ WayN M'.next M'' (rec k o' (k :: done) so') sl c b))
  (hm:MpM M A s P aP aF) (hat:at_ < P.length) (ho:0<=o /\ o<=7) (hU:SlA 1 boolc M aU (usedL s done)) (hL:SlA 2 ptc M aL so.1) (hL0:0 < so.1.length) (hLn:so.1.length<=10) (hc:0<=so.2 /\ so.2<=1000000) :
  CallOk Tryz.prog 104 [.agg (mpc A s aP P.length fP aF P.length fF),I at_,I o,.slice aU s.buoys.length fU 1,I to,I last,wyv (.slice aL so.1.length fL 2) so.2 iS] M
   (fun v M'=>Grow M M' /\ ∃ sl c b,v=wyv sl c b /\ WayN M.next M' ((List.range P.length).foldl (stR s P to last rec at_ o done so) none) sl c b):=by
 refine z6 kq104 rfl ?_
 dsimp only [xq104,qm,qf,ql,qL,qi,qb,qc,qa,qn,qB,qC,qg,qS,qo,qk,qK,qq,qZ,qN,zipE,Nat.reduceAdd]
 (repeat' first|with_reducible intro _|refine sv ?_|refine sc ?_ ?_<;>(intro h;try exact sz h)|refine sg ?_ ?_<;>(intro h;first|exact sz h|refine sy h ?_)|exact sq|fail)
 rename_i n7 M1 hn7 e1 e2 n13 M2 hn13 e3 e4 n14 M3 hn14 e5 e6 n15 M4 hn15 e7 e8
 have hg4:Grow M M4:=xg
 have b7:At M4 n7 (.cells true (mpc A s aP P.length fP aF P.length fF) 99):=xm
 have b13:At M4 n13 (.cells true [.slice aL so.1.length fL 2,I so.2,.bool iS] 102):=xm
 have b14:At M4 n14 (.cells true [.slice none 0 true 0,I 0,.bool false] 102):=xm
 have b15:At M4 n15 (.cells true [.slice none 0 true 0,I 0,.bool false] 102):=xm
 have hm4:=hm.grow hg4
 have hU4:=hU.grow hg4
 have hL4:=hL.grow hg4
 have hord:n7 < n13 /\ n13 < n14 /\ n14 < n15 /\ M.next<=n7 /\ n15 < M4.next:=by omega
 have hnb:s.buoys.length<=P.length:=by rw [hP,List.length_append];omega
 clear hn7 hn13 hn14 hn15 e1 e2 e3 e4 e5 e6 e7 e8
 refine zc (fun n E ms M'=>∃ (k:Nat) (sl:LV) (c:Int) (b:Bool),n=P.length - k /\ k<=P.length /\ ms=[] /\ Has E [(1,I at_),(2,I o),(3,.slice aU s.buoys.length fU 1),(4,I to),(5,I last),(7,.ptr (some (n7,0))),(13,.ptr (some (n13,0))),(14,.ptr (some (n14,0))),(15,.ptr (some (n15,0))),(16,I k)] /\ Keep (fun i=>i=n15) M4 M' /\
   At M' n15 (.cells true [sl,I c,.bool b] 102) /\ WayN (n15+1) M' ((List.range k).foldl (stR s P to last rec at_ o done so) none) sl c b /\ (∀ y,(List.range k).foldl (stR s P to last rec at_ o done so) none=some y->y.1.length<=100)) ?_ P.length _ _ _
  ⟨0,_,_,_,by omega,by omega,rfl,.cons rfl (.cons rfl (.cons rfl (.cons rfl (.cons rfl (.cons rfl (.cons rfl (.cons rfl (.cons rfl (.cons rfl .nil))))))))),Keep.refl _ _,b15,⟨rfl,rfl,rfl⟩,fun y h=>by cases h⟩
 rintro n E ms M5 ⟨k,sl,c,b,rfl,hk,rfl,hE,hk5,a15,hbest,hbl⟩
 refine zw hE ?_
 have hle5:=hk5.le
 have c7:=b7.keep hk5 (by omega)
 have c13:=b13.keep hk5 (by omega)
 have c14:=b14.keep hk5 (by omega)
 obtain ⟨ab,nbb,fb,eb,rfl⟩:=hbest.shape
 have l7:=c7.2
 have l13:=c13.2
 have l14:=c14.2
 have l15:=a15.2
 by_cases hlastk:k=P.length
 ·subst hlastk
  (repeat' first|with_reducible intro _|refine sv ?_|refine sc ?_ ?_<;>(intro h;try exact sz h)|refine sg ?_ ?_<;>(intro h;first|exact sz h|refine sy h ?_)|exact sq|fail)
  rename_i M6 hu6 e9 a6
  have hk6:Keep (fun i=>i=n14) M5 M6:=xk
  (refine kf ?_)
  refine ⟨Keep.to_grow' (Keep.to_grow' hg4 hk5 (fun i hi=>by omega)) hk6 (fun i hi=>by omega),_,_,_,rfl,(hbest.keep hk6 (fun i hi _=>by omega)).low (by omega)⟩
 have hlt:k < P.length:=by omega
 have hgM5:Grow M M5:=Keep.to_grow' hg4 hk5 (fun i hi=>by omega)
 have hm5:=hm.grow hgM5
 obtain ⟨ia,oa,ir,ro,fr,rfl,rF1,rF2⟩:=zq9 hm5.fr hat hlt
 have hst:(List.range (k+1)).foldl (stR s P to last rec at_ o done so) none=stR s P to last rec at_ o done so ((List.range k).foldl (stR s P to last rec at_ o done so) none) k:=by rw [List.range_succ,List.foldl_append];rfl
 have hfr:frB s P at_ k=true ↔ (P.getD at_ (0,0) ≠ P.getD k (0,0) /\ clearF s (P.getD at_ (0,0)) (P.getD k (0,0))=true):=by unfold frB;rw [Bool.and_eq_true,decide_eq_true_iff]
 have hnext:∀ {E':Env} {M6:Mem} {K:Ex->Env->List Nat->Mem->Prop} {sl':LV} {c':Int} {b':Bool},Has E' [(1,I at_),(2,I o),(3,.slice aU s.buoys.length fU 1),(4,I to),(5,I last),(7,.ptr (some (n7,0))),(13,.ptr (some (n13,0))),(14,.ptr (some (n14,0))),(15,.ptr (some (n15,0))),(16,I ((k+1:Nat):Int))] ->
   Keep (fun i=>i=n15) M5 M6->At M6 n15 (.cells true [sl',I c',.bool b'] 102)->WayN (n15+1) M6 ((List.range (k+1)).foldl (stR s P to last rec at_ o done so) none) sl' c' b'->(∀ y,(List.range (k+1)).foldl (stR s P to last rec at_ o done so) none=some y->y.1.length<=100) ->
   KStep (fun n E ms M'=>∃ (k:Nat) (sl:LV) (c:Int) (b:Bool),n=P.length - k /\ k<=P.length /\ ms=[] /\ Has E [(1,I at_),(2,I o),(3,.slice aU s.buoys.length fU 1),(4,I to),(5,I last),(7,.ptr (some (n7,0))),(13,.ptr (some (n13,0))),(14,.ptr (some (n14,0))),(15,.ptr (some (n15,0))),(16,I k)] /\ Keep (fun i=>i=n15) M4 M' /\
   At M' n15 (.cells true [sl,I c,.bool b] 102) /\ WayN (n15+1) M' ((List.range k).foldl (stR s P to last rec at_ o done so) none) sl c b /\ (∀ y,(List.range k).foldl (stR s P to last rec at_ o done so) none=some y->y.1.length<=100)) (P.length - k) K .norm E' [] M6:=by
  intro E' M6 K sl' c' b' h1 h2 h3 h4 h5
  exact zg (P.length - (k+1)) (by omega) ⟨k+1,sl',c',b',rfl,by omega,rfl,h1,hk5.trans h2 (fun i hi=>.inl hi),h3,h4,h5⟩
 obtain ⟨iP,oP,rfl,hrP⟩:=hm5.p.resolve_left (fun h=>by rw [h] at hlt;simp at hlt)
 have ek:P.getD k (0,0)=P[k]:=ze hlt
 have ea:P.getD at_ (0,0)=P[at_]:=ze hat
 have rPk:=hrP k hlt
 have rPa:=hrP at_ hat
 have rPk1:Rd1 M5 iP (oP+k*2+0) (I (P[k]).1):=rPk.nth (j:=0) rfl
 have rPk2:Rd1 M5 iP (oP+k*2+1) (I (P[k]).2):=rPk.nth (j:=1) rfl
 have rPa1:Rd1 M5 iP (oP+at_*2+0) (I (P[at_]).1):=rPa.nth (j:=0) rfl
 have rPa2:Rd1 M5 iP (oP+at_*2+1) (I (P[at_]).2):=rPa.nth (j:=1) rfl
 have plk:=hPl _ (List.getElem_mem hlt)
 have pla:=hPl _ (List.getElem_mem hat)
 have hstR:∀ best,stR s P to last rec at_ o done so best k=if ((P[at_] ≠ P[k] /\ clearF s P[at_] P[k]=true) /\ (k=to ∨ k < s.buoys.length)) /\ ¬ (k < s.buoys.length /\ k ∈ done) then
   addO best (if k=to then some (so.1 ++ [P[k]],so.2+stepsF s.speed P[at_] P[k]+s.turn*trnF o (octF ((P[k]).1 - (P[at_]).1) ((P[k]).2 - (P[at_]).2))+s.turn*trnF (octF ((P[k]).1 - (P[at_]).1) ((P[k]).2 - (P[at_]).2)) last)
    else rec k (octF ((P[k]).1 - (P[at_]).1) ((P[k]).2 - (P[at_]).2)) (k :: done) (so.1 ++ [P[k]],so.2+stepsF s.speed P[at_] P[k]+s.turn*trnF o (octF ((P[k]).1 - (P[at_]).1) ((P[k]).2 - (P[at_]).2)))) else best:=fun best=>by unfold stR nxR;rw [ek,ea];rfl
 have hoct:=z9n ((P[k]).1 - (P[at_]).1) ((P[k]).2 - (P[at_]).2)
 have hstb:=z28 hs.speed pla plk
 have hsp:=hs.speed
 have htu:=hs.turn
 rw [ek,ea] at hfr
 rw [hstR] at hst
 generalize P[k]=pk at *
 generalize P[at_]=pa at *
 have plk':=plk
 have pla':=pla
 dsimp only [PlP,Pl] at plk' pla'
 have htr:=z3j o (octF (pk.1 - pa.1) (pk.2 - pa.2))
 have hmu:=z0o (a:=s.turn) (b:=trnF o (octF (pk.1 - pa.1) (pk.2 - pa.2))) (A:=1000) (B:=4) (by omega) (by omega)
 have hmu0:0<=s.turn*trnF o (octF (pk.1 - pa.1) (pk.2 - pa.2)):=Int.mul_nonneg (by omega) (by omega)
 have hskip:∀ {M6:Mem},M6=M5->¬ (((pa ≠ pk /\ clearF s pa pk=true) /\ (k=to ∨ k < s.buoys.length)) /\ ¬ (k < s.buoys.length /\ k ∈ done)) ->
   WayN (n15+1) M6 ((List.range (k+1)).foldl (stR s P to last rec at_ o done so) none) (.slice ab nbb fb eb) c b /\ (∀ y,(List.range (k+1)).foldl (stR s P to last rec at_ o done so) none=some y->y.1.length<=100):=by
  rintro M6 rfl hno
  rw [if_neg hno] at hst
  rw [hst]
  exact ⟨hbest,hbl⟩
 have htr2:=z3j (octF (pk.1 - pa.1) (pk.2 - pa.2)) last
 have hmv:=z0o (a:=s.turn) (b:=trnF (octF (pk.1 - pa.1) (pk.2 - pa.2)) last) (A:=1000) (B:=4) (by omega) (by omega)
 have hmv0:0<=s.turn*trnF (octF (pk.1 - pa.1) (pk.2 - pa.2)) last:=Int.mul_nonneg (by omega) (by omega)
 generalize hbe:(List.range k).foldl (stR s P to last rec at_ o done so) none=be at *
 by_cases hkb:k < s.buoys.length
 ·cases hf:frB s P at_ k with
  | false =>
   have hno:¬ (((pa ≠ pk /\ clearF s pa pk=true) /\ (k=to ∨ k < s.buoys.length)) /\ ¬ (k < s.buoys.length /\ k ∈ done)):=fun h=>by rw [hfr.2 h.1.1] at hf;cases hf
   rw [hf] at rF2
   (have hrd0:=rF1;have hrd1:=rF2;repeat' first|with_reducible intro _|refine sv ?_|refine sc ?_ ?_<;>(intro h;try exact sz h)|refine sg ?_ ?_<;>(intro h;first|exact sz h|refine sy h ?_)|exact sq|fail)
   exact hnext (.cons rfl (.cons rfl (.cons rfl (.cons rfl (.cons rfl (.cons rfl (.cons rfl (.cons rfl (.cons rfl (.cons rfl .nil)))))))))) (Keep.refl _ _) a15 (hskip rfl hno).1 (hskip rfl hno).2
  | true =>
   rw [hf] at rF2
   obtain ⟨iu,ou,rfl,rU⟩:=znb (hU.grow hgM5) hkb
   by_cases hkd:k ∈ done
   ·have hno:¬ (((pa ≠ pk /\ clearF s pa pk=true) /\ (k=to ∨ k < s.buoys.length)) /\ ¬ (k < s.buoys.length /\ k ∈ done)):=fun h=>h.2 ⟨hkb,hkd⟩
    rw [decide_eq_true hkd] at rU
    (have hrd0:=rF1;have hrd1:=rF2;have hrd2:=rU;repeat' first|with_reducible intro _|refine sv ?_|refine sc ?_ ?_<;>(intro h;try exact sz h)|refine sg ?_ ?_<;>(intro h;first|exact sz h|refine sy h ?_)|exact sq|fail)
    exact hnext (.cons rfl (.cons rfl (.cons rfl (.cons rfl (.cons rfl (.cons rfl (.cons rfl (.cons rfl (.cons rfl (.cons rfl .nil)))))))))) (Keep.refl _ _) a15 (hskip rfl hno).1 (hskip rfl hno).2
   rw [decide_eq_false hkd] at rU
   have hkt:¬ k=to:=by omega
   (have hrd0:=rF1;have hrd1:=rF2;have hrd2:=rU;have hrd3:=rPk;have hrd4:=rPa;have hrd5:=rPk1;have hrd6:=rPk2;have hrd7:=rPa1;have hrd8:=rPa2;repeat' first|with_reducible intro _|refine sv ?_|refine sc ?_ ?_<;>(intro h;try exact sz h)|(with_reducible first|apply zj|apply zi|apply zd);exact gd;exact rfl;exact rfl;(first|exact z3u _ _ (by omega) (by omega) _|exact z3x _ _ (by omega) (by omega) _)|(with_reducible first|apply za|apply z8|apply z5);exact gd;exact rfl;exact rfl;exact z5y (A:=A) (s:=s) hsp pla plk|refine sg ?_ ?_<;>(intro h;first|exact sz h|refine sy h ?_)|exact sq|fail)
   rename_i MA hgA leA n19 MB hnB eB1 eB2 MC huC eC aC
   have hgC:Grow M5 MC:=xg
   have hgMC:Grow M MC:=hgM5.trans hgC
   have hw6:firstL 2 so.1.length (.slice aL so.1.length fL 2) MC=some (so.1.flatMap ptc):=by
    obtain ⟨iL,oL,e,hr⟩:=(hL.grow hgMC).resolve_left (fun h=>by rw [h] at hL0;simp at hL0)
    subst e
    exact zn (enc:=ptc) (fun _ _=>rfl) hr
   have l19:=aC.2
   clear hgMC
   refine z0n (by exact gd) (b:=MC.next) (l:=[]) (l':=so.1) (enc:=ptc) (.inl ⟨rfl,rfl⟩) rfl rfl rfl hL0 (by simp;omega) rfl hw6 (fun _=>rfl) (fun _=>rfl) (Nat.le_refl _) ?_
   intro v1 MD hvD eD hkD
   have hgD:Grow MC MD:=hkD.to_grow (fun i hi=>hi.1)
   have leD:=hgD.le
   obtain ⟨a1,f1,es1,rfl⟩:=hvD.shape
   clear hkD
   (have hrd0:=rPk;repeat' first|with_reducible intro _|refine sv ?_|refine sc ?_ ?_<;>(intro h;try exact sz h)|refine sg ?_ ?_<;>(intro h;first|exact sz h|refine sy h ?_)|exact sq|fail)
   rename_i n123 ME hnE eE1 eE2
   have hgE:Grow MC ME:=hgD.trans hnE.grow
   have hvE:Vec MC.next 2 30 ptc ME (.slice a1 so.1.length f1 es1) so.1:=Or.imp id (fun ⟨i,z1,z2,z3⟩=>⟨i,z1,At.new_old hnE z2,z3⟩) hvD
   have hwE:firstL 2 1 (.slice (some (n123,0)) 1 true 2) ME=some ([pk].flatMap ptc):=zn (enc:=ptc) (l:=[pk]) (fun _ _=>rfl) (fun k hk=>zo (enc:=ptc) (l:=[pk]) (At.new_same hnE) (fun _ _=>rfl) hk)
   refine z0n (by exact gd) (l':=[pk]) hvE rfl rfl rfl (by simp) (by simp;omega) rfl hwE (fun _=>rfl) (fun _=>rfl) (by omega) ?_
   intro v2 MF hvF eF hkF
   have hgF:Grow MC MF:=Keep.to_grow' hgE hkF (fun i hi=>hi.1)
   have leF:=hkF.le
   clear hkF
   have hlso:(so.1 ++ [pk]).length=so.1.length+1:=by rw [List.length_append,List.length_singleton]
   rcases hvF with ⟨h0,_⟩|⟨p2,rfl,hp2,hp2b⟩
   ·rw [h0] at hlso;simp at hlso
   have hp2l:=hp2.2
   have aF:At MF n19 (.cells true [.slice none 0 true 0,I (so.2+stepsF s.speed pa pk+s.turn*trnF o (octF (pk.1 - pa.1) (pk.2 - pa.2))),.bool true] 102):=aC.grow hgF
   (repeat' first|with_reducible intro _|refine sv ?_|refine sc ?_ ?_<;>(intro h;try exact sz h)|refine sg ?_ ?_<;>(intro h;first|exact sz h|refine sy h ?_)|exact sq|fail)
   rename_i MG huG eG aG n140 MH hnH eH1 eH2
   have hkH:Keep (fun i=>i=n19) MF MH:=((Keep.refl (fun i=>i=n19) MF).upd huG (.inl rfl)).new hnH
   have hk5H:Keep (fun i=>i=n19) M5 MH:=((hgC.trans hgF).to_keep (fun i=>i=n19)).trans hkH (fun i hi=>.inl hi)
   have leH:=hkH.le
   have hgMH:Grow M MH:=Keep.to_grow' hgM5 hk5H (fun i hi=>by omega)
   have hu0:0 < s.buoys.length:=by omega
   have hwU:firstL 1 s.buoys.length (.slice (some (iu,ou)) s.buoys.length fU 1) MH=some ((usedL s done).flatMap boolc):=by
    obtain ⟨iL,oL,e,hr⟩:=(hU.grow hgMH).resolve_left (fun h=>by have:=z1d (s:=s) (done:=done);rw [h] at this;simp at this;omega)
    cases e
    have:=zn (enc:=boolc) (len:=s.buoys.length) (f:=fU) (e:=1) (fun _ _=>rfl) hr
    rw [z1d] at this
    exact this
   have hnbs:=hs.nb
   have rH15:At MH n15 (.cells true [.slice ab nbb fb eb,I c,.bool b] 102):=a15.keep hk5H (by omega)
   have rH7:At MH n7 (.cells true (mpc A s (some (iP,oP)) P.length fP (some (ia,oa)) P.length fF) 99):=c7.keep hk5H (by omega)
   have rH19:=At.new_old hnH aG
   have rHp:=hp2.keep hkH (by omega)
   refine z7i (by exact gd) (old:=[]) rfl rfl rfl hu0 (by omega) rfl rfl hwU (z0a (fun x _=>rfl)) (.inr rfl) ?_
   intro n20 MI hnI eI1 eI2
   have hnI:New MH n20 (.cells true ((usedL s done).flatMap boolc) 4) MI:=hnI
   have hn20:n20 < MI.next:=by omega
   refine z59 (t:=142) (v':=.slice (some (n20,0)) s.buoys.length false 1) rfl (by rw [Nat.zero_add]) ?_
   (repeat' first|with_reducible intro _|refine sv ?_|refine sc ?_ ?_<;>(intro h;try exact sz h)|refine sg ?_ ?_<;>(intro h;first|exact sz h|refine sy h ?_)|exact sq|fail)
   refine x_st (by exact gd) rfl rfl (At.new_same hnI) rfl rfl (cs':=(usedL s (k :: done)).flatMap boolc) (by rw [<-zio,show 0+k*1=k by omega];exact z5o _ k true (by rw [z1d];exact hkb)) ?_
   intro MJ huJ eJ aJ
   have hkJ:Keep (fun i=>i=n20) MI MJ:=(Keep.refl (fun i=>i=n20) MI).upd huJ (.inl rfl)
   have hHJ:Grow MH MJ:=Keep.to_grow' hnI.grow hkJ (fun i hi=>by omega)
   have hgMJ:Grow M MJ:=hgMH.trans hHJ
   have tH15:=rH15.grow hHJ
   have tH7:=rH7.grow hHJ
   have tH19:=rH19.grow hHJ
   have tHp:=rHp.grow hHJ
   have htJ:SlA 1 boolc MJ (some (n20,0)) (usedL s (k :: done)):=.inr ⟨n20,0,rfl,fun j hj=>zo (enc:=boolc) aJ (fun _ _=>rfl) hj⟩
   have hcall:=hrec MJ k (octF (pk.1 - pa.1) (pk.2 - pa.2)) (so.1 ++ [pk],so.2+stepsF s.speed pa pk+s.turn*trnF o (octF (pk.1 - pa.1) (pk.2 - pa.2))) (some (n20,0)) (some (p2,0)) false false hkb hkd hoct (hm.grow hgMJ) htJ (.inr ⟨p2,0,rfl,z0r tHp⟩) hlso (by dsimp only;omega)
   have hleJ:=hHJ.le
   clear hgMJ hHJ
   (repeat' first|with_reducible intro _|refine sv ?_|refine sc ?_ ?_<;>(intro h;try exact sz h)|(with_reducible first|apply zk|apply zu|apply z00);exact gd;exact rfl;exact rfl;exact hcall|refine sg ?_ ?_<;>(intro h;first|exact sz h|refine sy h ?_)|exact sq|fail)
   rename_i w MK hq
   obtain ⟨hgK,sl',c',b',rfl,hwK⟩:=hq
   obtain ⟨a',nn',f',es',rfl⟩:=hwK.shape
   have leK:=hgK.le
   have uK19:=tH19.grow hgK
   (repeat' first|with_reducible intro _|refine sv ?_|refine sc ?_ ?_<;>(intro h;try exact sz h)|refine sg ?_ ?_<;>(intro h;first|exact sz h|refine sy h ?_)|exact sq|fail)
   rename_i ML huL eL aL'
   have hkL:Keep (fun i=>i=n19) MK ML:=(Keep.refl (fun i=>i=n19) MK).upd huL (.inl rfl)
   have hk5J:Keep (fun i=>i=n19) M5 MJ:=(hk5H.new hnI).upd huJ (.inr (by omega))
   have hk5L:Keep (fun i=>i=n19) M5 ML:=(hk5J.grow hgK).trans hkL (fun i hi=>.inl hi)
   have leL:=hkL.le
   have hbL:=hbest.keep hk5L (fun i h1 h2=>by omega)
   have hwL:=hwK.keep hkL (fun i h1 h2=>by omega)
   have r15:At ML n15 (.cells true [.slice ab nbb fb eb,I c,.bool b] 102):=a15.keep hk5L (by omega)
   have hcond:((pa ≠ pk /\ clearF s pa pk=true) /\ (k=to ∨ k < s.buoys.length)) /\ ¬ (k < s.buoys.length /\ k ∈ done):=⟨⟨hfr.1 hf,.inr hkb⟩,fun h=>hkd h.2⟩
   rw [if_pos hcond,if_neg hkt,z8q] at hst
   have hrl:=fun y=>hrecl k (octF (pk.1 - pa.1) (pk.2 - pa.2)) (k :: done) (so.1 ++ [pk],so.2+stepsF s.speed pa pk+s.turn*trnF o (octF (pk.1 - pa.1) (pk.2 - pa.2))) y hlso
   generalize hxe:rec k (octF (pk.1 - pa.1) (pk.2 - pa.2)) (k :: done) (so.1 ++ [pk],so.2+stepsF s.speed pa pk+s.turn*trnF o (octF (pk.1 - pa.1) (pk.2 - pa.2)))=xe at *
   have hbt:=z6f (x:=xe) (y:=be) hwL.d hbL.d (fun p h=>by have:=hrl p h;omega) (fun p h=>by have:=hbl p h;omega)
   clear hk5L hkL hk5J hk5H hkH
   cases hbo:betO xe be with
   | true =>
    rw [hbo] at hbt hst
    rw [if_pos rfl] at hst
    (repeat' first|with_reducible intro _|refine sv ?_|refine sc ?_ ?_<;>(intro h;try exact sz h)|(with_reducible first|apply za|apply z8|apply z5);exact gd;exact rfl;exact rfl;exact hbt|refine sg ?_ ?_<;>(intro h;first|exact sz h|refine sy h ?_)|exact sq|fail)
    rename_i MM hgM leM MN huN eN aN
    have hkM:Keep (fun i=>i=n15) M5 MM:=(((((((((hgC.trans hgF).to_keep (fun i=>i=n15)).upd huG (.inr (by omega))).new hnH).new hnI).upd huJ (.inr (by omega))).grow hgK).upd huL (.inr (by omega)))).grow hgM
    refine hnext (.cons rfl (.cons rfl (.cons rfl (.cons rfl (.cons rfl (.cons rfl (.cons rfl (.cons rfl (.cons rfl (.cons rfl .nil)))))))))) (hkM.upd huN (.inl rfl)) aN ?_ ?_
    ·rw [hst]
     exact ((hwL.keep (hgM.to_keep (fun _=>False)) (fun _ _ _ h=>h)).keep ((Keep.refl (fun i=>i=n15) MM).upd huN (.inl rfl)) (fun i h1 h2=>by omega)).low (by omega)
    ·intro y hy
     rw [hst] at hy
     exact hrl y hy
   | false =>
    rw [hbo] at hbt hst
    rw [if_neg (by decide)] at hst
    (repeat' first|with_reducible intro _|refine sv ?_|refine sc ?_ ?_<;>(intro h;try exact sz h)|(with_reducible first|apply za|apply z8|apply z5);exact gd;exact rfl;exact rfl;exact hbt|refine sg ?_ ?_<;>(intro h;first|exact sz h|refine sy h ?_)|exact sq|fail)
    rename_i MM hgM leM
    have hkM:Keep (fun i=>i=n15) M5 MM:=(((((((((hgC.trans hgF).to_keep (fun i=>i=n15)).upd huG (.inr (by omega))).new hnH).new hnI).upd huJ (.inr (by omega))).grow hgK).upd huL (.inr (by omega)))).grow hgM
    refine hnext (.cons rfl (.cons rfl (.cons rfl (.cons rfl (.cons rfl (.cons rfl (.cons rfl (.cons rfl (.cons rfl (.cons rfl .nil)))))))))) hkM (r15.grow hgM) ?_ ?_
    ·rw [hst]
     exact hbL.keep (hgM.to_keep (fun _=>False)) (fun _ _ _ h=>h)
    ·rw [hst];exact hbl
 ·cases hf:frB s P at_ k with
  | false =>
   have hno:¬ (((pa ≠ pk /\ clearF s pa pk=true) /\ (k=to ∨ k < s.buoys.length)) /\ ¬ (k < s.buoys.length /\ k ∈ done)):=fun h=>by rw [hfr.2 h.1.1] at hf;cases hf
   rw [hf] at rF2
   (have hrd0:=rF1;have hrd1:=rF2;repeat' first|with_reducible intro _|refine sv ?_|refine sc ?_ ?_<;>(intro h;try exact sz h)|refine sg ?_ ?_<;>(intro h;first|exact sz h|refine sy h ?_)|exact sq|fail)
   exact hnext (.cons rfl (.cons rfl (.cons rfl (.cons rfl (.cons rfl (.cons rfl (.cons rfl (.cons rfl (.cons rfl (.cons rfl .nil)))))))))) (Keep.refl _ _) a15 (hskip rfl hno).1 (hskip rfl hno).2
  | true =>
   rw [hf] at rF2
   by_cases hkt:k=to
   rotate_left
   ·have hno:¬ (((pa ≠ pk /\ clearF s pa pk=true) /\ (k=to ∨ k < s.buoys.length)) /\ ¬ (k < s.buoys.length /\ k ∈ done)):=fun h=>by have:=h.1.2;omega
    (have hrd0:=rF1;have hrd1:=rF2;repeat' first|with_reducible intro _|refine sv ?_|refine sc ?_ ?_<;>(intro h;try exact sz h)|refine sg ?_ ?_<;>(intro h;first|exact sz h|refine sy h ?_)|exact sq|fail)
    exact hnext (.cons rfl (.cons rfl (.cons rfl (.cons rfl (.cons rfl (.cons rfl (.cons rfl (.cons rfl (.cons rfl (.cons rfl .nil)))))))))) (Keep.refl _ _) a15 (hskip rfl hno).1 (hskip rfl hno).2
   (have hrd0:=rF1;have hrd1:=rF2;have hrd2:=rPk;have hrd3:=rPa;have hrd4:=rPk1;have hrd5:=rPk2;have hrd6:=rPa1;have hrd7:=rPa2;repeat' first|with_reducible intro _|refine sv ?_|refine sc ?_ ?_<;>(intro h;try exact sz h)|(with_reducible first|apply zj|apply zi|apply zd);exact gd;exact rfl;exact rfl;(first|exact z3u _ _ (by omega) (by omega) _|exact z3x _ _ (by omega) (by omega) _)|(with_reducible first|apply za|apply z8|apply z5);exact gd;exact rfl;exact rfl;exact z5y (A:=A) (s:=s) hsp pla plk|refine sg ?_ ?_<;>(intro h;first|exact sz h|refine sy h ?_)|exact sq|fail)
   rename_i MA hgA leA n19 MB hnB eB1 eB2 MC huC eC aC
   have hgC:Grow M5 MC:=xg
   have hgMC:Grow M MC:=hgM5.trans hgC
   have hw6:firstL 2 so.1.length (.slice aL so.1.length fL 2) MC=some (so.1.flatMap ptc):=by
    obtain ⟨iL,oL,e,hr⟩:=(hL.grow hgMC).resolve_left (fun h=>by rw [h] at hL0;simp at hL0)
    subst e
    exact zn (enc:=ptc) (fun _ _=>rfl) hr
   have l19:=aC.2
   clear hgMC
   refine z0n (by exact gd) (b:=MC.next) (l:=[]) (l':=so.1) (enc:=ptc) (.inl ⟨rfl,rfl⟩) rfl rfl rfl hL0 (by simp;omega) rfl hw6 (fun _=>rfl) (fun _=>rfl) (Nat.le_refl _) ?_
   intro v1 MD hvD eD hkD
   have hgD:Grow MC MD:=hkD.to_grow (fun i hi=>hi.1)
   have leD:=hgD.le
   obtain ⟨a1,f1,es1,rfl⟩:=hvD.shape
   clear hkD
   (have hrd0:=rPk;repeat' first|with_reducible intro _|refine sv ?_|refine sc ?_ ?_<;>(intro h;try exact sz h)|refine sg ?_ ?_<;>(intro h;first|exact sz h|refine sy h ?_)|exact sq|fail)
   rename_i n123 ME hnE eE1 eE2
   have hgE:Grow MC ME:=hgD.trans hnE.grow
   have hvE:Vec MC.next 2 30 ptc ME (.slice a1 so.1.length f1 es1) so.1:=Or.imp id (fun ⟨i,z1,z2,z3⟩=>⟨i,z1,At.new_old hnE z2,z3⟩) hvD
   have hwE:firstL 2 1 (.slice (some (n123,0)) 1 true 2) ME=some ([pk].flatMap ptc):=zn (enc:=ptc) (l:=[pk]) (fun _ _=>rfl) (fun k hk=>zo (enc:=ptc) (l:=[pk]) (At.new_same hnE) (fun _ _=>rfl) hk)
   refine z0n (by exact gd) (l':=[pk]) hvE rfl rfl rfl (by simp) (by simp;omega) rfl hwE (fun _=>rfl) (fun _=>rfl) (by omega) ?_
   intro v2 MF hvF eF hkF
   have hgF:Grow MC MF:=Keep.to_grow' hgE hkF (fun i hi=>hi.1)
   have leF:=hkF.le
   clear hkF
   have hlso:(so.1 ++ [pk]).length=so.1.length+1:=by rw [List.length_append,List.length_singleton]
   rcases hvF with ⟨h0,_⟩|⟨p2,rfl,hp2,hp2b⟩
   ·rw [h0] at hlso;simp at hlso
   have hp2l:=hp2.2
   have aF:At MF n19 (.cells true [.slice none 0 true 0,I (so.2+stepsF s.speed pa pk+s.turn*trnF o (octF (pk.1 - pa.1) (pk.2 - pa.2))),.bool true] 102):=aC.grow hgF
   (repeat' first|with_reducible intro _|refine sv ?_|refine sc ?_ ?_<;>(intro h;try exact sz h)|(with_reducible first|apply zj|apply zi|apply zd);exact gd;exact rfl;exact rfl;exact z3x _ _ (by omega) (by omega) _|refine sg ?_ ?_<;>(intro h;first|exact sz h|refine sy h ?_)|exact sq|fail)
   rename_i MG huG eG aG MH huH eH aH
   have hkH:Keep (fun i=>i=n19) MF MH:=((Keep.refl (fun i=>i=n19) MF).upd huG (.inl rfl)).upd huH (.inl rfl)
   have hk5H:Keep (fun i=>i=n19) M5 MH:=((hgC.trans hgF).to_keep (fun i=>i=n19)).trans hkH (fun i hi=>.inl hi)
   have leH:=hkH.le
   have hbH:=hbest.keep hk5H (fun i h1 h2=>by omega)
   have hpH:=hp2.keep hkH (by omega)
   have hbt:=z6f (x:=some (so.1 ++ [pk],so.2+stepsF s.speed pa pk+s.turn*trnF o (octF (pk.1 - pa.1) (pk.2 - pa.2))+s.turn*trnF (octF (pk.1 - pa.1) (pk.2 - pa.2)) last)) (y:=be) ⟨rfl,rfl,some (p2,0),false,rfl,.inr ⟨p2,0,rfl,z0r hpH⟩⟩ hbH.d (fun p h=>by cases h;show (so.1 ++ [pk]).length<=1000;omega) (fun p h=>by have:=hbl p h;omega)
   have hcond:((pa ≠ pk /\ clearF s pa pk=true) /\ (k=to ∨ k < s.buoys.length)) /\ ¬ (k < s.buoys.length /\ k ∈ done):=⟨⟨hfr.1 hf,.inl hkt⟩,fun h=>hkb h.1⟩
   rw [if_pos hcond,if_pos hkt,z8q] at hst
   have r15:At MH n15 (.cells true [.slice ab nbb fb eb,I c,.bool b] 102):=a15.keep hk5H (by omega)
   generalize hxe:(some (so.1 ++ [pk],so.2+stepsF s.speed pa pk+s.turn*trnF o (octF (pk.1 - pa.1) (pk.2 - pa.2))+s.turn*trnF (octF (pk.1 - pa.1) (pk.2 - pa.2)) last):Option Psg)=xe at *
   have hpH2:=hpH.2
   clear hk5H hkH
   cases hbo:betO xe be with
   | true =>
    rw [hbo] at hbt hst
    rw [if_pos rfl] at hst
    (repeat' first|with_reducible intro _|refine sv ?_|refine sc ?_ ?_<;>(intro h;try exact sz h)|(with_reducible first|apply za|apply z8|apply z5);exact gd;exact rfl;exact rfl;exact hbt|refine sg ?_ ?_<;>(intro h;first|exact sz h|refine sy h ?_)|exact sq|fail)
    rename_i MI hgI leI MJ huJ eJ aJ
    have hkI:Keep (fun i=>i=n15) M5 MI:=((((hgC.trans hgF).to_keep (fun i=>i=n15)).upd huG (.inr (by omega))).upd huH (.inr (by omega))).grow hgI
    refine hnext (.cons rfl (.cons rfl (.cons rfl (.cons rfl (.cons rfl (.cons rfl (.cons rfl (.cons rfl (.cons rfl (.cons rfl .nil)))))))))) (hkI.upd huJ (.inl rfl)) aJ ?_ ?_
    ·rw [hst,<- hxe]
     exact ⟨rfl,rfl,p2,false,rfl,(hpH.grow hgI).upd_ne huJ (by omega),by omega⟩
    ·intro y hy
     rw [hst,<- hxe] at hy
     cases hy
     show (so.1 ++ [pk]).length<=100
     omega
   | false =>
    rw [hbo] at hbt hst
    rw [if_neg (by decide)] at hst
    (repeat' first|with_reducible intro _|refine sv ?_|refine sc ?_ ?_<;>(intro h;try exact sz h)|(with_reducible first|apply za|apply z8|apply z5);exact gd;exact rfl;exact rfl;exact hbt|refine sg ?_ ?_<;>(intro h;first|exact sz h|refine sy h ?_)|exact sq|fail)
    rename_i MI hgI leI
    have hkI:Keep (fun i=>i=n15) M5 MI:=((((hgC.trans hgF).to_keep (fun i=>i=n15)).upd huG (.inr (by omega))).upd huH (.inr (by omega))).grow hgI
    refine hnext (.cons rfl (.cons rfl (.cons rfl (.cons rfl (.cons rfl (.cons rfl (.cons rfl (.cons rfl (.cons rfl (.cons rfl .nil)))))))))) hkI (r15.grow hgI) ?_ ?_
    ·rw [hst]
     exact hbH.keep (hgI.to_keep (fun _=>False)) (fun _ _ _ h=>h)
    ·rw [hst];exact hbl
end Go.Proofs.YtpccafeedfpbaaaGreat.C
end
