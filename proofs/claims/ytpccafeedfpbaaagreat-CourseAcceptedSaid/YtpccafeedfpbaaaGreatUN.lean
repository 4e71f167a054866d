/-
 Part of the proof of CourseAccepted: what functions of the program and of the statement come to,walked by the rules. No condition beyond those in each theorem.
-/
import Derived.Test.YtpccafeedfpbaaaGreatUK
import Derived.Test.YtpccafeedfpbaaaGreatUS
section
open Go PvL Go.Proofs
set_option linter.unusedSimpArgs false
set_option linter.unusedVariables false
namespace Go.Proofs.YtpccafeedfpbaaaGreat.C
theorem zp6:∃ e,Tryz.prog.underlying 42=some (.slice e):=⟨50,by kernel_rfl⟩
instance:IsSl Tryz.prog 42:=⟨zp6⟩
abbrev shcc (c:Nat):List LV:=[I (c / 2:Nat),I (c % 2:Nat)]
theorem zes {b:Nat} {v:LV} {l:List Nat} {M:Mem} (hv:Vec b 2 50 shcc M v l) (hnil:l=[]->∀ i,v ≠ .slice (some (i,0)) 0 false 2) (hlen:l.length<=1000000) :
  CallOk Tryz.prog 66 [v] M (fun w M'=>Vec M.next 2 50 shcc M' w l /\ Grow M M'):=by
 refine z6 kq66 rfl ?_
 dsimp only [xq66,qm,qo,qq,qZ,qN,zipE,Nat.reduceAdd]
 rcases hv with ⟨rfl,rfl⟩|⟨i,rfl,ai,hb⟩
 ·(repeat' first|with_reducible intro _|refine sv ?_|refine sc ?_ ?_<;>(intro h;try exact sz h)|refine sg ?_ ?_<;>(intro h;first|exact sz h|refine sy h ?_)|exact sq|fail)
  (refine kf ?_)
  exact ⟨.nil,xg⟩
 ·by_cases h0:l=[]
  ·subst h0
   exact absurd rfl (hnil rfl i)
  have h0:0 < l.length:=List.length_pos_iff.2 h0
  (repeat' first|with_reducible intro _|refine sv ?_|refine sc ?_ ?_<;>(intro h;try exact sz h)|refine sg ?_ ?_<;>(intro h;first|exact sz h|refine sy h ?_)|exact sq|fail)
  rename_i n5 M1 hn5 e1 e2
  have hw:firstL 2 l.length (.slice (some (i,0)) l.length false 2) M1=some (l.flatMap shcc):=zn (enc:=shcc) (fun x _=>rfl) (fun k hk=>zo (enc:=shcc) (At.new_old hn5 ai) (fun x _=>rfl) hk)
  refine z7i (by exact gd) (old:=[]) rfl rfl rfl h0 (by omega) rfl rfl hw (z0a (fun x _=>rfl)) (.inr rfl) ?_
  intro n6 M2 hn6 e3 e4
  (repeat' first|with_reducible intro _|refine sv ?_|refine sc ?_ ?_<;>(intro h;try exact sz h)|refine sg ?_ ?_<;>(intro h;first|exact sz h|refine sy h ?_)|exact sq|fail)
  (refine kf ?_)
  exact ⟨.inr ⟨n6,by rw [Nat.zero_add];rfl,At.new_same hn6,by omega⟩,xg⟩
noncomputable def nextO (s:Cr) (e:Int):Nat->List Nat->Rch->Nat->Option (List Nat)
 | 0,l,x,left=>if left=0 then (if x.2=e then some l else none) else none
 | f+1,l,x,left=>if left=0 then (if x.2=e then some l else none) else
  (shootsL s left).findSome? fun c=>match goF s x c with
   | none=>none
   | some b=>if e < b.2 then none else nextO s e f (l ++ [c]) (rchF s c b.2) (restN left (c / 2))
abbrev bestV (nf ne np nx:Nat):LV:=.func (.func 65) [] [.ptr (some (nf,0)),.ptr (some (ne,0)),.ptr (some (np,0)),.ptr (some (nx,0))]
def BsPost (s:Cr) (pm pk nf b0:Nat) (o:Option (List Nat)) (M:Mem) (w:LV) (M':Mem):Prop :=
 Keep (fun i=>i=pm ∨ i=pk ∨ i=nf) M M' /\ KnM M' s pm /\ KcM M' s pk /\ ∃ u,At M' nf (.cells true [u] 42) /\ ((w=.bool true /\ ∃ r,o=some r /\ Vec b0 2 50 shcc M' u r) ∨ (w=.bool false /\ o=none))
structure BsPre (MB:Mem) (s:Cr) (pc pm pk nf ne np nx:Nat) (e:Int) (b0:Nat) (l:List Nat) (x:Rch) (left:Nat) (v:LV) (M:Mem):Prop where
 kp:Keep (fun i=>i=pm ∨ i=pk) MB M
 kn:KnM M s pm
 kc:KcM M s pk
 fo:∃ u,At M nf (.cells true [u] 42)
 en:At M ne (.cells true [I e] 3)
 pl:At M np (.cells true [.ptr (some (pc,0)),.map (some pk)] 109)
 nx:At M nx (.cells true [bestV nf ne np nx] 133)
 vec:Vec b0 2 50 shcc M v l
 nil:l=[]->∀ i,v ≠ .slice (some (i,0)) 0 false 2
 len:l.length+left<=100
 pos:PoseOk x.1
 tim:0<=x.2 /\ x.2<=5000000
set_option maxHeartbeats 8000000 in
theorem z5c {MB:Mem} {A:CrA} {s:Cr} {pc pm pk nf ne np nx b0:Nat} {e:Int} (hpl:PlM MB A s pc pm pk) (hs:CrOk s) (he:-1<=e /\ e<=5000000) (hnf:MB.next<=nf) {M:Mem} {l:List Nat} {x:Rch} {v:LV} (h:BsPre MB s pc pm pk nf ne np nx e b0 l x 0 v M) :
  CallOk Tryz.prog 65 [v,.agg (rchc x),I 0,.ptr (some (nf,0)),.ptr (some (ne,0)),.ptr (some (np,0)),.ptr (some (nx,0))] M (BsPost s pm pk nf b0 (if x.2=e then some l else none) M):=by
 obtain ⟨hk,hkn,hkc,⟨u,hf⟩,hen,hp,hx,hv,hnil,hlen,hpo,htm⟩:=h
 obtain ⟨ao,fo,eo,rfl⟩:=hv.shape
 have l1:=hf.2
 have l2:=hen.2
 have l3:=hkn.lt
 have l4:=hkc.lt
 have l5:=hkn.ne_at hf
 have l6:=hkc.ne_at hf
 have l7:ne ≠ nf:=fun h=>by subst h;exact absurd (z5t hf hen) (by decide)
 refine z6 kq65 rfl ?_
 dsimp only [xq65,qm,qf,ql,qL,qb,qe,qc,qB,qC,qg,qS,qo,qk,qK,qq,qZ,zipE,Nat.reduceAdd]
 (repeat' first|with_reducible intro _|refine sv ?_|refine sc ?_ ?_<;>(intro h;try exact sz h)|refine sg ?_ ?_<;>(intro h;first|exact sz h|refine sy h ?_)|exact sq|fail)
 rename_i n7 M1 hn7 e1 e2 n8 M2 hn8 e3 e4 n9 M3 hn9 e5 e6 n10 M4 hn10 e7 e8 M5 hu5 e9 a5 M6 hu6 e10 a6
 have hk6:Keep (fun i=>i=pm ∨ i=pk ∨ i=nf) M M6:=xk
 have hgo:∀ i,i < M.next->i ≠ nf->M6.get i=M.get i:=fun i hi hne=>by rw [zl hu6 (by omega),zl hu5 hne,hn10.grow.old i (by omega),hn9.grow.old i (by omega),hn8.grow.old i (by omega),hn7.grow.old i hi]
 have hv6:=Vec.keep_ne hv hk6 (fun i hi hf2=>hf2.elim (fun h=>hkn.ne_at hi h) (fun h=>h.elim (fun h=>hkc.ne_at hi h) (fun h=>by subst h;exact absurd (z5t hf hi) (by decide))))
 (refine kf ?_)
 refine ⟨hk6,hkn.at hk6.le (hgo _ (by omega) (by omega)),hkc.at hk6.le (hgo _ (by omega) (by omega)),_,xm,?_⟩
 by_cases hx:x.2=e
 ·rw [if_pos hx,decide_eq_true hx]
  exact .inl ⟨rfl,l,rfl,hv6⟩
 ·rw [if_neg hx,decide_eq_false hx]
  exact .inr ⟨rfl,rfl⟩
noncomputable def stepG (s:Cr) (e:Int) (G:List Nat->Rch->Nat->Option (List Nat)) (l:List Nat) (x:Rch) (left c:Nat):Option (List Nat) :=
 match goF s x c with|none=>none|some b=>if e < b.2 then none else G (l ++ [c]) (rchF s c b.2) (restN left (c / 2))
set_option maxHeartbeats 16000000 in
theorem zac {MB:Mem} {A:CrA} {s:Cr} {pc pm pk nf ne np nx b0:Nat} {e:Int} (G:List Nat->Rch->Nat->Option (List Nat)) (hpl:PlM MB A s pc pm pk) (hs:CrOk s) (he:-1<=e /\ e<=5000000) (hnf:MB.next<=nf) {left:Nat}
  (IH:∀ (M':Mem) (b':Nat) (l':List Nat) (x':Rch) (left':Nat) (v':LV),left' < left->b'<=M'.next->BsPre MB s pc pm pk nf ne np nx e b' l' x' left' v' M' ->
   CallOk Tryz.prog 65 [v',.agg (rchc x'),I left',.ptr (some (nf,0)),.ptr (some (ne,0)),.ptr (some (np,0)),.ptr (some (nx,0))] M' (BsPost s pm pk nf b' (G l' x' left') M'))
  {M:Mem} {l:List Nat} {x:Rch} {v:LV} (hb0:b0<=M.next) (hl0:left ≠ 0) (hl1:left < 2 ^ s.lines.length) (h:BsPre MB s pc pm pk nf ne np nx e b0 l x left v M) :
  CallOk Tryz.prog 65 [v,.agg (rchc x),I left,.ptr (some (nf,0)),.ptr (some (ne,0)),.ptr (some (np,0)),.ptr (some (nx,0))] M (BsPost s pm pk nf b0 ((shootsL s left).findSome? (stepG s e G l x left)) M):=by
 obtain ⟨hk,hkn,hkc,⟨u,hf⟩,hen,hp,hx,hv,hnil,hlen,hpo,htm⟩:=h
 obtain ⟨ao,fo,eo,rfl⟩:=hv.shape
 have hn5:=hs.n5
 have hp2:2 ^ s.lines.length<=32:=Nat.pow_le_pow_right (n:=2) (by omega) hn5
 have l1:=hf.2
 have l2:=hen.2
 have l3:=hkn.lt
 have l4:=hkc.lt
 have l5:=hkn.ne_at hf
 have l6:=hkc.ne_at hf
 have l7:ne ≠ nf:=fun h=>by subst h;exact absurd (z5t hf hen) (by decide)
 have l8:np ≠ nf:=fun h=>by subst h;exact absurd (z5t hf hp) (by decide)
 have l9:nx ≠ nf:=fun h=>by subst h;exact absurd (z5t hf hx) (by decide)
 have l10:=hp.2
 have l11:=hx.2
 have l12:=hkn.ne_at hen
 have l13:=hkc.ne_at hen
 have l14:=hkn.ne_at hp
 have l15:=hkc.ne_at hp
 have l16:=hkn.ne_at hx
 have l17:=hkc.ne_at hx
 refine z6 kq65 rfl ?_
 dsimp only [xq65,qm,qf,ql,qL,qb,qe,qc,qB,qC,qg,qS,qo,qk,qK,qq,qZ,zipE,Nat.reduceAdd]
 (repeat' first|with_reducible intro _|refine sv ?_|refine sc ?_ ?_<;>(intro h;try exact sz h)|refine sg ?_ ?_<;>(intro h;first|exact sz h|refine sy h ?_)|exact sq|fail)
 rename_i n7 M1 hn7 e1 e2 n8 M2 hn8 e3 e4 n9 M3 hn9 e5 e6 n10 M4 hn10 e7 e8
 have hg4:Grow M M4:=xg
 refine zk (by exact gd) rfl rfl (show AppOk Tryz.prog _ _ M4 _ from z3w (pc:=pc) (pk:=pk) (set:=(left:Int)) M4) ?_
 rintro w M5 ⟨np2,ns2,rfl,hg5,hp5,hs5,a5,b5⟩
 have hle5:=hg5.le
 have q1:=a5.2
 have q2:=b5.2
 (repeat' first|with_reducible intro _|refine sv ?_|refine sc ?_ ?_<;>(intro h;try exact sz h)|refine sg ?_ ?_<;>(intro h;first|exact sz h|refine sy h ?_)|exact sq|fail)
 apply z2r
 exact rfl
 intro lb d ll M6 M7 hlb hd e10 e11 hl e12 e13
 have hg47:Grow M4 M7:=(hg5.trans hd.grow).trans hl.grow
 have hg57:Grow M5 M7:=hd.grow.trans hl.grow
 have hg7:Grow M M7:=hg4.trans hg47
 have hle7:=hg7.le
 have hleK:=hk.le
 have b7:At M7 n7 (.cells true [.slice ao l.length fo eo] 42):=At.grow hg47 (xm)
 have b8:At M7 n8 (.cells true (rchc x) 114):=At.grow hg47 (xm)
 have b9:At M7 n9 (.cells true [I left] 3):=At.grow hg47 (xm)
 have b10:At M7 n10 (.cells true [.bool false] 4):=At.grow hg47 (xm)
 have bd:At M7 d .defr:=At.new_old hl (At.new_same hd)
 have hch7:=hpl.chc ((hk.grow hg7))
 have hy:=z4j (A:=A) (s:=s) (pc:=pc) (pm:=pm) (pk:=pk) (np:=np2) (ns:=ns2) (set:=left) (M0:=M7) hch7.cells (a5.grow hg57) (b5.grow hg57) hn5 (by omega)
 have k1:pm < MB.next:=hpl.ch.known.lt
 have k2:pk < MB.next:=hpl.kc.lt
 have hdne:d ≠ n10 /\ d ≠ nf /\ d ≠ pm /\ d ≠ pk /\ d ≠ ll /\ n10 < d /\ n10 ≠ ll /\ n10 ≠ nf /\ n10 ≠ pm /\ n10 ≠ pk:=by omega
 let KF:Nat->Prop:=fun i=>i=pm ∨ i=pk ∨ i=nf ∨ i=n10 ∨ i=ll
 refine (hy ll KF (fun dn T M'=>Keep (fun i=>i=pm ∨ i=pk ∨ i=nf ∨ i=ll) M7 M' /\ KnM M' s pm /\ KcM M' s pk /\ (∃ u,At M' nf (.cells true [u] 42)) /\ At M' ll (lb .ready none) /\ dn.findSome? (stepG s e G l x left)=none)
  (fun T M'=>Keep KF M7 M' /\ KnM M' s pm /\ KcM M' s pk /\ At M' n10 (.cells true [.bool true] 4) /\ At M' ll (lb .done (some .ret)) /\ ∃ u r,At M' nf (.cells true [u] 42) /\ (shootsL s left).findSome? (stepG s e G l x left)=some r /\ Vec M7.next 2 50 shcc M' u r /\ ∀ i o n f e,u=.slice (some (i,o)) n f e->T i) ⟨?_,?_,?_,?_⟩ ?_ ⟨Keep.refl _ _,hkn.at hg7.le (hg7.old _ l3),hkc.at hg7.le (hg7.old _ l4),⟨u,hf.grow hg7⟩,At.new_same hl,rfl⟩).mono ?_
 ·rintro i (rfl|rfl|rfl|rfl|rfl)<;>omega
 ·rintro dn T Mx My ⟨h1,h2,h3,⟨u',h4⟩,h5,h6⟩ hle hg
  have hgo:∀ i,i < M7.next->My.get i=Mx.get i:=fun i hi=>hg i (.inl ⟨hi,id⟩)
  exact ⟨⟨Nat.le_trans h1.le hle,fun i hi hf=>by rw [hgo i (by omega)];exact h1.old i hi hf⟩,h2.at hle (hgo _ (by omega)),h3.at hle (hgo _ (by omega)),⟨u',h4.same hle (hgo _ (by omega))⟩,h5.same hle (hgo _ (by omega)),h6⟩
 ·rintro T Mx My ⟨h1,h2,h3,h4,h5,u',r,h6,h7,h8,h9⟩ hle hg
  have hgo:∀ i,i < M7.next->My.get i=Mx.get i:=fun i hi=>hg i (.inl ⟨hi,id⟩)
  exact ⟨⟨Nat.le_trans h1.le hle,fun i hi hf=>by rw [hgo i (by omega)];exact h1.old i hi hf⟩,h2.at hle (hgo _ (by omega)),h3.at hle (hgo _ (by omega)),h4.same hle (hgo _ (by omega)),h5.same hle (hgo _ (by omega)),u',r,h6.same hle (hgo _ (by omega)),h7,h8.imp id (fun ⟨i,z1,z2,z3⟩=>⟨i,z1,z2.same hle (hg i (.inr (h9 _ _ _ _ _ z1))),z3⟩),h9⟩
 ·rintro dn c rest vv U T Mx hits ⟨rfl,hU⟩ hN0 hT hUd ⟨h1,h2,h3,⟨u',h4⟩,h5,h6⟩
  have hcm:=zr.1 (show c ∈ shootsL s left by rw [hits];simp)
  have hc2:c < 2*s.lines.length:=hcm.1
  have hle1:=h1.le
  have hlM:=h5.2
  have hkMx:Keep (fun i=>i=pm ∨ i=pk ∨ i=nf) M Mx:=(hg7.to_keep (fun i=>i=pm ∨ i=pk ∨ i=nf)).trans h1 (fun i hi=>(by
    rcases hi with hi|hi|hi|hi
    ·exact .inl (.inl hi)
    ·exact .inl (.inr (.inl hi))
    ·exact .inl (.inr (.inr hi))
    ·exact .inr (by omega)))
  have hvx:Vec b0 2 50 shcc Mx (.slice ao l.length fo eo) l:=Vec.keep_ne hv hkMx (fun i hi hf2=>hf2.elim (fun h=>hkn.ne_at hi h) (fun h=>h.elim (fun h=>hkc.ne_at hi h) (fun h=>by subst h;exact absurd (z5t hf hi) (by decide))))
  have x7:=b7.keep h1 (by omega)
  have x8:=b8.keep h1 (by omega)
  have x9:=b9.keep h1 (by omega)
  have xe:=hen.keep hkMx (by rintro (h|h|h);exact hkn.ne_at hen h;exact hkc.ne_at hen h;exact l7 h)
  have xp:=hp.keep hkMx (by rintro (h|h|h);exact hkn.ne_at hp h;exact hkc.ne_at hp h;exact l8 h)
  have xx:=hx.keep hkMx (by rintro (h|h|h);exact hkn.ne_at hx h;exact hkc.ne_at hx h;exact l9 h)
  have hkBx:Keep (fun i=>i=pm ∨ i=pk) MB Mx:=hk.trans hkMx (fun i hi=>by omega)
  have xch:=hpl.keepm hkBx h2 h3
  have r1:=h4.2
  have r2:=h2.lt
  have r3:=h3.lt
  have r4:=xe.2
  have r5:=xp.2
  have r6:=xx.2
  have r7:=x7.2
  have hgo:=fun M' (hg:Grow Mx M')=>zdb (x:=x) (c:=c) (xch.grow hg) hs hpo htm hc2
  refine z0h hlb h5 rfl ?_
  dsimp only [zipP]
  clear hgo
  (repeat' first|with_reducible intro _|refine sv ?_|refine sc ?_ ?_<;>(intro h;try exact sz h)|refine sg ?_ ?_<;>(intro h;first|exact sz h|refine sy h ?_)|exact sq|fail)
  rename_i n11 MA hnA e14 e15 MX huX e16 aX MC huC e17 aC
  have hkC:Keep (fun i=>i=ll) Mx MC:=xk
  have hleC:=hkC.le
  have xchC:PlM MC A s pc pm pk:=hpl.keepm (hkBx.trans hkC (fun i hi=>.inr (by omega))) (h2.at hleC (hkC.old _ r2 (by omega))) (h3.at hleC (hkC.old _ r3 (by omega)))
  have aXC:At MC n11 (.cells true (shcc c) 50):=xm
  refine zk (by exact gd) rfl rfl (show AppOk Tryz.prog _ _ MC _ from zdb (x:=x) (c:=c) xchC hs hpo htm hc2) ?_
  rintro w MD ⟨rfl,hkD,hknD,hkcD⟩
  have hleD:=hkD.le
  have hkxD:Keep (fun i=>i=pm ∨ i=pk ∨ i=ll) Mx MD:=(hkC.weaken (fun i hi=>.inr (.inr hi))).trans hkD (fun i hi=>.inl (hi.elim .inl (fun h=>.inr (.inl h))))
  have hkMD:Keep (fun i=>i=pm ∨ i=pk ∨ i=nf) M MD:=hkMx.trans hkxD (fun i hi=>by omega)
  have hkBD:Keep (fun i=>i=pm ∨ i=pk) MB MD:=hkBx.trans hkxD (fun i hi=>by omega)
  have hvD:Vec b0 2 50 shcc MD (.slice ao l.length fo eo) l:=Vec.keep_ne hv hkMD (fun i hi hf2=>hf2.elim (fun h=>hkn.ne_at hi h) (fun h=>h.elim (fun h=>hkc.ne_at hi h) (fun h=>by subst h;exact absurd (z5t hf hi) (by decide))))
  have y7:=x7.keep hkxD (by omega)
  have y8:=x8.keep hkxD (by omega)
  have y9:=x9.keep hkxD (by omega)
  have ye:=xe.keep hkxD (by omega)
  have yp:=xp.keep hkxD (by omega)
  have yx:=xx.keep hkxD (by omega)
  have yf:=h4.keep hkxD (by omega)
  have yl:=aC.keep hkD (by omega)
  have y11:=aXC.keep hkD (by omega)
  have y10:=(b10.keep h1 (by omega)).keep hkxD (by omega)
  have yd:=(bd.keep h1 (by omega)).keep hkxD (by omega)
  have hs7:(dn ++ [c]).findSome? (stepG s e G l x left)=stepG s e G l x left c:=by rw [List.findSome?_append,h6];show Option.or none _=_;rw [Option.none_or,List.findSome?_cons];cases stepG s e G l x left c<;>rfl
  have hs8:∀ r,stepG s e G l x left c=some r->(shootsL s left).findSome? (stepG s e G l x left)=some r:=fun r hr=>by rw [hits,List.findSome?_append,h6,List.findSome?_cons,hr];rfl
  have hskip:∀ {MF MG:Mem},Keep (fun i=>False) MD MF->Upd MF ll (lb .ready none) MG->At MG ll (lb .ready none)->stepG s e G l x left c=none ->
    Keep (fun i=>KF i ∨ T i ∨ U i) Mx MG /\ ∃ T':Nat->Prop,(∀ i,T' i->(T i ∨ U i ∨ Mx.next<=i) /\ i < MG.next) /\ ((LV.bool true=.bool true /\ Keep (fun i=>i=pm ∨ i=pk ∨ i=nf ∨ i=ll) M7 MG /\ KnM MG s pm /\ KcM MG s pk /\ (∃ u,At MG nf (.cells true [u] 42)) /\ At MG ll (lb .ready none) /\ (dn ++ [c]).findSome? (stepG s e G l x left)=none) ∨ (LV.bool true=.bool false /\
     (Keep KF M7 MG /\ KnM MG s pm /\ KcM MG s pk /\ At MG n10 (.cells true [.bool true] 4) /\ At MG ll (lb .done (some .ret)) /\ ∃ u r,At MG nf (.cells true [u] 42) /\ (shootsL s left).findSome? (stepG s e G l x left)=some r /\ Vec M7.next 2 50 shcc MG u r /\ ∀ i o n f e,u=.slice (some (i,o)) n f e->T' i))):=by
   intro MF MG hkF huG aG hst
   have hkG:Keep (fun i=>i=ll) MD MG:=(hkF.weaken (fun i hi=>hi.elim)).upd huG (.inl rfl)
   have hkxG:Keep (fun i=>i=pm ∨ i=pk ∨ i=nf ∨ i=ll) Mx MG:=(hkxD.weaken (fun i hi=>by omega)).trans hkG (fun i hi=>by omega)
   have z1:=hknD.lt
   have z2:=hkcD.lt
   exact ⟨hkxG.weaken (fun i hi=>.inl (by show i=pm ∨ i=pk ∨ i=nf ∨ i=n10 ∨ i=ll;omega)),fun _=>False,fun i hi=>hi.elim,.inl ⟨rfl,h1.trans hkxG (fun i hi=>.inl hi),hknD.at hkG.le (hkG.old _ z1 (by omega)),hkcD.at hkG.le (hkG.old _ z2 (by omega)),⟨u',yf.keep hkG (by omega)⟩,aG,by rw [hs7,hst]⟩⟩
  cases hgf:goF s x c with
  | none =>
   (repeat' first|with_reducible intro _|refine sv ?_|refine sc ?_ ?_<;>(intro h;try exact sz h)|refine sg ?_ ?_<;>(intro h;first|exact sz h|refine sy h ?_)|exact sq|fail)
   rename_i n12 ME hnE e18 e19 MF huF e20 aF MG huG e21 aG
   exact hskip (xk) huG aG (by unfold stepG;rw [hgf])
  | some b =>
   have hgb:=z6v hs (z29 hc2) hgf
   have hbe:((some b).getD (0,0)).2=b.2:=rfl
   by_cases heb:e < b.2
   ·(repeat' first|with_reducible intro _|refine sv ?_|refine sc ?_ ?_<;>(intro h;try exact sz h)|refine sg ?_ ?_<;>(intro h;first|exact sz h|refine sy h ?_)|exact sq|fail)
    all_goals try (exfalso;omega)
    rename_i n12 ME hnE e18 e19 MF huF e20 aF MG huG e21 aG
    exact hskip (xk) huG aG (by unfold stepG;rw [hgf];exact if_pos heb)
   ·(repeat' first|with_reducible intro _|refine sv ?_|refine sc ?_ ?_<;>(intro h;try exact sz h)|refine sg ?_ ?_<;>(intro h;first|exact sz h|refine sy h ?_)|exact sq|fail)
    all_goals try (exfalso;omega)
    rename_i n12 ME hnE e18 e19 MF huF e20 aF
    have hkF:Keep (fun i=>False) MD MF:=xk
    have hleF:=hkF.le
    have hvF:Vec b0 2 50 shcc MF (.slice ao l.length fo eo) l:=Vec.keep_ne hvD hkF (fun i hi h=>h)
    refine zu (by exact gd) rfl rfl (show AppOk Tryz.prog _ _ MF _ from zes hvF hnil (by omega)) ?_
    rintro w MG ⟨hvG,hgG⟩
    have hleG:=hgG.le
    obtain ⟨ag,fg,eg,rfl⟩:=Vec.shape hvG
    have w11:At MG n11 (.cells true (shcc c) 50):=(y11.keep hkF (fun h=>h)).grow hgG
    have w12:At MG n12 (.cells true [I b.1,I b.2] 26):=aF.grow hgG
    (repeat' first|with_reducible intro _|refine sv ?_|refine sc ?_ ?_<;>(intro h;try exact sz h)|refine sg ?_ ?_<;>(intro h;first|exact sz h|refine sy h ?_)|exact sq|fail)
    rename_i n44 MH hnH e22 e23
    have hvH:Vec MF.next 2 50 shcc MH (.slice ag l.length fg eg) l:=Or.imp id (fun ⟨i,z1,z2,z3⟩=>⟨i,z1,At.new_old hnH z2,z3⟩) hvG
    have hwH:firstL 2 1 (.slice (some (n44,0)) 1 true 2) MH=some ([c].flatMap shcc):=zn (enc:=shcc) (l:=[c]) (fun _ _=>rfl) (fun k hk=>zo (enc:=shcc) (l:=[c]) (At.new_same hnH) (fun _ _=>rfl) hk)
    refine z0n (by exact gd) (l':=[c]) hvH rfl rfl rfl (by simp) (by rw [List.length_singleton];omega) rfl hwH (fun _=>rfl) (fun _=>rfl) (by omega) ?_
    intro v45 MI hvI e24 hkI
    have hleI:=hkI.le
    have hkDI:Keep (fun i=>False) MD MI:=((hkF.grow hgG).new hnH).trans hkI (fun i hi=>.inr (by omega))
    have z9:=y9.keep hkDI (fun h=>h)
    have z11:=y11.keep hkDI (fun h=>h)
    have zp:=yp.keep hkDI (fun h=>h)
    have zx:=yx.keep hkDI (fun h=>h)
    have z12:At MI n12 (.cells true [I b.1,I b.2] 26):=(At.new_old hnH w12).keep hkI (fun h=>by have:=w12.2;omega)
    have hkBI:Keep (fun i=>i=pm ∨ i=pk) MB MI:=hkBD.trans hkDI (fun i hi=>hi.elim)
    have haf:=fun M' (hg:Grow MI M')=>z8y (pk:=pk) (c:=c) (t:=b.2) ((hpl.chc hkBI).grow hg) hs hc2
    have hsb:=z08 (k:=c / 2) (by omega)
    (repeat' first|with_reducible intro _|refine sv ?_|refine sc ?_ ?_<;>(intro h;try exact sz h)|(with_reducible first|apply za|apply z8|apply z5);exact gd;exact rfl;exact rfl;exact haf _ (xg)|refine sg ?_ ?_<;>(intro h;first|exact sz h|refine sy h ?_)|exact sq|fail)
    rename_i MJ hgJ hleJ
    have hkDJ:=hkDI.grow hgJ
    have hkBJ:=hkBI.grow hgJ
    have hvJ:Vec MF.next 2 50 shcc MJ v45 (l ++ [c]):=Or.imp id (fun ⟨i,z1,z2,z3⟩=>⟨i,z1,z2.grow hgJ,z3⟩) hvI
    have hrl:=z4y hcm.2
    have hmd:=hknD.lt
    have hkd:=hkcD.lt
    have hih:=IH MJ MF.next (l ++ [c]) (rchF s c b.2) (restN left (c / 2)) v45 hrl (by omega) ⟨hkBJ,hknD.at hkDJ.le (hkDJ.old _ hmd (fun h=>h)),hkcD.at hkDJ.le (hkDJ.old _ hkd (fun h=>h)),⟨u',yf.keep hkDJ (fun h=>h)⟩,ye.keep hkDJ (fun h=>h),yp.keep hkDJ (fun h=>h),yx.keep hkDJ (fun h=>h),hvJ,fun h=>by simp at h,by rw [List.length_append,List.length_singleton];omega,z9a hs (z29 hc2),by show 0<=b.2 /\ b.2<=5000000;omega⟩
    rw [<-za2 left (c / 2)] at hih
    have q9:=(yl.keep hkDJ (fun h=>h)).2
    have q10:=(y10.keep hkDJ (fun h=>h)).2
    have qd:=(yd.keep hkDJ (fun h=>h)).2
    have hleDJ:=hkDJ.le
    have hstep:stepG s e G l x left c=G (l ++ [c]) (rchF s c b.2) (restN left (c / 2)):=by unfold stepG;rw [hgf];exact if_neg heb
    refine zu (by exact gd) rfl rfl (show AppOk Tryz.prog (bestV nf ne np nx) _ MJ _ from hih) ?_
    rintro w MK ⟨hkK,hknK,hkcK,u2,hfK,hres⟩
    have hleKK:=hkK.le
    have hlK:=(yl.keep hkDJ (fun h=>h)).keep hkK (by omega)
    have h10K:=(y10.keep hkDJ (fun h=>h)).keep hkK (by omega)
    have hdK:=(yd.keep hkDJ (fun h=>h)).keep hkK (by omega)
    have qm:=hknK.lt
    have qk:=hkcK.lt
    have qf:=hfK.2
    have hkxK:Keep (fun i=>i=pm ∨ i=pk ∨ i=nf ∨ i=ll) Mx MK:=((hkxD.weaken (fun i hi=>by omega)).trans hkDJ (fun i hi=>hi.elim)).trans hkK (fun i hi=>by omega)
    have hlenx:Mx.next<=MF.next:=by omega
    rcases hres with ⟨rfl,r,hr,hvK⟩|⟨rfl,hr⟩
    ·(repeat' first|with_reducible intro _|refine sv ?_|refine sc ?_ ?_<;>(intro h;try exact sz h)|refine sg ?_ ?_<;>(intro h;first|exact sz h|refine sy h ?_)|exact sq|fail)
     rename_i MP huP e25 aP MQ huQ e26 aQ
     have hkP:Keep (fun i=>i=n10 ∨ i=ll) MK MQ:=((Keep.refl _ MK).upd huP (.inl (.inl rfl))).upd huQ (.inl (.inr rfl))
     have hkxQ:Keep KF Mx MQ:=(hkxK.weaken (fun i hi=>by show i=pm ∨ i=pk ∨ i=nf ∨ i=n10 ∨ i=ll;omega)).trans hkP (fun i hi=>.inl (by show i=pm ∨ i=pk ∨ i=nf ∨ i=n10 ∨ i=ll;omega))
     refine ⟨hkxQ.weaken (fun i hi=>.inl hi),fun i=>∃ o n f e,u2=.slice (some (i,o)) n f e,fun i hi=>?_,.inr ⟨rfl,(h1.weaken (fun i hi=>by show i=pm ∨ i=pk ∨ i=nf ∨ i=n10 ∨ i=ll;omega)).trans hkxQ (fun i hi=>.inl hi),hknK.at hkP.le (hkP.old _ qm (by omega)),hkcK.at hkP.le (hkP.old _ qk (by omega)),aP.upd_ne huQ (by omega),aQ,u2,r,hfK.keep hkP (by omega),hs8 r (by rw [hstep];exact hr),Or.imp id (fun ⟨i,z1,z2,z3⟩=>⟨i,z1,z2.keep hkP (by omega),by omega⟩) hvK,fun i o n f e h=>⟨o,n,f,e,h⟩⟩⟩
     obtain ⟨o,n,f,e',h⟩:=hi
     rcases hvK with ⟨_,z1⟩|⟨i',z1,z2,z3⟩
     ·rw [z1] at h;cases h
     ·rw [z1] at h;cases h
      have:=z2.2
      exact ⟨.inr (.inr (by omega)),by omega⟩
    ·(repeat' first|with_reducible intro _|refine sv ?_|refine sc ?_ ?_<;>(intro h;try exact sz h)|refine sg ?_ ?_<;>(intro h;first|exact sz h|refine sy h ?_)|exact sq|fail)
     rename_i MQ huQ e26 aQ
     have hkP:Keep (fun i=>i=ll) MK MQ:=(Keep.refl _ MK).upd huQ (.inl rfl)
     have hkxQ:Keep (fun i=>i=pm ∨ i=pk ∨ i=nf ∨ i=ll) Mx MQ:=hkxK.trans hkP (fun i hi=>by omega)
     exact ⟨hkxQ.weaken (fun i hi=>.inl (by show i=pm ∨ i=pk ∨ i=nf ∨ i=n10 ∨ i=ll;omega)),fun _=>False,fun i hi=>hi.elim,.inl ⟨rfl,h1.trans hkxQ (fun i hi=>.inl hi),hknK.at hkP.le (hkP.old _ qm (by omega)),hkcK.at hkP.le (hkP.old _ qk (by omega)),⟨u2,hfK.keep hkP (by omega)⟩,aQ,by rw [hs7,hstep];exact hr⟩⟩
 ·rintro i (rfl|rfl|rfl) (hi|hi|hi|hi|hi)
  all_goals first
   | omega
   |(exact absurd hi hpl.ch.ne)
   |(exact absurd hi hpl.nc)
   |(have:=hpl.ch.cells.2;omega)
 ·rintro v M8 ⟨hk8,_,T8,hT8,⟨h1,h2,h3,⟨u',h4⟩,h5,h6⟩|⟨h1,h2,h3,h4,h5,u',r,h6,h7,h8,h9⟩⟩
  ·have hd8:At M8 d .defr:=bd.keep h1 (by omega)
   have c10:At M8 n10 (.cells true [.bool false] 4):=b10.keep h1 (by omega)
   have r1:=h4.2
   have r2:=h2.lt
   have r3:=h3.lt
   have r4:=c10.2
   have r5:=hd8.2
   refine z2b h5 (by simp) fun M9 hu9 e14 a9=>?_
   (repeat' first|with_reducible intro _|refine sv ?_|refine sc ?_ ?_<;>(intro h;try exact sz h)|refine sg ?_ ?_<;>(intro h;first|exact sz h|refine sy h ?_)|exact sq|fail)
   rename_i M10 hu10 e15 a10
   refine zq (.inr rfl) (by simp) (fun d' hd'=>by obtain rfl:=List.mem_singleton.1 hd';exact xm) fun M11 hm=>?_
   have hk11:Keep (fun i=>i=ll ∨ i=n10 ∨ i=d) M8 M11:=(((Keep.refl _ M8).upd hu9 (.inl (.inl rfl))).upd hu10 (.inl (.inr (.inl rfl)))).unmark hm (fun d' hd'=>by obtain rfl:=List.mem_singleton.1 hd';exact .inl (.inr (.inr rfl)))
   have d10:At M11 n10 (.cells true [.bool false] 4):=by
    have hku:Keep (fun i=>i=d) M10 M11:=(Keep.refl _ M10).unmark hm (fun d' hd'=>by obtain rfl:=List.mem_singleton.1 hd';exact .inl rfl)
    exact a10.keep hku (by omega)
   have hkM:Keep (fun i=>i=pm ∨ i=pk ∨ i=nf) M M11:=((hg7.to_keep (fun i=>i=pm ∨ i=pk ∨ i=nf)).trans h1 (fun i hi=>(by
    rcases hi with hi|hi|hi|hi
    ·exact .inl (.inl hi)
    ·exact .inl (.inr (.inl hi))
    ·exact .inl (.inr (.inr hi))
    ·exact .inr (by omega)))).trans hk11 (fun i hi=>.inr (by omega))
   exact ⟨_,.cell1 rfl (Rd1.of_at d10 rfl).1 .nil,hkM,h2.at hk11.le (hk11.old _ r2 (by omega)),h3.at hk11.le (hk11.old _ r3 (by omega)),u',h4.keep hk11 (by omega),.inr ⟨rfl,h6⟩⟩
  ·have hd8:At M8 d .defr:=bd.keep h1 (by omega)
   have r1:=h6.2
   have r2:=h2.lt
   have r3:=h3.lt
   have r4:=h4.2
   have r5:=hd8.2
   refine z15 h5 (by simp) fun M9 hu9 e14 a9=>?_
   (repeat' first|with_reducible intro _|refine sv ?_|refine sc ?_ ?_<;>(intro h;try exact sz h)|refine sg ?_ ?_<;>(intro h;first|exact sz h|refine sy h ?_)|exact sq|fail)
   refine zq (.inr rfl) (by simp) (fun d' hd'=>by obtain rfl:=List.mem_singleton.1 hd';exact xm) fun M11 hm=>?_
   have hk11:Keep (fun i=>i=ll ∨ i=d) M8 M11:=((Keep.refl _ M8).upd hu9 (.inl (.inl rfl))).unmark hm (fun d' hd'=>by obtain rfl:=List.mem_singleton.1 hd';exact .inl (.inr rfl))
   have hkM:Keep (fun i=>i=pm ∨ i=pk ∨ i=nf) M M11:=((hg7.to_keep (fun i=>i=pm ∨ i=pk ∨ i=nf)).trans h1 (fun i hi=>(by
    rcases hi with hi|hi|hi|hi|hi
    ·exact .inl (.inl hi)
    ·exact .inl (.inr (.inl hi))
    ·exact .inl (.inr (.inr hi))
    ·exact .inr (by omega)
    ·exact .inr (by omega)))).trans hk11 (fun i hi=>.inr (by omega))
   have hfin:Vec b0 2 50 shcc M11 u' r:=h8.imp id (fun ⟨i,z1,z2,z3⟩=>⟨i,z1,z2.keep hk11 (by omega),by omega⟩)
   exact ⟨_,.cell1 rfl (Rd1.of_at (h4.keep hk11 (by omega)) rfl).1 .nil,hkM,h2.at hk11.le (hk11.old _ r2 (by omega)),h3.at hk11.le (hk11.old _ r3 (by omega)),u',h6.keep hk11 (by omega),.inl ⟨rfl,r,h7,hfin⟩⟩
theorem z52 (s:Cr) (e:Int) (f:Nat) (l:List Nat) (x:Rch) (left:Nat) (h:left ≠ 0):nextO s e (f+1) l x left=(shootsL s left).findSome? (stepG s e (nextO s e f) l x left):=by
 show (if left=0 then _ else _)=_
 rw [if_neg h]
 congr 1
theorem zm5 {MB:Mem} {A:CrA} {s:Cr} {pc pm pk nf ne np nx:Nat} {e:Int} (hpl:PlM MB A s pc pm pk) (hs:CrOk s) (he:-1<=e /\ e<=5000000) (hnf:MB.next<=nf) :
  ∀ (f:Nat) (M:Mem) (b0:Nat) (l:List Nat) (x:Rch) (left:Nat) (v:LV),left<=f->left < 2 ^ s.lines.length->b0<=M.next->BsPre MB s pc pm pk nf ne np nx e b0 l x left v M ->
  CallOk Tryz.prog 65 [v,.agg (rchc x),I left,.ptr (some (nf,0)),.ptr (some (ne,0)),.ptr (some (np,0)),.ptr (some (nx,0))] M (BsPost s pm pk nf b0 (nextO s e f l x left) M):=by
 intro f
 induction f with
 | zero =>
  intro M b0 l x left v hf _ hb h
  obtain rfl:left=0:=by omega
  exact z5c hpl hs he hnf h
 | succ f ih =>
  intro M b0 l x left v hf hl hb h
  by_cases h0:left=0
  ·subst h0
   exact z5c hpl hs he hnf h
  ·rw [z52 s e f l x left h0]
   exact zac (nextO s e f) hpl hs he hnf (fun M' b' l' x' left' v' hlt hb' h'=>ih M' b' l' x' left' v' (by omega) (by omega) hb' h') hb h0 hl h
noncomputable def allN (s:Cr):Nat:=2 ^ s.lines.length - 1
noncomputable def endS (s:Cr) (e:Int) (c:Nat):Int:=if 0<=TT s (allN s) c /\ (e < 0 ∨ TT s (allN s) c < e) then TT s (allN s) c else e
noncomputable def endB (s:Cr):Int:=(shootsL s (allN s)).foldl (endS s) (-1)
theorem zh4 {s:Cr} (hs:CrOk s):∀ (l:List Nat) (e:Int),(-1<=e /\ e<=1048576)->(∀ c ∈ l,c < 2*s.lines.length)->-1<=l.foldl (endS s) e /\ l.foldl (endS s) e<=1048576
 | [],e,h,_=>h
 | c :: l,e,h,hl=>by
  rw [List.foldl_cons]
  refine zh4 hs l _ ?_ fun d hd=>hl d (List.mem_cons_of_mem _ hd)
  have hb:-1<=TT s (allN s) c /\ TT s (allN s) c<=1048576:=by
   have h1:plN s (allN s) c < (tabF s).length:=by rw [z53];exact z7u (by unfold allN;have:=Nat.two_pow_pos s.lines.length;omega) (hl c (List.mem_cons_self ..))
   unfold TT
   rw [ze h1]
   exact (TbOk.rows hs _).2 _ (List.getElem_mem h1)
  unfold endS
  split
  ·exact hb
  ·exact h
set_option maxHeartbeats 16000000 in
theorem znw {A:CrA} {s:Cr} {M:Mem} (hM:CrM M A s):CallOk Tryz.prog 19 [crv A s] M (fun v M'=>Grow M M' /\ ((¬ CrOk s /\ v=.tup [.slice none 0 true 0,I 0,I 40]) ∨ (CrOk s /\ endB s < 0 /\ v=.tup [.slice none 0 true 0,I 0,I 4]) ∨
  (CrOk s /\ 0<=endB s /\ ∃ u,v=.tup [u,I (endB s),I 0] /\ ∀ r,nextO s (endB s) (allN s) [] (startR s) (allN s)=some r->Vec M.next 2 50 shcc M' u r))):=by
 refine z6 kq19 rfl ?_
 dsimp only [xq19,qm,qf,ql,qL,qi,qb,qe,qc,qa,qn,qC,qg,qS,qo,qk,qK,qq,qZ,qN,zipE,Nat.reduceAdd]
 have hc:=fun M' (hg:Grow M M')=>z5x (hM.grow hg)
 (repeat' first|with_reducible intro _|refine sv ?_|refine sc ?_ ?_<;>(intro h;try exact sz h)|(with_reducible first|apply zk|apply zu|apply z00);exact gd;exact rfl;exact rfl;exact hc _ (xg)|refine sg ?_ ?_<;>(intro h;first|exact sz h|refine sy h ?_)|exact sq|fail)
 rename_i n1 M1 hn1 e1 e2 n3 M2 hn3 e3 e4 w M3 hq
 obtain ⟨hg3,⟨hno,pk,rfl⟩|⟨hok,pc,pm,pk,rfl,hpl,h1,h2,h3⟩⟩:=hq
 ·have hle3:=hg3.le
  (repeat' first|with_reducible intro _|refine sv ?_|refine sc ?_ ?_<;>(intro h;try exact sz h)|refine sg ?_ ?_<;>(intro h;first|exact sz h|refine sy h ?_)|exact sq|fail)
  (refine kf ?_)
  exact ⟨xg,.inl ⟨hno,rfl⟩⟩
 ·have hle3:=hg3.le
  have hpm:=hpl.ch.known.lt
  have hpk:=hpl.kc.lt
  have hcell:=hpl.ch.cells
  have hpc:=hcell.2
  have hn5:=hok.n5
  have hn1':=hok.n1
  have hp2:2 ^ s.lines.length<=32:=Nat.pow_le_pow_right (n:=2) (by omega) hn5
  have hsb:=z08 (k:=s.lines.length) (by omega)
  have hall:shlZ 1 (s.lines.length:Int) - 1=((allN s:Nat):Int):=by rw [z1c];unfold allN;have:=Nat.two_pow_pos s.lines.length;omega
  (repeat' first|with_reducible intro _|refine sv ?_|refine sc ?_ ?_<;>(intro h;try exact sz h)|refine sg ?_ ?_<;>(intro h;first|exact sz h|refine sy h ?_)|exact sq|fail)
  rename_i n5 M4 hn5' e5 e6 M5 hu5 e7 a5 n6 M6 hn6 e8 e9 M7 hu7 e10 a7
  have hg7:Grow M3 M7:=xg
  have b5:At M7 n5 (.cells true [.ptr (some (pc,0)),.map (some pk)] 109):=xm
  have b3:At M7 n3 (.cells true [I 0] 3):=xm
  have b6:At M7 n6 (.cells true [I (allN s:Nat)] 3):=by rw [<-hall];exact a7
  have hle7:=hg7.le
  have hn3M:n3 < M3.next:=by omega
  refine zk (by exact gd) rfl rfl (show AppOk Tryz.prog _ _ M7 _ from zmi (hpl.grow hg7) hok) ?_
  rintro w M8 ⟨hk8,hkn8,hkc8,iT,rfl,hiT,aT⟩
  have hle8:=hk8.le
  have c5:=b5.keep hk8 (by omega)
  have c3:=b3.keep hk8 (by omega)
  have c6:=b6.keep hk8 (by omega)
  have q1:=aT.2
  have q2:=hkn8.lt
  have q3:=hkc8.lt
  (repeat' first|with_reducible intro _|refine sv ?_|refine sc ?_ ?_<;>(intro h;try exact sz h)|refine sg ?_ ?_<;>(intro h;first|exact sz h|refine sy h ?_)|exact sq|fail)
  rename_i n7 M9 hn9 e11 e12 M10 hu10 e13 a10 M11 hu11 e14 a11
  have hk811:Keep (fun i=>i=n3) M8 M11:=xk
  refine zk (by exact gd) rfl rfl (show AppOk Tryz.prog _ _ M11 _ from z3w (pc:=pc) (pk:=pk) (set:=((allN s:Nat):Int)) M11) ?_
  rintro w M12 ⟨np2,ns2,rfl,hg12,hp12,hs12,a12,b12⟩
  have hle12:=hg12.le
  have q4:=a12.2
  have q5:=b12.2
  (repeat' first|with_reducible intro _|refine sv ?_|refine sc ?_ ?_<;>(intro h;try exact sz h)|refine sg ?_ ?_<;>(intro h;first|exact sz h|refine sy h ?_)|exact sq|fail)
  apply z2r
  exact rfl
  intro lb d l M13 M14 hlb hd e15 e16 hl e17 e18
  have hg14:Grow M11 M14:=(hg12.trans hd.grow).trans hl.grow
  have hg1214:Grow M12 M14:=hd.grow.trans hl.grow
  have hle14:=hg14.le
  have hle811:=hk811.le
  have hk814:Keep (fun i=>i=n3) M8 M14:=hk811.grow hg14
  have d5:=c5.keep hk814 (by omega)
  have d6:=c6.keep hk814 (by omega)
  have dT:=aT.keep hk814 (by omega)
  have d3:At M14 n3 (.cells true [I (-1)] 3):=a11.grow hg14
  have d7:At M14 n7 (.cells true [.slice (some (iT,0)) (tabF s).length true 1] 52):=At.grow hg14 (xm)
  have hkn14:=hkn8.at hk814.le (hk814.old _ q2 (by omega))
  have hkc14:=hkc8.at hk814.le (hk814.old _ q3 (by omega))
  have bd:At M14 d .defr:=At.new_old hl (At.new_same hd)
  have hk314:Keep (fun i=>i=pm ∨ i=pk ∨ i=n3) M3 M14:=(((hg7.to_keep (fun i=>i=pm ∨ i=pk ∨ i=n3)).trans hk8 (fun i hi=>by omega))).trans hk814 (fun i hi=>by omega)
  have z1:=hpl.ch.ne
  have z2:=hpl.nc
  have z3:=hpl.nm
  have hg03:Grow M M3:=xg
  have hle03:=hg03.le
  have hg014:Grow M M14:=Keep.to_grow' hg03 hk314 (fun i hi=>by omega)
  have hC14:At M14 pc (.cells true (chc A s pm) 128):=hcell.keep hk314 (by omega)
  have q6:=hC14.2
  have hy:=z4j (A:=A) (s:=s) (pc:=pc) (pm:=pm) (pk:=pk) (np:=np2) (ns:=ns2) (set:=allN s) (M0:=M14) hC14 (a12.grow hg1214) (b12.grow hg1214) hn5 (by unfold allN;omega)
  have htl:(tabF s).length=2*s.lines.length*2 ^ s.lines.length:=z53 s
  have hTb:TbOk s (tabF s):=TbOk.rows hok _
  have hN:2*s.lines.length*2 ^ s.lines.length<=10*32:=Nat.mul_le_mul (by omega) hp2
  refine (hy l (fun i=>i=n3 ∨ i=l) (fun dn T M'=>Keep (fun i=>i=n3 ∨ i=l) M14 M' /\ At M' n3 (.cells true [I (dn.foldl (endS s) (-1))] 3) /\ At M' l (lb .ready none)) (fun _ _=>False) ⟨?_,?_,fun T M M' h=>h.elim,?_⟩ ?_ ⟨Keep.refl _ _,d3,At.new_same hl⟩).mono ?_
  ·rintro i (rfl|rfl)<;>omega
  ·rintro dn T Mx My ⟨h1,h2,h3⟩ hle hg
   have hgo:∀ i,i < M14.next->My.get i=Mx.get i:=fun i hi=>hg i (.inl ⟨hi,id⟩)
   exact ⟨⟨Nat.le_trans h1.le hle,fun i hi hf=>by rw [hgo i (by omega)];exact h1.old i hi hf⟩,h2.same hle (hgo _ (by omega)),h3.same hle (hgo _ (by omega))⟩
  ·rintro dn c rest vv U T Mx hits ⟨rfl,hU⟩ hN0 hT hUd ⟨k1,k2,k3⟩
   have hcm:=zr.1 (show c ∈ shootsL s (allN s) by rw [hits];simp)
   have hc2:c < 2*s.lines.length:=hcm.1
   have hidx:plN s (allN s) c < (tabF s).length:=by rw [htl];exact z7u (by unfold allN;have:=Nat.two_pow_pos s.lines.length;omega) hc2
   have aTx:=dT.keep k1 (by omega)
   have rT:Rd1 Mx iT (0+plN s (allN s) c*1) (I (tabF s)[plN s (allN s) c]):=(zo (enc:=intz) aTx (fun _ _=>rfl) hidx).nth (j:=0) rfl
   have hTT:TT s (allN s) c=(tabF s)[plN s (allN s) c]:=ze hidx
   have hub:=hTb.2 _ (List.getElem_mem hidx)
   have hfold:(dn ++ [c]).foldl (endS s) (-1)=endS s (dn.foldl (endS s) (-1)) c:=by rw [List.foldl_append];rfl
   have heb:=zh4 hok dn (-1) (by omega) (fun y hy=>(zr.1 (show y ∈ shootsL s (allN s) by rw [hits];simp [hy])).1)
   have hle1:=k1.le
   have f5:=d5.keep k1 (by omega)
   have f6:=d6.keep k1 (by omega)
   have f7:=d7.keep k1 (by omega)
   have hgx:Grow M Mx:=Keep.to_grow' hg014 k1 (fun i hi=>by omega)
   have hCx:ChC Mx A s pc pm:=⟨hM.grow hgx,hC14.keep k1 (by omega)⟩
   have p1:=hCx.cells.2
   have hplc:=fun M' (hk':Keep (fun i=>i=l) Mx M')=>z3v (pk:=pk) (set:=allN s) (c:=c) (ChC.mk (A:=A) (hM.grow (Keep.to_grow' hgx hk' (fun i hi=>by omega))) (hCx.cells.keep hk' (by omega))) hn5 (by unfold allN;omega) (by omega)
   have hend:endS s (dn.foldl (endS s) (-1)) c=if 0<=(tabF s)[plN s (allN s) c] /\ (dn.foldl (endS s) (-1) < 0 ∨ (tabF s)[plN s (allN s) c] < dn.foldl (endS s) (-1)) then (tabF s)[plN s (allN s) c] else dn.foldl (endS s) (-1):=by unfold endS;rw [hTT]
   generalize dn.foldl (endS s) (-1)=en at *
   generalize (tabF s)[plN s (allN s) c]=tv at *
   refine z0h hlb k3 rfl ?_
   dsimp only [zipP]
   (have hrd0:=rT;repeat' first|with_reducible intro _|refine sv ?_|refine sc ?_ ?_<;>(intro h;try exact sz h)|(with_reducible first|apply za|apply z8|apply z5);exact gd;exact rfl;exact rfl;exact hplc _ (xk)|refine sg ?_ ?_<;>(intro h;first|exact sz h|refine sy h ?_)|exact sq|fail)
   all_goals first
    |(rename_i MZ huZ e30 aZ MY huY e31 aY
      have hkY:Keep (fun i=>i=n3 ∨ i=l) Mx MY:=xk
      refine ⟨hkY.weaken (fun i hi=>.inl hi),fun _=>False,fun i hi=>hi.elim,.inl ⟨rfl,k1.trans hkY (fun i hi=>.inl hi),?_,aY⟩⟩
      rw [hfold,hend,if_pos (by omega)]
      exact aZ.upd_ne huY (by omega))
    |(rename_i MY huY e31 aY
      have hkY:Keep (fun i=>i=l) Mx MY:=xk
      refine ⟨hkY.weaken (fun i hi=>.inl (.inr hi)),fun _=>False,fun i hi=>hi.elim,.inl ⟨rfl,k1.trans hkY (fun i hi=>.inl (.inr hi)),?_,aY⟩⟩
      rw [hfold,hend,if_neg (by omega)]
      exact k2.keep hkY (by omega))
  ·rintro i (rfl|rfl|rfl) (hi|hi)
   all_goals omega
  ·rintro v M15 ⟨hk15,_,T15,hT15,⟨k1,k2,k3⟩|h⟩
   rotate_left
   ·exact h.elim
   have heb:-1<=endB s /\ endB s<=1048576:=zh4 hok _ (-1) (by omega) (fun y hy=>(zr.1 hy).1)
   have k2:At M15 n3 (.cells true [I (endB s)] 3):=k2
   have hle15:=k1.le
   refine z2b k3 (by simp) fun M16 hu16 e19 a16=>?_
   have hk16:Keep (fun i=>i=n3 ∨ i=l) M14 M16:=k1.upd hu16 (.inl (.inr rfl))
   have hle16:=hk16.le
   have f3:=k2.upd_ne hu16 (show n3 ≠ l by omega)
   have f5:=d5.keep hk16 (by omega)
   have f6:=d6.keep hk16 (by omega)
   have fd:=bd.keep hk16 (by omega)
   have r3:=f3.2
   have r5:=f5.2
   have r6:=f6.2
   have rd:=fd.2
   have hg016:Grow M M16:=Keep.to_grow' hg014 hk16 (fun i hi=>by omega)
   have hC16:At M16 pc (.cells true (chc A s pm) 128):=hC14.keep hk16 (by omega)
   have q7:=hC16.2
   have q8:=hkn14.lt
   have q9:=hkc14.lt
   have hkn16:=hkn14.at hk16.le (hk16.old _ q8 (by omega))
   have hkc16:=hkc14.at hk16.le (hk16.old _ q9 (by omega))
   have hP16:PlM M16 A s pc pm pk:=⟨⟨hM.grow hg016,hC16,z1,hkn16⟩,hkc16,z2,z3⟩
   have hst:=fun M' (hg:Grow M16 M')=>z92 (pk:=pk) (ChC.mk (hM.grow (hg016.trans hg)) (hC16.grow hg))
   by_cases hneg:endB s < 0
   ·(repeat' first|with_reducible intro _|refine sv ?_|refine sc ?_ ?_<;>(intro h;try exact sz h)|refine sg ?_ ?_<;>(intro h;first|exact sz h|refine sy h ?_)|exact sq|fail)
    rename_i M17 hu17 e20 a17
    refine zq (.inr rfl) (by simp) (fun d' hd'=>by obtain rfl:=List.mem_singleton.1 hd';exact xm) fun M18 hm=>?_
    have hk17:Keep (fun i=>i=n3) M16 M17:=(Keep.refl _ _).upd hu17 (.inl rfl)
    have hk18:Keep (fun i=>i=d) M17 M18:=(Keep.refl _ M17).unmark hm (fun d' hd'=>by obtain rfl:=List.mem_singleton.1 hd';exact .inl rfl)
    have f18:=a17.keep hk18 (by omega)
    exact ⟨_,.tmp rfl (.cell1 rfl (Rd1.of_at f18 rfl).1 (.tmp rfl .nil)),Keep.to_grow' (Keep.to_grow' hg016 hk17 (fun i hi=>by omega)) hk18 (fun i hi=>by omega),.inr (.inl ⟨hok,hneg,rfl⟩)⟩
   ·(repeat' first|with_reducible intro _|refine sv ?_|refine sc ?_ ?_<;>(intro h;try exact sz h)|(with_reducible first|apply za|apply z8|apply z5);exact gd;exact rfl;exact rfl;exact hst _ (xg)|refine sg ?_ ?_<;>(intro h;first|exact sz h|refine sy h ?_)|exact sq|fail)
    rename_i n10 M17 hn10 e20 e21 n11 M18 hn11 e22 e23 M19 hu19 e24 a19 M20 hg20 e25
    have hg1620:Grow M16 M20:=xg
    have hle20:=hg1620.le
    have g3:=f3.grow hg1620
    have g5:=f5.grow hg1620
    have g6:=f6.grow hg1620
    have gd':=fd.grow hg1620
    have g10:At M20 n10 (.cells true [.slice none 0 true 0] 42):=At.grow hg20 (xm)
    have g11:At M20 n11 (.cells true [bestV n10 n3 n5 n11] 133):=At.grow hg20 (xm)
    have r10:=g10.2
    have r11:=g11.2
    have w1:=hkn16.lt
    have w2:=hkc16.lt
    have hsz:allN s < 2 ^ s.lines.length:=by unfold allN;have:=Nat.two_pow_pos s.lines.length;omega
    have hb:=zm5 hP16 hok (e:=endB s) (nf:=n10) (ne:=n3) (np:=n5) (nx:=n11) (by omega) (by omega) (allN s) M20 M20.next [] (startR s) (allN s) (.slice none 0 true 0) (Nat.le_refl _) hsz (Nat.le_refl _) ⟨hg1620.to_keep _,hkn16.at hg1620.le (hg1620.old _ w1),hkc16.at hg1620.le (hg1620.old _ w2),⟨_,g10⟩,g3,g5,g11,.inl ⟨rfl,rfl⟩,(fun _ i h=>by cases h),by show 0+allN s<=100;omega,hok.start,⟨Int.le_refl 0,show (0:Int)<=5000000 by decide⟩⟩
    refine zu (by exact gd) rfl rfl (show AppOk Tryz.prog (bestV n10 n3 n5 n11) _ M20 _ from hb) ?_
    rintro w M21 ⟨hk21,hkn21,hkc21,u,hf21,hres⟩
    have hle21:=hk21.le
    have y3:=g3.keep hk21 (by omega)
    have y6:=g6.keep hk21 (by omega)
    have yd:=gd'.keep hk21 (by omega)
    have r21:=hf21.2
    (repeat' first|with_reducible intro _|refine sv ?_|refine sc ?_ ?_<;>(intro h;try exact sz h)|refine sg ?_ ?_<;>(intro h;first|exact sz h|refine sy h ?_)|exact sq|fail)
    rename_i M22 hu22 e26 a22
    refine zq (.inr rfl) (by simp) (fun d' hd'=>by obtain rfl:=List.mem_singleton.1 hd';exact xm) fun M23 hm=>?_
    have hk22:Keep (fun i=>i=n3) M21 M22:=(Keep.refl _ _).upd hu22 (.inl rfl)
    have hk23:Keep (fun i=>i=d) M22 M23:=(Keep.refl _ M22).unmark hm (fun d' hd'=>by obtain rfl:=List.mem_singleton.1 hd';exact .inl rfl)
    have f23:=a22.keep hk23 (by omega)
    have hgE:Grow M M23:=Keep.to_grow' (Keep.to_grow' (Keep.to_grow' (hg016.trans hg1620) hk21 (fun i hi=>by omega)) hk22 (fun i hi=>by omega)) hk23 (fun i hi=>by omega)
    refine ⟨_,.tmp rfl (.cell1 rfl (Rd1.of_at f23 rfl).1 (.tmp rfl .nil)),hgE,.inr (.inr ⟨hok,by omega,u,rfl,fun r hr=>?_⟩)⟩
    rcases hres with ⟨_,r',hr',hv⟩|⟨_,hno⟩
    ·rw [hr] at hr'
     cases hr'
     exact Or.imp id (fun ⟨i,y1,y2,y3⟩=>⟨i,y1,(y2.keep hk22 (by omega)).keep hk23 (by omega),by omega⟩) hv
    ·rw [hr] at hno;cases hno
end Go.Proofs.YtpccafeedfpbaaaGreat.C
end
section
open PvL
set_option linter.unusedVariables false
namespace Go.Proofs.YtpccafeedfpbaaaGreat.C
theorem zli {s:Cr} (hs:CrOk s):∀ (l:List Nat) (x y:Rch),(∀ c ∈ l,c < 2*s.lines.length)->runE s x l=some y->x.2<=y.2
 | [],x,y,_,h=>by cases h;exact Int.le_refl _
 | c :: l,x,y,hl,h=>by
  have e:runE s x (c :: l)=match goF s x c with|none=>none|some b=>runE s (rchF s c b.2) l:=rfl
  rw [e] at h
  cases hg:goF s x c with
  | none=>rw [hg] at h;cases h
  | some b =>
   rw [hg] at h
   have h1:=z6v hs (c:=c) (by have:=hl c (List.mem_cons_self ..);omega) hg
   have h2:=zli hs l _ y (fun d hd=>hl d (List.mem_cons_of_mem _ hd)) h
   have h2:b.2<=y.2:=h2
   omega
theorem zc5 {s:Cr}:∀ (l:List Nat) (set:Nat),Cov s set l->∀ c ∈ l,c < 2*s.lines.length
 | [],_,_,c,hc=>by cases hc
 | a :: l,set,h,c,hc=>by
  rcases List.mem_cons.1 hc with rfl|hc
  ·exact h.1
  ·exact zc5 l _ h.2.2 c hc
theorem zcr {s:Cr} {e:Int}:∀ (f:Nat) (l:List Nat) (x:Rch) (left:Nat) (r:List Nat),nextO s e f l x left=some r->∃ r' y,r=l ++ r' /\ Cov s left r' /\ runE s x r'=some y /\ y.2=e:=by
 intro f
 have h0:∀ (l:List Nat) (x:Rch) (r:List Nat),(if x.2=e then some l else none)=some r->∃ r' y,r=l ++ r' /\ Cov s 0 r' /\ runE s x r'=some y /\ y.2=e:=fun l x r h=>by
  split at h
  ·cases h
   exact ⟨[],x,(List.append_nil _).symm,rfl,rfl,by assumption⟩
  ·cases h
 induction f with
 | zero =>
  intro l x left r h
  unfold nextO at h
  split at h
  ·rename_i hl;subst hl;exact h0 l x r h
  ·cases h
 | succ f ih =>
  intro l x left r h
  by_cases hl:left=0
  ·subst hl
   have e1:nextO s e (f+1) l x 0=if x.2=e then some l else none:=rfl
   rw [e1] at h
   exact h0 l x r h
  ·rw [z52 s e f l x left hl] at h
   obtain ⟨c,hc,h⟩:=z1h h
   unfold stepG at h
   cases hg:goF s x c with
   | none=>rw [hg] at h;cases h
   | some b =>
    rw [hg] at h
    dsimp only at h
    split at h
    ·cases h
    ·obtain ⟨r',y,h1,h2,h3,h4⟩:=ih _ _ _ _ h
     have hm:=zr.1 hc
     refine ⟨c :: r',y,by rw [h1,List.append_assoc];rfl,⟨hm.1,hm.2,h2⟩,?_,h4⟩
     show (match goF s x c with|none=>none|some b=>runE s (rchF s c b.2) r')=_
     rw [hg];exact h3
theorem z7t {s:Cr} (hs:CrOk s) {e:Int}:∀ (f:Nat) (l:List Nat) (x:Rch) (left:Nat) (r:List Nat) (y:Rch),left<=f->Cov s left r->runE s x r=some y->y.2=e->nextO s e f l x left ≠ none:=by
 intro f
 have h0:∀ (l:List Nat) (x:Rch) (r:List Nat) (y:Rch),Cov s 0 r->runE s x r=some y->y.2=e->(if x.2=e then some l else none) ≠ none:=fun l x r y h1 h2 h3=>by
  cases r with
  | nil=>cases h2;rw [if_pos h3];exact fun h=>by cases h
  | cons c r=>have:=h1.2.1;rw [Nat.zero_testBit] at this;cases this
 induction f with
 | zero =>
  intro l x left r y hf h1 h2 h3
  obtain rfl:left=0:=by omega
  exact h0 l x r y h1 h2 h3
 | succ f ih =>
  intro l x left r y hf h1 h2 h3
  by_cases hl:left=0
  ·subst hl
   exact h0 l x r y h1 h2 h3
  ·rw [z52 s e f l x left hl]
   cases r with
   | nil=>exact absurd h1 hl
   | cons c r =>
    intro h
    have h4:=List.findSome?_eq_none_iff.1 h c (zr.2 ⟨h1.1,h1.2.1⟩)
    have e1:runE s x (c :: r)=match goF s x c with|none=>none|some b=>runE s (rchF s c b.2) r:=rfl
    rw [e1] at h2
    unfold stepG at h4
    cases hg:goF s x c with
    | none=>rw [hg] at h2;cases h2
    | some b =>
     rw [hg] at h2 h4
     dsimp only at h2 h4
     have hle:=zli hs r _ y (zc5 r _ h1.2.2) h2
     have hle:b.2<=y.2:=hle
     rw [if_neg (by omega)] at h4
     have:=z4y h1.2.1
     exact ih _ _ _ r y (by omega) h1.2.2 h2 h3 h4
theorem zdj {s:Cr}:∀ (l:List Nat) (e:Int),-1<=e->(l.foldl (endS s) e=e ∨ ∃ c ∈ l,l.foldl (endS s) e=TT s (allN s) c /\ 0<=TT s (allN s) c) /\ (0<=e->0<=l.foldl (endS s) e /\ l.foldl (endS s) e<=e) /\ ∀ c ∈ l,0<=TT s (allN s) c->0<=l.foldl (endS s) e /\ l.foldl (endS s) e<=TT s (allN s) c
 | [],e,_=>⟨.inl rfl,fun h=>⟨h,Int.le_refl _⟩,fun c hc=>by cases hc⟩
 | a :: l,e,he=>by
  rw [List.foldl_cons]
  have hst:(endS s e a=e /\ (0<=TT s (allN s) a->0<=e /\ e<=TT s (allN s) a)) ∨ (endS s e a=TT s (allN s) a /\ 0<=TT s (allN s) a /\ (0<=e->TT s (allN s) a<=e)):=by
   unfold endS
   split
   ·rename_i h;exact .inr ⟨rfl,h.1,fun _=>by omega⟩
   ·rename_i h;exact .inl ⟨rfl,fun h'=>by omega⟩
  obtain ⟨h1,h2,h3⟩:=zdj l (endS s e a) (by rcases hst with h|h<;>omega)
  refine ⟨?_,fun h=>?_,fun c hc h=>?_⟩
  ·rcases h1 with h1|⟨c,hc,h1⟩
   ·rcases hst with h|h
    ·exact .inl (by rw [h1,h.1])
    ·exact .inr ⟨a,List.mem_cons_self ..,by rw [h1,h.1],h.2.1⟩
   ·exact .inr ⟨c,List.mem_cons_of_mem _ hc,h1⟩
  ·have:=h2 (by rcases hst with h|h<;>omega)
   rcases hst with h|h<;>omega
  ·rcases List.mem_cons.1 hc with rfl|hc
   ·have:=h2 (by rcases hst with h' | h'<;>omega)
    rcases hst with h' | h'<;>omega
   ·exact h3 c hc h
theorem zd4 (s:Cr):allN s < 2 ^ s.lines.length:=by unfold allN;have:=Nat.two_pow_pos s.lines.length;omega
theorem zeo {s:Cr} (hs:CrOk s) (h:0<=endB s):∃ r y,nextO s (endB s) (allN s) [] (startR s) (allN s)=some r /\ Cov s (allN s) r /\ runE s (startR s) r=some y /\ y.2=endB s:=by
 rcases (zdj (s:=s) (shootsL s (allN s)) (-1) (by omega)).1 with h1|⟨c,hc,h1,h2⟩
 ·unfold endB at h;omega
 ·obtain ⟨l,h3,h4⟩:=znr hs (allN s) (allN s) c (Nat.le_refl _) (zd4 s) (zr.1 hc).1 (by omega)
  have h5:(rchF s c (TT s (allN s) c)).2=endB s:=by unfold endB;rw [h1];rfl
  cases hn:nextO s (endB s) (allN s) [] (startR s) (allN s) with
  | none=>exact absurd hn (z7t hs _ _ _ _ _ _ (Nat.le_refl _) h3 h4 h5)
  | some r =>
   obtain ⟨r',y,g1,g2,g3,g4⟩:=zcr _ _ _ _ _ hn
   obtain rfl:r=r':=g1
   exact ⟨r,y,rfl,g2,g3,g4⟩
theorem zl7 {s:Cr} (hn:s.lines.length<=5):∀ (l:List Nat) (set:Nat),set < 1048576->(l.map (· / 2)).Nodup->(∀ k,set.testBit k=true ↔ k ∈ l.map (· / 2))->(∀ c ∈ l,c < 2*s.lines.length)->Cov s set l
 | [],set,hs,_,h,_=>Nat.eq_of_testBit_eq fun i=>by
  rw [Nat.zero_testBit]
  cases hb:set.testBit i with
  | false=>rfl
  | true=>exact absurd ((h i).1 hb) (by simp)
 | c :: l,set,hs,hnd,h,hl=>by
  have hc:=hl c (List.mem_cons_self ..)
  rw [List.map_cons,List.nodup_cons] at hnd
  have hle:=zi8 (a:=set) (k:=c / 2)
  have hb:=fun j=>z13 (set:=set) (k:=c / 2) (j:=j) hs (by omega)
  refine ⟨hc,(h _).2 (by simp),zl7 hn l _ (by omega) hnd.2 (fun k=>?_) fun d hd=>hl d (List.mem_cons_of_mem _ hd)⟩
  rw [hb,Bool.and_eq_true,h k,List.map_cons,List.mem_cons]
  constructor
  ·rintro ⟨h1,h2⟩
   rcases h1 with rfl|h1
   ·simp at h2
   ·exact h1
  ·intro h1
   refine ⟨.inr h1,?_⟩
   rw [decide_eq_false (fun e=>hnd.1 (by rw [e];exact h1))];rfl
theorem zp1 {s:Cr} {x:Int × Int} (h:rightP s x):shN x / 2=x.1.toNat:=by
 unfold rightP at h
 unfold shN;omega
theorem zlc {s:Cr} {l:List (Int × Int)} (h:∀ x ∈ l,rightP s x):(l.map shN).map (· / 2)=(l.map (·.1)).map Int.toNat:=by
 rw [List.map_map,List.map_map]
 exact List.map_congr_left fun x hx=>zp1 (h x hx)
theorem zmm {s:Cr} (hs:CrOk s) {l:List (Int × Int)} (h:OrdOk s l) (hlen:l.length=s.lines.length):Cov s (allN s) (l.map shN):=by
 have hn5:=hs.n5
 have hp2:2 ^ s.lines.length<=32:=Nat.pow_le_pow_right (n:=2) (by omega) hn5
 have hnd:((l.map (·.1)).map Int.toNat).Nodup:=by
  refine List.pairwise_map.2 (List.Pairwise.imp_of_mem (fun {a b} ha hb hab=>?_) h.2)
  obtain ⟨x,hx,rfl⟩:=List.mem_map.1 ha
  obtain ⟨y,hy,rfl⟩:=List.mem_map.1 hb
  have h2:=h.1 x hx
  have h3:=h.1 y hy
  unfold rightP at h2 h3
  omega
 have hlt:∀ k ∈ (l.map (·.1)).map Int.toNat,k < s.lines.length:=fun k hk=>by
  obtain ⟨a,ha,rfl⟩:=List.mem_map.1 hk
  obtain ⟨x,hx,rfl⟩:=List.mem_map.1 ha
  have h2:=h.1 x hx
  unfold rightP at h2
  omega
 refine zl7 hn5 _ _ (by unfold allN;omega) (by rw [zlc h.1];exact hnd) (fun k=>?_) (fun c hc=>?_)
 ·rw [zlc h.1]
  constructor
  ·intro hb
   have hk:=znv (zd4 s) hb
   refine Classical.byContradiction fun hno=>?_
   have:=z24 s.lines.length (k :: (l.map (·.1)).map Int.toNat) (List.nodup_cons.2 ⟨hno,hnd⟩) (fun j hj=>by
    rcases List.mem_cons.1 hj with rfl|hj
    ·exact hk
    ·exact hlt j hj)
   rw [List.length_cons,List.length_map,List.length_map] at this
   omega
  ·intro hk
   unfold allN
   exact zbv (hlt k hk)
 ·obtain ⟨x,hx,rfl⟩:=List.mem_map.1 hc
  exact (zp2 (h.1 x hx)).2
def unN (c:Nat):Int × Int:=((c / 2:Nat),(c % 2:Nat))
theorem zku {s:Cr} {l:List (Int × Int)} (h:(TimesF s l).2=0):CrOk s /\ OrdOk s l /\ ∃ bs,timesG s (startR s) (l.map shN)=some bs /\ TimesF s l=(bs,0):=by
 unfold TimesF at *
 by_cases h1:CrOk s
 ·rw [if_pos h1] at h ⊢
  by_cases h2:OrdOk s l
  ·rw [if_pos h2] at h ⊢
   cases ht:timesG s (startR s) (l.map shN) with
   | none=>rw [ht] at h;exact absurd h (by decide)
   | some bs=>exact ⟨h1,h2,bs,rfl,rfl⟩
  ·rw [if_neg h2] at h;exact absurd h (by decide)
 ·rw [if_neg h1] at h;exact absurd h (by decide)
theorem zk5 {bs:List Bd} {n:Nat} (h:bs.length=n) (h0:0 < n) {d:Int}:(bs.getLast?.map (·.2)).getD d=(bs[n - 1]'(by omega)).2:=by
 subst h
 rw [List.getLast?_eq_getElem?,List.getElem?_eq_getElem (by omega)];rfl
end Go.Proofs.YtpccafeedfpbaaaGreat.C
end
section
open Go PvL Go.Proofs
set_option linter.unusedSimpArgs false
set_option linter.unusedVariables false
namespace Go.Proofs.YtpccafeedfpbaaaGreat.C
set_option maxHeartbeats 4000000 in
theorem zby {aI:Option (Nat × Nat)} {fI:Bool} {eI:Nat} {l:List Int} {gf:FuncId} {fi ca:List LV} {p:Int->Bool} {M:Mem} (hl:SlA 1 intz M aI l) (hlen:l.length<=1000000000000000)
  (hf:∀ (v:Int) (M':Mem),v ∈ l->Grow M M'->CallOk Tryz.prog gf (fi ++ [I v] ++ ca) M' (fun w M''=>w=.bool (p v) /\ Grow M' M'')) :
  CallOk Tryz.prog 115 [.slice aI l.length fI eI,.func (.func gf) fi ca] M (fun w M'=>Grow M M' /\ ((l.any p=false /\ w=I (-1)) ∨ (l.any p=true /\ ∃ k:Nat,k < l.length /\ w=I k))):=by
 refine z6 kq115 rfl ?_
 dsimp only [xq115,qm,ql,qi,qa,qn,qB,qC,qo,qq,zipE,Nat.reduceAdd]
 (repeat' first|with_reducible intro _|refine sv ?_|refine sc ?_ ?_<;>(intro h;try exact sz h)|refine sg ?_ ?_<;>(intro h;first|exact sz h|refine sy h ?_)|exact sq|fail)
 refine zc (fun n E ms M'=>∃ k:Nat,n=l.length - k /\ k<=l.length /\ ms=[] /\ Has E [(0,.slice aI l.length fI eI),(1,.func (.func gf) fi ca),(7,I l.length),(8,I k)] /\ Grow M M' /\ (l.take k).any p=false) ?_ l.length _ _ _
  ⟨0,by omega,by omega,rfl,.cons rfl (.cons rfl (.cons rfl (.cons rfl .nil))),xg,rfl⟩
 rintro n E ms M1 ⟨k,rfl,hk,rfl,hE,hg,hall⟩
 have hle:=hg.le
 refine zw hE ?_
 by_cases hlast:k=l.length
 ·subst hlast
  rw [List.take_length] at hall
  (repeat' first|with_reducible intro _|refine sv ?_|refine sc ?_ ?_<;>(intro h;try exact sz h)|refine sg ?_ ?_<;>(intro h;first|exact sz h|refine sy h ?_)|exact sq|fail)
  (refine kf ?_)
  exact ⟨hg,.inl ⟨hall,rfl⟩⟩
 have hlt:k < l.length:=by omega
 obtain ⟨i,o,rfl,hr⟩:=hl.resolve_left (fun h=>by rw [h] at hlt;simp at hlt)
 have r1:Rd1 M1 i (o+k*1) (I l[k]):=((hr k hlt).nth (j:=0) rfl).grow hg
 have hi:=r1.2
 have hc:=hf l[k] M1 (List.getElem_mem hlt) hg
 have htk:l.take (k+1)=l.take k ++ [l[k]]:=List.take_succ_eq_append_getElem hlt
 have hany:l[k] ∈ l:=List.getElem_mem hlt
 generalize l[k]=v at *
 (have hrd0:=r1;repeat' first|with_reducible intro _|refine sv ?_|refine sc ?_ ?_<;>(intro h;try exact sz h)|refine sg ?_ ?_<;>(intro h;first|exact sz h|refine sy h ?_)|exact sq|fail)
 refine zk (by exact gd) rfl rfl (show AppOk Tryz.prog (.func (.func gf) fi ca) _ M1 _ from hc) ?_
 rintro w M2 ⟨rfl,hg2⟩
 have hle2:=hg2.le
 cases hp:p v with
 | true =>
  have:l.any p=true:=List.any_eq_true.2 ⟨v,hany,hp⟩
  (repeat' first|with_reducible intro _|refine sv ?_|refine sc ?_ ?_<;>(intro h;try exact sz h)|refine sg ?_ ?_<;>(intro h;first|exact sz h|refine sy h ?_)|exact sq|fail)
  (refine kf ?_)
  exact ⟨hg.trans hg2,.inr ⟨this,k,hlt,rfl⟩⟩
 | false =>
  (repeat' first|with_reducible intro _|refine sv ?_|refine sc ?_ ?_<;>(intro h;try exact sz h)|refine sg ?_ ?_<;>(intro h;first|exact sz h|refine sy h ?_)|exact sq|fail)
  refine zg (l.length - (k+1)) (by omega) ⟨k+1,rfl,by omega,rfl,.cons rfl (.cons rfl (.cons rfl (.cons rfl .nil))),hg.trans hg2,by rw [htk,List.any_append,hall];simp [hp]⟩
theorem z36 {aI:Option (Nat × Nat)} {fI:Bool} {eI:Nat} {l:List Int} {gf:FuncId} {fi ca:List LV} {p:Int->Bool} {M:Mem} (hl:SlA 1 intz M aI l) (hlen:l.length<=1000000000000000)
  (hf:∀ (v:Int) (M':Mem),v ∈ l->Grow M M'->CallOk Tryz.prog gf (fi ++ [I v] ++ ca) M' (fun w M''=>w=.bool (p v) /\ Grow M' M'')) :
  CallOk Tryz.prog 70 [.slice aI l.length fI eI,.func (.func gf) fi ca] M (fun w M'=>Grow M M' /\ w=.bool (l.any p)):=by
 have hc:=zby (fI:=fI) (eI:=eI) hl hlen hf
 refine z6 kq70 rfl ?_
 dsimp only [xq70,qm,qc,qC,qo,qq,zipE,Nat.reduceAdd]
 (repeat' first|with_reducible intro _|refine sv ?_|refine sc ?_ ?_<;>(intro h;try exact sz h)|refine sg ?_ ?_<;>(intro h;first|exact sz h|refine sy h ?_)|exact sq|fail)
 refine zk (by exact gd) rfl rfl (show AppOk Tryz.prog _ _ M _ from hc) ?_
 rintro w M1 ⟨hg,⟨ha,rfl⟩|⟨ha,k,hk,rfl⟩⟩
 ·have hle:=hg.le
  (repeat' first|with_reducible intro _|refine sv ?_|refine sc ?_ ?_<;>(intro h;try exact sz h)|refine sg ?_ ?_<;>(intro h;first|exact sz h|refine sy h ?_)|exact sq|fail)
  (refine kf ?_)
  exact ⟨hg,by rw [ha];first|done|rfl⟩
 ·have hle:=hg.le
  (repeat' first|with_reducible intro _|refine sv ?_|refine sc ?_ ?_<;>(intro h;try exact sz h)|refine sg ?_ ?_<;>(intro h;first|exact sz h|refine sy h ?_)|exact sq|fail)
  (refine kf ?_)
  exact ⟨hg,by rw [ha];show LV.bool _=_;congr 1⟩
theorem zgo (v:Int) (M:Mem):CallOk Tryz.prog 71 [I v] M (fun w M'=>w=.bool (!decide (-1<=v /\ v<=4194304)) /\ Grow M M'):=by
 refine z6 kq71 rfl ?_
 dsimp only [xq71,qm,qc,qo,qq,zipE,Nat.reduceAdd]
 (repeat' first|with_reducible intro _|refine sv ?_|refine sc ?_ ?_<;>(intro h;try exact sz h)|(with_reducible first|apply zj|apply zi|apply zd);exact gd;exact rfl;exact rfl;exact z0m _ _ _ _|refine sg ?_ ?_<;>(intro h;first|exact sz h|refine sy h ?_)|exact sq|fail)
 (refine kf ?_)
 exact ⟨rfl,xg⟩
theorem zm7 {v e:Int} {ne:Nat} {M:Mem} (he:At M ne (.cells true [I e] 3)):CallOk Tryz.prog 76 [I v,.ptr (some (ne,0))] M (fun w M'=>w=.bool (decide (v ≠ -1) && decide (v < e)) /\ Grow M M'):=by
 have hle:=he.2
 refine z6 kq76 rfl ?_
 dsimp only [xq76,qm,qC,qg,qo,qq,zipE,Nat.reduceAdd]
 (repeat' first|with_reducible intro _|refine sv ?_|refine sc ?_ ?_<;>(intro h;try exact sz h)|refine sg ?_ ?_<;>(intro h;first|exact sz h|refine sy h ?_)|exact sq|fail)
 all_goals (refine kf ?_)
 all_goals refine ⟨?_,xg⟩
 all_goals first
  | rfl
  |(show LV.bool _=LV.bool _;congr 1;simp;omega)
noncomputable def badS (s:Cr) (t:List Int) (set c:Nat):Bool:=match minL (earL s t set c) with|some w=>decide (t.getD (plN s set c) 0=-1 ∨ w < t.getD (plN s set c) 0)|none=>false
noncomputable def badR (s:Cr) (t:List Int) (set:Nat):Bool:=(shootsL s set).any (badS s t set)
noncomputable def badA (s:Cr) (t:List Int):Bool:=(List.range (2 ^ s.lines.length)).any (badR s t)
def TblOk (s:Cr) (t:List Int):Prop:=t.length=2*s.lines.length*2 ^ s.lines.length /\ ∀ v ∈ t,-1<=v /\ v<=4194304
open Classical in
noncomputable def ProvesF (s:Cr) (t:List Int) (e:Int):Bool × Int :=
 if CrOk s then (if TblOk s t then (!(badA s t) && !((t.drop (plN s (allN s) 0)).any fun v=>decide (v ≠ -1) && decide (v < e)),0) else (false,43)) else (false,40)
theorem zg1 (t:List Int):(t.any fun v=>!decide (-1<=v /\ v<=4194304))=false ↔ ∀ v ∈ t,-1<=v /\ v<=4194304:=by
 rw [List.any_eq_false]
 refine forall_congr' fun v=>forall_congr' fun _=>?_
 simp
theorem znn {i o len n k:Nat} {f:Bool} (h0:k < len) {E:Env} {M:Mem} {x lo:XO} (hx:xval E x=some (.slice (some (i,o)) len f n)) (hlo:xval E lo=some (I (k:Int))):xstep Tryz.prog (.slc n x (some lo) none none) E M=some (.val (.slice (some (i,o+k*n)) (len - k) f n) M):=by
 have hs:sliceSl n (some (i,o)) len f n (some (.int .i64 (k:Int))) none none=guard' (Nat.ble k len) (guard' (Nat.beq n n) (ifb (false || (f || (Nat.ble (k+1) len || Nat.beq k 0)))
    (some (LV.slice (some (i,ifb (Nat.beq len k && (f || false)) o (o+k*n))) (len - k) (ifb false (Nat.beq len len) (f && Nat.beq len len)) n)) (some (LV.slice (some (i,o)) 0 false 0)))):=by
  have e1:sliceSl n (some (i,o)) len f n (some (.int .i64 (k:Int))) none none=guard' (Nat.ble k len) (guard' (Nat.beq n n) (ifb (false || (f || (Nat.ble (k+1) len || Nat.beq k 0))) (fN (ifb (Nat.beq len k && (f || false)) o (o+k*n)) fun off'=>fN (len - k) fun len'=>some (LV.slice (some (i,off')) len' (ifb false (Nat.beq len len) (f && Nat.beq len len)) n)) (some (LV.slice (some (i,o)) 0 false 0)))):=by
   rfl
  rw [e1,z1e,z1e]
 have hnn:Nat.beq n n=true:=by simp
 have h1:Nat.beq len k=false:=by cases hb:Nat.beq len k with|false=>rfl|true=>have:=Nat.eq_of_beq_eq_true hb;omega
 have h2:Nat.beq len len=true:=by simp
 rw [Nat.ble_eq_true_of_le (show k<=len by omega),zb,hnn,zb,Nat.ble_eq_true_of_le (show k+1<=len by omega),h1,h2] at hs
 have hs:sliceSl n (some (i,o)) len f n (some (.int .i64 (k:Int))) none none=some (.slice (some (i,o+k*n)) (len - k) f n):=by
  rw [hs];cases f<;>rfl
 show ob (xval E x) _=_
 rw [hx,z0]
 show ob (ob (xval E lo) _) _=_
 rw [hlo,z0]
 show ob (sliceSl n (some (i,o)) len f n (some (.int .i64 (k:Int))) none none) (rv M)=_
 rw [hs];rfl
theorem zks {M:Mem} {i o:Nat} {t:List Int} {k:Nat} (h:SlA 1 intz M (some (i,o)) t) (hk:k < t.length):SlA 1 intz M (some (i,o+k*1)) (t.drop k):=by
 obtain ⟨i',o',e,hr⟩:=h.resolve_left (fun h=>by rw [h] at hk;simp at hk)
 cases e
 refine .inr ⟨i,o+k*1,rfl,fun j hj=>?_⟩
 rw [List.length_drop] at hj
 have:=hr (k+j) (by omega)
 rw [List.getElem_drop,show o+k*1+j*1=o+(k+j)*1 by omega]
 exact this
theorem zo8 (M:Mem):∀ (v:Int) (M':Mem),Grow M M'->CallOk Tryz.prog 71 ([] ++ [I v] ++ []) M' (fun w M''=>w=.bool ((fun v=>!decide (-1<=v /\ v<=4194304)) v) /\ Grow M' M''):=fun v M' _=>zgo v M'
set_option maxHeartbeats 16000000 in
theorem zja {A:CrA} {s:Cr} {aT:Option (Nat × Nat)} {fT:Bool} {t:List Int} {e:Int} {M:Mem} (hM:CrM M A s) (ht:SlA 1 intz M aT t) (htl:t.length<=1000000000000000) :
  CallOk Tryz.prog 25 [crv A s,.slice aT t.length fT 1,I e] M (fun v M'=>Grow M M' /\ v=.tup [.bool (ProvesF s t e).1,I (ProvesF s t e).2]):=by
 refine z6 kq25 rfl ?_
 dsimp only [xq25,qm,qf,ql,qL,qi,qb,qe,qc,qa,qn,qB,qC,qg,qS,qo,qk,qK,qq,qZ,zipE,Nat.reduceAdd]
 have hc:=fun M' (hg:Grow M M')=>z5x (hM.grow hg)
 unfold ProvesF
 (repeat' first|with_reducible intro _|refine sv ?_|refine sc ?_ ?_<;>(intro h;try exact sz h)|(with_reducible first|apply zk|apply zu|apply z00);exact gd;exact rfl;exact rfl;exact hc _ (xg)|refine sg ?_ ?_<;>(intro h;first|exact sz h|refine sy h ?_)|exact sq|fail)
 rename_i n3 M1 hn3 e1 e2 n4 M2 hn4 e3 e4 n5 M3 hn5 e5 e6 n6 M4 hn6 e7 e8 n7 M5 hn7 e9 e10 w M6 hq
 obtain ⟨hg6,⟨hno,pk,rfl⟩|⟨hok,pc,pm,pk,rfl,hpl,h1,h2,h3⟩⟩:=hq
 ·have hle6:=hg6.le
  rw [if_neg hno]
  (repeat' first|with_reducible intro _|refine sv ?_|refine sc ?_ ?_<;>(intro h;try exact sz h)|refine sg ?_ ?_<;>(intro h;first|exact sz h|refine sy h ?_)|exact sq|fail)
  (refine kf ?_)
  exact ⟨xg,rfl⟩
 have hle6:=hg6.le
 rw [if_pos hok]
 have hn5':=hok.n5
 have hn1':=hok.n1
 have hsh:=zie s.lines.length
 have hp2:2 ^ s.lines.length<=32:=Nat.pow_le_pow_right (n:=2) (by omega) hn5'
 have hN:2*s.lines.length*2 ^ s.lines.length<=10*32:=Nat.mul_le_mul (by omega) hp2
 have hg06:Grow M M6:=xg
 have ht6:=ht.grow hg06
 have hcf:=fun M' (hg:Grow M6 M')=>z36 (gf:=71) (fi:=[]) (ca:=[]) (fI:=fT) (eI:=1) (p:=fun v=>!decide (-1<=v /\ v<=4194304)) (ht6.grow hg) htl (fun v M'' _ _=>zo8 _ v M'' (Grow.refl _))
 have hcell:=hpl.ch.cells
 have hpc:=hcell.2
 clear hc hg06
 by_cases hl:t.length=2*s.lines.length*2 ^ s.lines.length
 rotate_left
 ·have hl':¬ (t.length:Int)=shlZ (2*(s.lines.length:Int)) (s.lines.length:Int):=by rw [hsh];omega
  rw [if_neg (fun h=>hl h.1)]
  (repeat' first|with_reducible intro _|refine sv ?_|refine sc ?_ ?_<;>(intro h;try exact sz h)|refine sg ?_ ?_<;>(intro h;first|exact sz h|refine sy h ?_)|exact sq|fail)
  all_goals first
   |(exfalso;omega)
   |((refine kf ?_)
     exact ⟨xg,rfl⟩)
 have hl':(t.length:Int)=shlZ (2*(s.lines.length:Int)) (s.lines.length:Int):=by rw [hsh];omega
 cases hout:t.any fun v=>!decide (-1<=v /\ v<=4194304) with
 | true =>
  rw [hout] at hcf
  have hno:¬ TblOk s t:=fun h=>by rw [(zg1 t).2 h.2] at hout;cases hout
  rw [if_neg hno]
  (repeat' first|with_reducible intro _|refine sv ?_|refine sc ?_ ?_<;>(intro h;try exact sz h)|(with_reducible first|apply zk|apply zu|apply z00);exact gd;exact rfl;exact rfl;exact hcf _ (xg)|refine sg ?_ ?_<;>(intro h;first|exact sz h|refine sy h ?_)|exact sq|fail)
  all_goals try (exfalso;omega)
  rename_i w MX hq
  obtain ⟨hgX,rfl⟩:=hq
  have hleX:=hgX.le
  (repeat' first|with_reducible intro _|refine sv ?_|refine sc ?_ ?_<;>(intro h;try exact sz h)|refine sg ?_ ?_<;>(intro h;first|exact sz h|refine sy h ?_)|exact sq|fail)
  (refine kf ?_)
  exact ⟨xg,rfl⟩
 | false =>
  rw [hout] at hcf
  have hok2:TblOk s t:=⟨hl,(zg1 t).1 hout⟩
  rw [if_pos hok2]
  have hsb:=z08 (k:=s.lines.length) (by omega)
  have hso:=z1c s.lines.length
  (repeat' first|with_reducible intro _|refine sv ?_|refine sc ?_ ?_<;>(intro h;try exact sz h)|(with_reducible first|apply zk|apply zu|apply z00);exact gd;exact rfl;exact rfl;exact hcf _ (xg)|refine sg ?_ ?_<;>(intro h;first|exact sz h|refine sy h ?_)|exact sq|fail)
  all_goals try (exfalso;omega)
  rename_i n8 M7 hn8 e11 e12 M8 hu8 e13 a8 hx w M9 hq
  obtain ⟨hg9,rfl⟩:=hq
  have hle9:=hg9.le
  have hall:shlZ 1 (s.lines.length:Int) - 1=((allN s:Nat):Int):=by rw [z1c];unfold allN;have:=Nat.two_pow_pos s.lines.length;omega
  have htb:∀ v ∈ t,-1<=v /\ v<=5000000:=fun v hv=>by have:=hok2.2 v hv;omega
  have b4:At M9 n4 (.cells true [.slice aT t.length fT 1] 52):=xm
  have b5:At M9 n5 (.cells true [I e] 3):=xm
  have b6:At M9 n6 (.cells true [.bool false] 4):=xm
  have b7:At M9 n7 (.cells true [I 0] 36):=xm
  have b8:At M9 n8 (.cells true [.ptr (some (pc,0)),.map (some pk)] 109):=xm
  have hg69:Grow M6 M9:=xg
  have hpl9:=hpl.grow hg69
  have hg09:Grow M M9:=xg
  have hle09:=hg09.le
  have ht9:=ht6.grow hg69
  have hpm9:=hpl9.ch.known.lt
  have hpk9:=hpl9.kc.lt
  have hpc9:=hpl9.ch.cells.2
  have g4:=b4.2
  have g5:=b5.2
  have g6:=b6.2
  have g7:=b7.2
  have g8:=b8.2
  have hpm6:=hpl.ch.known.lt
  have hpk6:=hpl.kc.lt
  have hnpm:n4 ≠ pm /\ n5 ≠ pm /\ n6 ≠ pm /\ n7 ≠ pm /\ n8 ≠ pm /\ n4 ≠ pk /\ n5 ≠ pk /\ n6 ≠ pk /\ n7 ≠ pk /\ n8 ≠ pk:=by omega
  have hM0:M.next<=pm /\ M.next<=pk /\ M.next<=n6 /\ M.next<=n7 /\ M.next<=pc:=by omega
  have hnn:n6 ≠ n7 /\ n6 ≠ n4 /\ n6 ≠ n5 /\ n6 ≠ n8 /\ n7 ≠ n4 /\ n7 ≠ n5 /\ n7 ≠ n8 /\ n6 ≠ pc /\ n7 ≠ pc:=by omega
  clear hg69 hcf hg9 hg6 hn3 hn4 hn5 hn6 hn7 hn8 hu8 hpl ht6 hcell hl' hx
  (repeat' first|with_reducible intro _|refine sv ?_|refine sc ?_ ?_<;>(intro h;try exact sz h)|refine sg ?_ ?_<;>(intro h;first|exact sz h|refine sy h ?_)|exact sq|fail)
  refine zc (fun n E ms M'=>∃ k:Nat,n=2 ^ s.lines.length - k /\ k<=2 ^ s.lines.length /\ ms.Nodup /\ (∀ d ∈ ms,At M' d .defr /\ M9.next<=d) /\ Has E [(4,.ptr (some (n4,0))),(5,.ptr (some (n5,0))),(6,.ptr (some (n6,0))),(7,.ptr (some (n7,0))),(8,.ptr (some (n8,0))),(10,I s.lines.length),(11,I (shlZ 1 (s.lines.length:Int) - 1)),(48,I (shlZ 1 (s.lines.length:Int))),(49,I k)] /\
    Keep (fun i=>i=pm ∨ i=pk) M9 M' /\ KnM M' s pm /\ KcM M' s pk /\ (List.range k).any (badR s t)=false) ?_ (2 ^ s.lines.length) _ _ _
   ⟨0,(Nat.sub_zero _).symm,Nat.zero_le _,List.nodup_nil,fun d hd=>(by cases hd),.cons rfl (.cons rfl (.cons rfl (.cons rfl (.cons rfl (.cons rfl (.cons rfl (.cons rfl (.cons rfl .nil)))))))),Keep.refl _ _,hpl9.ch.known,hpl9.kc,rfl⟩
  rintro n E ms MA ⟨k,rfl,hkl,hnd,hms,hE,hkA,hknA,hkcA,hbad⟩
  refine zw hE ?_
  have hleA:=hkA.le
  have c4:=b4.keep hkA (by omega)
  have c5:=b5.keep hkA (by omega)
  have c6:=b6.keep hkA (by omega)
  have c7:=b7.keep hkA (by omega)
  have c8:=b8.keep hkA (by omega)
  by_cases hlast:k=2 ^ s.lines.length
  ·subst hlast
   have hba:badA s t=false:=hbad
   rw [hba]
   have hidx:plN s (allN s) 0 < t.length:=by rw [hl];exact z7u (by unfold allN;have:=Nat.two_pow_pos s.lines.length;omega) (by omega)
   obtain ⟨iT,oT,rfl,hrT⟩:=ht.resolve_left (fun h=>by rw [h] at hidx;simp at hidx)
   have hiT:=(hrT _ hidx).2
   have hgMA:Grow M MA:=Keep.to_grow' hg09 hkA (fun i hi=>by omega)
   have hplA:=hpl9.keepm hkA hknA hkcA
   have hcellA:=hplA.ch.cells
   have z1:=hcellA.2
   have hplc:=fun M' (hg:Grow MA M')=>z3v (pk:=pk) (set:=allN s) (c:=0) (ChC.mk (A:=A) (hM.grow (hgMA.trans hg)) (hcellA.grow hg)) hn5' (by unfold allN;omega) (by omega)
   rw [<-hall] at hplc
   have l4:=c4.2
   have l5:=c5.2
   have l6:=c6.2
   have l7:=c7.2
   have l8:=c8.2
   have htA:SlA 1 intz MA (some (iT,oT)) t:=ht.grow hgMA
   generalize hk0:plN s (allN s) 0=k0 at *
   have hcl:=fun M' (hg:Grow MA M')=>z36 (gf:=76) (fi:=[]) (ca:=[.ptr (some (n5,0))]) (fI:=fT) (eI:=1) (p:=fun v=>decide (v ≠ -1) && decide (v < e)) (zks (htA.grow hg) hidx) (by rw [List.length_drop];omega) (fun v M'' _ hg'=>zm7 (c5.grow (hg.trans hg')))
   rw [List.length_drop] at hcl
   clear hgMA
   (repeat' first|with_reducible intro _|refine sv ?_|refine sc ?_ ?_<;>(intro h;try exact sz h)|(with_reducible first|apply za|apply z8|apply z5);exact gd;exact rfl;exact rfl;exact hplc _ (xg)|refine sg ?_ ?_<;>(intro h;first|exact sz h|refine sy h ?_)|exact sq|fail)
   refine zmq (by exact gd) (znn hidx rfl rfl) ?_
   (repeat' first|with_reducible intro _|refine sv ?_|refine sc ?_ ?_<;>(intro h;try exact sz h)|(with_reducible first|apply zk|apply zu|apply z00);exact gd;exact rfl;exact rfl;exact hcl _ (xg)|refine sg ?_ ?_<;>(intro h;first|exact sz h|refine sy h ?_)|exact sq|fail)
   rename_i MB hgB hleB w MC hq
   obtain ⟨hgC,rfl⟩:=hq
   have hleC:=hgC.le
   (repeat' first|with_reducible intro _|refine sv ?_|refine sc ?_ ?_<;>(intro h;try exact sz h)|refine sg ?_ ?_<;>(intro h;first|exact sz h|refine sy h ?_)|exact sq|fail)
   rename_i MX huX eX aX MY huY eY aY
   have hgY:Keep (fun i=>i=n6 ∨ i=n7) MA MY:=((((Keep.refl _ MA).grow hgB).grow hgC).upd huX (.inl (.inl rfl))).upd huY (.inl (.inr rfl))
   refine zq (.inr rfl) hnd (fun d hd=>((hms d hd).1.keep hgY (by have:=(hms d hd).2;omega))) fun M11 hm=>?_
   have hkm:Keep (fun i=>M9.next<=i) MY M11:=(Keep.refl _ MY).unmark hm (fun d' hd'=>.inl (hms d' hd').2)
   have f6:=(aX.upd_ne huY (by omega)).keep hkm (by omega)
   have f7:=aY.keep hkm (by omega)
   refine ⟨_,.cell1 rfl (Rd1.of_at f6 rfl).1 (.cell1 rfl (Rd1.of_at f7 rfl).1 .nil),?_,by simp only [Bool.not_false,Bool.true_and];rfl⟩
   exact Keep.to_grow' (Keep.to_grow' (Keep.to_grow' hg09 hkA (fun i hi=>by omega)) hgY (fun i hi=>by omega)) hkm (fun i hi=>by omega)
  have hlt:k < 2 ^ s.lines.length:=by omega
  have l8:=c8.2
  (repeat' first|with_reducible intro _|refine sv ?_|refine sc ?_ ?_<;>(intro h;try exact sz h)|refine sg ?_ ?_<;>(intro h;first|exact sz h|refine sy h ?_)|exact sq|fail)
  rename_i n12 MB hnB e14 e15 MC huC e16 a12
  have hgC:Grow MA MC:=xg
  refine zk (by exact gd) rfl rfl (show AppOk Tryz.prog _ _ MC _ from z3w (pc:=pc) (pk:=pk) (set:=(k:Int)) MC) ?_
  rintro w MD ⟨np2,ns2,rfl,hgD,hpD,hsD,aD,bD⟩
  have hleD:=hgD.le
  have q1:=aD.2
  have q2:=bD.2
  (repeat' first|with_reducible intro _|refine sv ?_|refine sc ?_ ?_<;>(intro h;try exact sz h)|refine sg ?_ ?_<;>(intro h;first|exact sz h|refine sy h ?_)|exact sq|fail)
  apply z2r
  exact rfl
  intro lb d l ME MF hlb hd e17 e18 hl9 e19 e20
  have hgF:Grow MA MF:=((hgC.trans hgD).new hd).new hl9
  have hleF:=hgF.le
  have hgDF:Grow MD MF:=hd.grow.trans hl9.grow
  have hkF:=hkA.grow hgF
  have hchF:=hpl9.chc hkF
  have hknF:=hknA.at hgF.le (hgF.old _ hknA.lt)
  have hkcF:=hkcA.at hgF.le (hgF.old _ hkcA.lt)
  have hpmA:=hknA.lt
  have hpkA:=hkcA.lt
  have hy:=z4j (A:=A) (s:=s) (pc:=pc) (pm:=pm) (pk:=pk) (np:=np2) (ns:=ns2) (set:=k) (M0:=MF) hchF.cells (aD.grow hgDF) (bD.grow hgDF) hn5' (by omega)
  have hdmem:∀ d' ∈ d :: ms,At MF d' .defr /\ M9.next<=d' /\ d' < l:=fun d' hd'=>by
   rcases List.mem_cons.1 hd' with rfl|hd'
   ·exact ⟨At.new_old hl9 (At.new_same hd),by omega,by omega⟩
   ·obtain ⟨h1,h2⟩:=hms d' hd'
    exact ⟨h1.grow hgF,h2,by have:=h1.2;omega⟩
  have hnd':(d :: ms).Nodup:=List.nodup_cons.2 ⟨fun h=>by have:=(hms d h).1.2;omega,hnd⟩
  have d4:=c4.grow hgF
  have d5:=c5.grow hgF
  have d6:=c6.grow hgF
  have d7:=c7.grow hgF
  have d8:=c8.grow hgF
  have d12:At MF n12 (.cells true [I k] 3):=(a12.grow hgD).grow hgDF
  have hn12M:M9.next<=n12 /\ n12 < l:=by have:=a12.2;omega
  have hgMF:Grow M MF:=Keep.to_grow' hg09 hkF (fun i hi=>by omega)
  have hpcF:=hchF.cells.2
  have hpdl:∀ d' ∈ d :: ms,M9.next<=d' /\ d' < l:=fun d' hd'=>(hdmem d' hd').2
  let KF:Nat->Prop:=fun i=>i=pm ∨ i=pk ∨ i=l ∨ i=n6 ∨ i=n7
  refine (hy l KF (fun dn T M'=>Keep (fun i=>i=pm ∨ i=pk ∨ i=l) MF M' /\ KnM M' s pm /\ KcM M' s pk /\ At M' l (lb .ready none) /\ dn.any (badS s t k)=false)
   (fun T M'=>Keep KF MF M' /\ At M' n6 (.cells true [.bool false] 4) /\ At M' n7 (.cells true [I 0] 36) /\ At M' l (lb .done (some .ret)) /\ badR s t k=true) ⟨?_,?_,?_,?_⟩ ?_ ⟨Keep.refl _ _,hknF,hkcF,At.new_same hl9,rfl⟩).mono ?_
  ·rintro i (rfl|rfl|rfl|rfl|rfl)<;>omega
  ·rintro dn T Mx My ⟨h1,h2,h3,h4,h5⟩ hle hg
   have hgo:∀ i,i < MF.next->My.get i=Mx.get i:=fun i hi=>hg i (.inl ⟨hi,id⟩)
   exact ⟨⟨Nat.le_trans h1.le hle,fun i hi hf=>by rw [hgo i (by omega)];exact h1.old i hi hf⟩,h2.at hle (hgo _ (by omega)),h3.at hle (hgo _ (by omega)),h4.same hle (hgo _ (by omega)),h5⟩
  ·rintro T Mx My ⟨h1,h2,h3,h4,h5⟩ hle hg
   have hgo:∀ i,i < MF.next->My.get i=Mx.get i:=fun i hi=>hg i (.inl ⟨hi,id⟩)
   exact ⟨⟨Nat.le_trans h1.le hle,fun i hi hf=>by rw [hgo i (by omega)];exact h1.old i hi hf⟩,h2.same hle (hgo _ (by omega)),h3.same hle (hgo _ (by omega)),h4.same hle (hgo _ (by omega)),h5⟩
  ·rintro dn c rest vv U T Mx hits ⟨rfl,hU⟩ hN0 hT hUd ⟨h1,h2,h3,h4,h5⟩
   have hcm:=zr.1 (show c ∈ shootsL s k by rw [hits];simp)
   have hc2:c < 2*s.lines.length:=hcm.1
   have hidx:plN s k c < t.length:=by rw [hl];exact z7u hlt hc2
   have hle1:=h1.le
   have hk9x:Keep (fun i=>i=pm ∨ i=pk ∨ i=l) M9 Mx:=(hkF.weaken (fun i hi=>by omega)).trans h1 (fun i hi=>by omega)
   have hgMx:Grow M Mx:=Keep.to_grow' hg09 hk9x (fun i hi=>by omega)
   have hplx:PlM Mx A s pc pm pk:=hpl9.keepm (hkF.trans h1 (fun i hi=>by omega)) h2 h3
   have x4:=d4.keep h1 (by omega)
   have x6:=d6.keep h1 (by omega)
   have x7:=d7.keep h1 (by omega)
   have x8:=d8.keep h1 (by omega)
   have x12:=d12.keep h1 (by omega)
   have hab:(dn ++ [c]).any (badS s t k)=badS s t k c:=by rw [List.any_append,h5];simp
   have hbr:badS s t k c=true->badR s t k=true:=fun h=>List.any_eq_true.2 ⟨c,by rw [hits];simp,h⟩
   obtain ⟨iT,oT,rfl,hrT⟩:=ht.resolve_left (fun h=>by rw [h] at hidx;simp at hidx)
   have rT:Rd1 Mx iT (oT+plN s k c*1) (I t[plN s k c]):=((hrT _ hidx).nth (j:=0) rfl).grow hgMx
   have hiT:=(hrT _ hidx).2
   have hgd:t.getD (plN s k c) 0=t[plN s k c]:=ze hidx
   have hub:=hok2.2 _ (List.getElem_mem hidx)
   have hcellx:=hplx.ch.cells
   have z1:=hcellx.2
   have hplc:=fun M' (hk':Keep (fun i=>i=l) Mx M')=>z3v (pk:=pk) (set:=k) (c:=c) (ChC.mk (A:=A) (hM.grow (Keep.to_grow' hgMx hk' (fun i hi=>by omega))) (hcellx.keep hk' (by omega))) hn5' (by omega) (by omega)
   have hbad1:badS s t k c=match minL (earL s t k c) with|some w=>decide (t.getD (plN s k c) 0=-1 ∨ w < t.getD (plN s k c) 0)|none=>false:=rfl
   rw [hgd] at hbad1
   generalize t[plN s k c]=tv at *
   refine z0h hlb h4 rfl ?_
   dsimp only [zipP]
   (have hrd0:=rT;repeat' first|with_reducible intro _|refine sv ?_|refine sc ?_ ?_<;>(intro h;try exact sz h)|(with_reducible first|apply za|apply z8|apply z5);exact gd;exact rfl;exact rfl;exact hplc _ (xk)|refine sg ?_ ?_<;>(intro h;first|exact sz h|refine sy h ?_)|exact sq|fail)
   rename_i n13 MG hnG e21 e22 MH huH e23 aH MI huI e24 aI MJ hgJ hleJ
   have hkI:Keep (fun i=>i=l) Mx MI:=xk
   have hkJ:=hkI.grow hgJ
   have hleIJ:=hkJ.le
   refine zk (by exact gd) rfl rfl (show AppOk Tryz.prog _ _ MJ _ from z7y (pc:=pc) (pk:=pk) (set:=k) (c:=c) (aT:=some (iT,oT)) (n:=t.length) (fT:=fT) MJ) ?_
   rintro w MK ⟨nq,nt,ne,nx,rfl,hgK,bq,be,bx,bt⟩
   have hleK:=hgK.le
   have hkK:=hkJ.grow hgK
   have hkm:=h2.lt
   have hkk:=h3.lt
   have hplK:PlM MK A s pc pm pk:=hpl9.keepm ((hkF.trans h1 (fun i hi=>by omega)).trans hkK (fun i hi=>.inr (by omega))) (h2.at hkK.le (hkK.old _ hkm (by omega))) (h3.at hkK.le (hkK.old _ hkk (by omega)))
   have htK:SlA 1 intz MK (some (iT,oT)) t:=ht.grow (Keep.to_grow' hgMx hkK (fun i hi=>by omega))
   have hlK:At MK l (lb .busy none):=(aI.grow hgJ).grow hgK
   have y6:=x6.keep hkK (by omega)
   have y7:=x7.keep hkK (by omega)
   refine zk (by exact gd) rfl rfl (show AppOk Tryz.prog _ _ MK _ from zgm (fT:=fT) hplK htK hok hc2 hlt hl htb bq be bx bt) ?_
   rintro w ML ⟨hkL,⟨hknL,hkcL⟩,rfl⟩
   have hleL:=hkL.le
   have hkxL:Keep (fun i=>i=pm ∨ i=pk ∨ i=l) Mx ML:=(hkK.weaken (fun i hi=>.inr (.inr hi))).trans hkL (fun i hi=>.inl (hi.elim .inl (fun h=>.inr (.inl h))))
   have hlL:=hlK.keep hkL (by omega)
   have v6:=y6.keep hkL (by omega)
   have v7:=y7.keep hkL (by omega)
   have w1:=hknL.lt
   have w2:=hkcL.lt
   have w6:=v6.2
   have w7:=v7.2
   have hgo:∀ {MY:Mem},Upd ML l (lb .ready none) MY->At MY l (lb .ready none)->badS s t k c=false->Keep (fun i=>KF i ∨ T i ∨ U i) Mx MY /\ ∃ T':Nat->Prop,(∀ i,T' i->(T i ∨ U i ∨ Mx.next<=i) /\ i < MY.next) /\ ((LV.bool true=.bool true /\ Keep (fun i=>i=pm ∨ i=pk ∨ i=l) MF MY /\ KnM MY s pm /\ KcM MY s pk /\ At MY l (lb .ready none) /\ (dn ++ [c]).any (badS s t k)=false) ∨
     (LV.bool true=.bool false /\ Keep KF MF MY /\ At MY n6 (.cells true [.bool false] 4) /\ At MY n7 (.cells true [I 0] 36) /\ At MY l (lb .done (some .ret)) /\ badR s t k=true)):=by
    intro MY huY aY hb
    have hkY:Keep (fun i=>i=l) ML MY:=(Keep.refl _ ML).upd huY (.inl rfl)
    have hkxY:Keep (fun i=>i=pm ∨ i=pk ∨ i=l) Mx MY:=hkxL.trans hkY (fun i hi=>.inl (.inr (.inr hi)))
    exact ⟨hkxY.weaken (fun i hi=>.inl (by show i=pm ∨ i=pk ∨ i=l ∨ i=n6 ∨ i=n7;omega)),fun _=>False,fun i hi=>hi.elim,.inl ⟨rfl,h1.trans hkxY (fun i hi=>.inl hi),hknL.at hkY.le (hkY.old _ w1 (by omega)),hkcL.at hkY.le (hkY.old _ w2 (by omega)),aY,by rw [hab];exact hb⟩⟩
   have hstop:∀ {MX MY MZ:Mem},Upd ML n6 (.cells true [.bool false] 4) MX->Upd MX n7 (.cells true [I 0] 36) MY->At MY n7 (.cells true [I 0] 36)->At MX n6 (.cells true [.bool false] 4)->Upd MY l (lb .done (some .ret)) MZ->At MZ l (lb .done (some .ret))->badS s t k c=true ->
     Keep (fun i=>KF i ∨ T i ∨ U i) Mx MZ /\ ∃ T':Nat->Prop,(∀ i,T' i->(T i ∨ U i ∨ Mx.next<=i) /\ i < MZ.next) /\ ((LV.bool false=.bool true /\ Keep (fun i=>i=pm ∨ i=pk ∨ i=l) MF MZ /\ KnM MZ s pm /\ KcM MZ s pk /\ At MZ l (lb .ready none) /\ (dn ++ [c]).any (badS s t k)=false) ∨
     (LV.bool false=.bool false /\ Keep KF MF MZ /\ At MZ n6 (.cells true [.bool false] 4) /\ At MZ n7 (.cells true [I 0] 36) /\ At MZ l (lb .done (some .ret)) /\ badR s t k=true)):=by
    intro MX MY MZ huX huY aY aX huZ aZ hb
    have hkZ:Keep (fun i=>i=n6 ∨ i=n7 ∨ i=l) ML MZ:=(((Keep.refl _ ML).upd huX (.inl (.inl rfl))).upd huY (.inl (.inr (.inl rfl)))).upd huZ (.inl (.inr (.inr rfl)))
    have hkxZ:Keep KF Mx MZ:=(hkxL.weaken (fun i hi=>by show i=pm ∨ i=pk ∨ i=l ∨ i=n6 ∨ i=n7;omega)).trans hkZ (fun i hi=>.inl (by show i=pm ∨ i=pk ∨ i=l ∨ i=n6 ∨ i=n7;omega))
    exact ⟨hkxZ.weaken (fun i hi=>.inl hi),fun _=>False,fun i hi=>hi.elim,.inr ⟨rfl,(h1.weaken (fun i hi=>by show i=pm ∨ i=pk ∨ i=l ∨ i=n6 ∨ i=n7;omega)).trans hkxZ (fun i hi=>.inl hi),(aX.upd_ne huY (by omega)).upd_ne huZ (by omega),aY.upd_ne huZ (by omega),aZ,hbr hb⟩⟩
   cases hm:minL (earL s t k c) with
   | none =>
    rw [hm] at hbad1
    have hbad1:badS s t k c=false:=hbad1
    (repeat' first|with_reducible intro _|refine sv ?_|refine sc ?_ ?_<;>(intro h;try exact sz h)|refine sg ?_ ?_<;>(intro h;first|exact sz h|refine sy h ?_)|exact sq|fail)
    exact hgo (by assumption) (by assumption) hbad1
   | some w0 =>
    rw [hm] at hbad1
    have hbad1:badS s t k c=decide (tv=-1 ∨ w0 < tv):=hbad1
    have hw0:(some w0:Option Int).getD 0=w0:=rfl
    (repeat' first|with_reducible intro _|refine sv ?_|refine sc ?_ ?_<;>(intro h;try exact sz h)|refine sg ?_ ?_<;>(intro h;first|exact sz h|refine sy h ?_)|exact sq|fail)
    all_goals first
     |(refine hgo (by assumption) (by assumption) ?_;rw [hbad1];exact decide_eq_false (by omega))
     |(refine hstop (by assumption) (by assumption) (by assumption) (by assumption) (by assumption) (by assumption) ?_;rw [hbad1];exact decide_eq_true (by omega))
  ·rintro i (rfl|rfl|rfl) (hi|hi|hi|hi|hi)
   all_goals first
    | omega
    |(exact absurd hi hpl9.ch.ne)
    |(exact absurd hi hpl9.nc)
  ·rintro v M8 ⟨hk8,_,T8,hT8,⟨h1,h2,h3,h4,h5⟩|⟨h1,h2,h3,h4,h5⟩⟩
   ·have r2:=h2.lt
    have r3:=h3.lt
    have r4:=h4.2
    have hle1:=h1.le
    have hk18:Keep (fun i=>i=pm ∨ i=pk) M9 M8:=hkF.trans h1 (fun i hi=>by omega)
    have hd8:∀ d' ∈ d :: ms,At M8 d' .defr:=fun d' hd'=>(hdmem d' hd').1.keep h1 (by have:=hpdl d' hd';omega)
    have hdl:d < l:=by omega
    refine z2b h4 (by simp) fun M10 hu10 e25 a10=>?_
    (repeat' first|with_reducible intro _|refine sv ?_|refine sc ?_ ?_<;>(intro h;try exact sz h)|refine sg ?_ ?_<;>(intro h;first|exact sz h|refine sy h ?_)|exact sq|fail)
    refine zg (2 ^ s.lines.length - (k+1)) (by omega) ⟨k+1,rfl,by omega,hnd',fun d' hd'=>⟨(hd8 d' hd').upd_ne hu10 (by have:=hpdl d' hd';omega),(hpdl d' hd').1⟩,.cons rfl (.cons rfl (.cons rfl (.cons rfl (.cons rfl (.cons rfl (.cons rfl (.cons rfl (.cons rfl .nil)))))))),hk18.upd hu10 (.inr (by omega)),h2.at (by omega) (by rw [zl hu10 (by omega)]),h3.at (by omega) (by rw [zl hu10 (by omega)]),?_⟩
    rw [List.range_succ,List.any_append,hbad]
    show (false || (badR s t k || false))=false
    rw [show badR s t k=false from h5];rfl
   ·have r2:=h2.2
    have r3:=h3.2
    have hle1:=h1.le
    have hdF:∀ d' ∈ d :: ms,At M8 d' .defr:=fun d' hd'=>(hdmem d' hd').1.keep h1 (by have:=hpdl d' hd';show ¬ (d'=pm ∨ d'=pk ∨ d'=l ∨ d'=n6 ∨ d'=n7);omega)
    refine z15 h4 (by simp) fun M10 hu10 e25 a10=>?_
    (repeat' first|with_reducible intro _|refine sv ?_|refine sc ?_ ?_<;>(intro h;try exact sz h)|refine sg ?_ ?_<;>(intro h;first|exact sz h|refine sy h ?_)|exact sq|fail)
    refine zq (.inr rfl) hnd' (fun d' hd'=>(hdF d' hd').upd_ne hu10 (by have:=hpdl d' hd';omega)) fun M11 hm=>?_
    have hkm:Keep (fun i=>M9.next<=i) M10 M11:=(Keep.refl _ M10).unmark hm (fun d' hd'=>.inl (hpdl d' hd').1)
    have f6:=(h2.upd_ne hu10 (by omega)).keep hkm (by omega)
    have f7:=(h3.upd_ne hu10 (by omega)).keep hkm (by omega)
    have hk811:Keep (fun i=>M.next<=i) M8 M11:=((Keep.refl (fun i=>M.next<=i) M8).upd hu10 (.inl (by omega))).trans hkm (fun i hi=>.inl (by omega))
    have hF:Keep (fun i=>M.next<=i) MF M11:=(h1.weaken (fun i hi=>by have hi:i=pm ∨ i=pk ∨ i=l ∨ i=n6 ∨ i=n7:=hi;omega)).trans hk811 (fun i hi=>.inl hi)
    refine ⟨_,.cell1 rfl (Rd1.of_at f6 rfl).1 (.cell1 rfl (Rd1.of_at f7 rfl).1 .nil),Keep.to_grow' hgMF hF (fun i hi=>hi),?_⟩
    have hbt:badA s t=true:=List.any_eq_true.2 ⟨k,List.mem_range.2 hlt,h5⟩
    rw [hbt];rfl
end Go.Proofs.YtpccafeedfpbaaaGreat.C
end
