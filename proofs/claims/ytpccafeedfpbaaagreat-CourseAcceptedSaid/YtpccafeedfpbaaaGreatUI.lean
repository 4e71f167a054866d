/-
 Part of the proof of CourseAccepted: what functions of the program and of the statement come to,walked by the rules. No condition beyond those in each theorem.
-/
import Derived.Test.YtpccafeedfpbaaaGreatUH
section
open Go PvL Go.Proofs
set_option linter.unusedSimpArgs false
set_option linter.unusedVariables false
namespace Go.Proofs.YtpccafeedfpbaaaGreat.C
theorem zhd {s:Cr} {P more:List Pt} (hP:P=s.buoys ++ more) {to:Nat} (hto:s.buoys.length<=to) (hto2:to < P.length) {last:Int} {d at_:Nat} {o:Int} {used:List Nat} {so y:Psg} (h:goR s P to last d at_ o used so=some y):y.1.length<=so.1.length+d:=by
 have hb:=z9g hP hto hto2 last d at_ o used so
 rw [h] at hb
 obtain ⟨ks,n,h1,_,_,h4,_⟩:=hb.1
 rw [h4,List.length_append,List.length_append,List.length_singleton]
 unfold byB
 rw [List.length_map]
 omega
theorem zpz {A:CrA} {s:Cr} {P more:List Pt} (hs:CrOk s) (hP:P=s.buoys ++ more) (hPl:∀ p ∈ P,PlP p) (hPn:P.length<=100) {to:Nat} (hto:s.buoys.length<=to) (hto2:to < P.length) {last:Int} (hlast:0<=last /\ last<=7) {aP aF:Option (Nat × Nat)} {fP fF:Bool} :
  ∀ (d:Nat) (M:Mem) (at_:Nat) (o:Int) (done:List Nat) (so:Psg) (aU aL:Option (Nat × Nat)) (fU fL iS:Bool),d+done.length=s.buoys.length+1->done.Nodup->(∀ k ∈ done,k < s.buoys.length)->MpM M A s P aP aF->at_ < P.length->0<=o /\ o<=7->SlA 1 boolc M aU (usedL s done)->SlA 2 ptc M aL so.1->so.1.length=done.length+1->0<=so.2 /\ so.2<=96682*(done.length:Int) ->
   CallOk Tryz.prog 104 [.agg (mpc A s aP P.length fP aF P.length fF),I at_,I o,.slice aU s.buoys.length fU 1,I to,I last,wyv (.slice aL so.1.length fL 2) so.2 iS] M
   (fun v M'=>Grow M M' /\ ∃ sl c b,v=wyv sl c b /\ WayN M.next M' (goR s P to last d at_ o done so) sl c b):=by
 intro d
 have hnb:=hs.nb
 induction d with
 | zero =>
  intro M at_ o done so aU aL fU fL iS hd hnd hlt _ _ _ _ _ _ _
  have:=z24 _ _ hnd hlt
  omega
 | succ d ih =>
  intro M at_ o done so aU aL fU fL iS hd hnd hlt hm hat ho hU hL hl hc
  refine zeu hs hP hPl hPn hto hto2 hlast (goR s P to last d) (fun k o' u so' y hs' hy=>?_) (fun M' k o' so' aU' aL' fU' fL' hk hkd ho' hm' hU' hL' hl' hc'=>?_) hm hat ho hU hL (by omega) (by omega) (by omega)
  ·have:=zhd hP hto hto2 hy;omega
  ·have hkP:k < P.length:=by rw [hP,List.length_append];omega
   exact ih M' k o' (k :: done) so' aU' aL' fU' fL' true (by rw [List.length_cons];omega) (List.nodup_cons.2 ⟨hkd,hnd⟩) (fun j hj=>by
    rcases List.mem_cons.1 hj with rfl|hj
    ·exact hk
    ·exact hlt j hj) hm' hkP ho' hU' hL' (by rw [List.length_cons];omega) (by rw [List.length_cons];omega)
theorem ze6:∀ n:Nat,rep n [.bool false]=(List.replicate n false).flatMap boolc
 | 0=>rfl
 | n+1=>by
  show [LV.bool false] ++ rep n [.bool false]=_
  rw [ze6 n];rfl
theorem zin {s:Cr}:usedL s []=List.replicate s.buoys.length false:=by
 refine List.ext_getElem (by rw [z1d,List.length_replicate]) fun j h1 h2=>?_
 rw [z7h,List.getElem_replicate];simp
set_option maxHeartbeats 16000000 in
theorem zev {A:CrA} {s:Cr} {P more:List Pt} (hs:CrOk s) (hP:P=s.buoys ++ more) (hPl:∀ p ∈ P,PlP p) (hPn:P.length<=100) {fr to:Nat} (hfr:fr < P.length) (hto:s.buoys.length<=to) (hto2:to < P.length) {a b:Int} (ha:0<=a /\ a<=7) (hb:0<=b /\ b<=7) {aP aF:Option (Nat × Nat)} {fP fF:Bool} {M:Mem} (hm:MpM M A s P aP aF) :
  CallOk Tryz.prog 47 [.agg (mpc A s aP P.length fP aF P.length fF),I fr,I a,I to,I b] M (fun v M'=>Grow M M' /\ ∃ sl c b',v=wyv sl c b' /\ WayN M.next M' (passR s P fr a to b) sl c b'):=by
 have hgo:=zpz (A:=A) (aP:=aP) (aF:=aF) (fP:=fP) (fF:=fF) hs hP hPl hPn hto hto2 hb (s.buoys.length+1)
 have hnb:=hs.nb
 obtain ⟨iP,oP,rfl,hrP⟩:=hm.p.resolve_left (fun h=>by rw [h] at hfr;simp at hfr)
 have rPf:=hrP fr hfr
 have rPt:=hrP to hto2
 have ef:P.getD fr (0,0)=P[fr]:=ze hfr
 have et:P.getD to (0,0)=P[to]:=ze hto2
 have htu:=hs.turn
 have htr:=z3j a b
 have hmu:=z0o (a:=s.turn) (b:=trnF a b) (A:=1000) (B:=4) (by omega) (by omega)
 have hmu0:0<=s.turn*trnF a b:=Int.mul_nonneg (by omega) (by omega)
 unfold passR
 rw [ef,et]
 have hiP:=rPf.2
 generalize P[fr]=pf at *
 generalize P[to]=pt at *
 refine z6 kq47 rfl ?_
 dsimp only [xq47,qm,qf,ql,qL,qb,qc,qa,qn,qB,qS,qo,qk,qK,qq,qZ,qN,zipE,Nat.reduceAdd]
 (have hrd0:=rPf;have hrd1:=rPt;repeat' first|with_reducible intro _|refine sv ?_|refine sc ?_ ?_<;>(intro h;try exact sz h)|refine sg ?_ ?_<;>(intro h;first|exact sz h|refine sy h ?_)|exact sq|fail)
 rename_i n5 M1 hn5 e1 e2 n10 M2 hn10 e3 e4
 refine zbu (by exact gd) (ziy rfl rfl (Nat.le_refl _) (by omega) (by omega)) ?_
 have hnU:New M2 M2.next (.cells true (rep s.buoys.length [.bool false]) 4) (M2.push (.cells true (rep s.buoys.length [.bool false]) 4)):=⟨rfl,rfl⟩
 generalize hM3:M2.push (.cells true (rep s.buoys.length [.bool false]) 4)=M3 at hnU ⊢
 have e5:=hnU.next
 generalize hiU:M2.next=iU at hnU e5 ⊢
 rw [ze6,<- zin] at hnU
 (have hrd0:=rPf;have hrd1:=rPt;repeat' first|with_reducible intro _|refine sv ?_|refine sc ?_ ?_<;>(intro h;try exact sz h)|refine sg ?_ ?_<;>(intro h;first|exact sz h|refine sy h ?_)|exact sq|fail)
 rename_i n28 M4 hn28 e6 e7
 have hg4:Grow M M4:=xg
 have hU4:SlA 1 boolc M4 (some (iU,0)) (usedL s []):=.inr ⟨iU,0,rfl,fun j hj=>zo (enc:=boolc) (At.new_old hn28 (At.new_same hnU)) (fun _ _=>rfl) hj⟩
 have hL4:SlA 2 ptc M4 (some (n28,0)) [pf]:=.inr ⟨n28,0,rfl,fun j hj=>zo (enc:=ptc) (l:=[pf]) (At.new_same hn28) (fun _ _=>rfl) hj⟩
 have hcall:=hgo M4 fr a [] ([pf],0) (some (iU,0)) (some (n28,0)) (Nat.beq s.buoys.length s.buoys.length) true false (by simp) List.nodup_nil (fun _ h=>by cases h) (hm.grow hg4) hfr ha hU4 hL4 rfl ⟨Int.le_refl 0,by simp⟩
 clear hg4
 (repeat' first|with_reducible intro _|refine sv ?_|refine sc ?_ ?_<;>(intro h;try exact sz h)|(with_reducible first|apply zk|apply zu|apply z00);exact gd;exact rfl;exact rfl;exact hcall|refine sg ?_ ?_<;>(intro h;first|exact sz h|refine sy h ?_)|exact sq|fail)
 rename_i w M5 hq n11 M6 hn11 e8 e9
 obtain ⟨hg5,sl1,c1,b1,rfl,hw1⟩:=hq
 obtain ⟨a1,nn1,f1,es1,rfl⟩:=hw1.shape
 have le5:=hg5.le
 have hlen1:∀ y,goR s P to b (s.buoys.length+1) fr a [] ([pf],0)=some y->y.1.length<=1000:=fun y hy=>by have:=zhd hP hto hto2 hy;simp at this;omega
 generalize goR s P to b (s.buoys.length+1) fr a [] ([pf],0)=gr at *
 have hpq:pf=pt ↔ (pf.1=pt.1 /\ pf.2=pt.2):=Prod.ext_iff
 have hMn:M.next<=n5 /\ M.next<=n10 /\ M4.next<=n11 /\ n10 < M4.next:=by omega
 (have hrd0:=rPf;have hrd1:=rPt;repeat' first|with_reducible intro _|refine sv ?_|refine sc ?_ ?_<;>(intro h;try exact sz h)|(with_reducible first|apply zj|apply zi|apply zd);exact gd;exact rfl;exact rfl;exact z3x _ _ (by omega) (by omega) _|refine sg ?_ ?_<;>(intro h;first|exact sz h|refine sy h ?_)|exact sq|fail)
 ·rename_i M7 hu7 eu7 a7 n47 M8 hn8 e10 e11 n12 M9 hn9 e12 e13 M10 hu10 e14 a10
  have hpe:pf=pt:=hpq.2 (by simpa using h)
  rw [if_pos hpe,z8q]
  have hk:Keep (fun i=>i=n11) M5 M10:=(((((Keep.refl (fun i=>i=n11) M5).new hn11).upd hu7 (.inl rfl)).new hn8).new hn9).upd hu10 (.inr (by omega))
  have hwk:=hw1.keep hk (fun i h1 h2=>by omega)
  have b47:At M10 n47 (.cells true ([pf].flatMap ptc) 30):=(At.new_old hn9 (At.new_same hn8)).upd_ne hu10 (by omega)
  have r11:At M10 n11 (.cells true [.slice a1 nn1 f1 es1,I c1,.bool b1] 102):=(At.new_old hn9 (At.new_old hn8 a7)).upd_ne hu10 (by omega)
  have hbt:=z6f (x:=some ([pf],s.turn*trnF a b)) (y:=gr) ⟨rfl,rfl,some (n47,0),true,rfl,.inr ⟨n47,0,rfl,z0r b47⟩⟩ hwk.d (fun p h=>by cases h;show [pf].length<=1000;simp) hlen1
  have l47:=b47.2
  clear hk
  cases hbo:betO (some ([pf],s.turn*trnF a b)) gr with
  | true =>
   rw [hbo] at hbt
   rw [if_pos rfl]
   (repeat' first|with_reducible intro _|refine sv ?_|refine sc ?_ ?_<;>(intro h;try exact sz h)|(with_reducible first|apply za|apply z8|apply z5);exact gd;exact rfl;exact rfl;exact hbt|refine sg ?_ ?_<;>(intro h;first|exact sz h|refine sy h ?_)|exact sq|fail)
   rename_i M11 hg11 le11 M12 hu12 e15 a12 M13 hu13 e16 a13
   (refine kf ?_)
   exact ⟨xg,_,_,_,rfl,rfl,rfl,n47,true,rfl,xm,by omega⟩
  | false =>
   rw [hbo] at hbt
   rw [if_neg (by decide)]
   (repeat' first|with_reducible intro _|refine sv ?_|refine sc ?_ ?_<;>(intro h;try exact sz h)|(with_reducible first|apply za|apply z8|apply z5);exact gd;exact rfl;exact rfl;exact hbt|refine sg ?_ ?_<;>(intro h;first|exact sz h|refine sy h ?_)|exact sq|fail)
   rename_i M11 hg11 le11 M13 hu13 e16 a13
   (refine kf ?_)
   exact ⟨xg,_,_,_,rfl,((hwk.keep (hg11.to_keep (fun _=>False)) (fun _ _ _ h=>h)).keep ((Keep.refl (fun i=>i=n10) M11).upd hu13 (.inl rfl)) (fun i h1 h2=>by omega)).low (by omega)⟩
 ·rename_i M7 hu7 eu7 a7 M13 hu13 e16 a13
  have hpe:¬ pf=pt:=fun h'=>by have h2:=hpq.1 h';simp [h2.1,h2.2] at h
  rw [if_neg hpe]
  have hk:Keep (fun i=>i=n11 ∨ i=n10) M5 M13:=(((Keep.refl (fun i=>i=n11 ∨ i=n10) M5).new hn11).upd hu7 (.inl (.inl rfl))).upd hu13 (.inl (.inr rfl))
  (refine kf ?_)
  exact ⟨xg,_,_,_,rfl,(hw1.keep hk (fun i h1 h2=>by omega)).low (by omega)⟩
end Go.Proofs.YtpccafeedfpbaaaGreat.C
end
section
open Go PvL Go.Proofs
set_option linter.unusedVariables false
set_option linter.unusedSimpArgs false
namespace Go.Proofs.YtpccafeedfpbaaaGreat.C
section
variable {α:Type} {b q:Nat} {ty:TypeId} {enc:α->List LV} {M:Mem} {v:LV} {l l':List α} {P:Program} [Orc P] {sz:Nat} {E:Env} {K:Env->Mem->Prop} {ll:List XG} {d:Nat} {g:Option (Nat × Bool)} {s x:XO} {by':Nat} {z:List LV} {xv:LV}
theorem z56 (hg:GOn E g) (hv:Vec b q ty enc M v l) (hs:xval E s=some v) (hx:xval E x=some xv) (hn:lenOfL xv=some l'.length) (hb:(2*(l.length+l'.length)+2048)*by'<=140737488355328) (hz:(Nat.ble 1 q && (Nat.ble 1 by' && Nat.beq z.length q))=true) (hw:0 < l'.length->firstL q l'.length xv M=some (l'.flatMap enc))
  (henc:∀ x,(enc x).length=q) (hfl:∀ x,allFlat (enc x)=true) (hbM:b<=M.next) (hk:∀ v' M',Vec b q ty enc M' v' (l ++ l')->M.next<=M'.next->Keep (fun i=>b<=i /\ ∃ o n f e,v=.slice (some (i,o)) n f e) M M'->XW P sz ll ((d,v') :: E) M' K):XW P sz (⟨some d,.app ty q by' z s x,g⟩ :: ll) E M K:=by
 rcases Nat.eq_zero_or_pos l'.length with h0|h0
 ·obtain rfl:l'=[]:=List.length_eq_zero_iff.1 h0
  obtain ⟨a,f,e,hsh⟩:=hv.shape
  have h1:=hk v M (by rw [List.append_nil];exact hv) (Nat.le_refl _) (Keep.refl _ _)
  rw [hsh] at hs h1
  exact zkv hg (zft hs hx hn) h1
 ·exact z0q hg hv hs hx hn h0 hb hz (hw h0) henc hfl hbM fun v' M' h1 h2 h3=>hk v' M' h1 (by omega) h3
end
theorem z7f {α:Type} {q:Nat} {enc:α->List LV} {M:Mem} {a:Option (Nat × Nat)} {l:List α} {f:Bool} {e:Nat} (h:SlA q enc M a l) (henc:∀ x ∈ l,(enc x).length=q) (h0:0 < l.length):firstL q l.length (.slice a l.length f e) M=some (l.flatMap enc):=by
 obtain ⟨i,o,rfl,hr⟩:=h.resolve_left (fun h=>by rw [h] at h0;simp at h0)
 exact zn henc hr
abbrev mpw (A:CrA) (s:Cr) (aP:Option (Nat × Nat)) (n:Nat) (fP:Bool) (v:LV):List LV:=[.slice A.aL s.lines.length A.fL 4,.slice A.aF s.fields.length A.fF A.eF,.slice A.aB s.buoys.length A.fB 2,I s.spread.1.1,I s.spread.1.2,I s.spread.2.1.1,I s.spread.2.1.2,I s.spread.2.2.1.1,I s.spread.2.2.1.2,I s.spread.2.2.2.1,I s.spread.2.2.2.2,
 I s.start.1.1,I s.start.1.2,I s.start.2,I s.speed,I s.turn,.slice A.aO s.opn.length A.fO 1,.slice aP n fP 2,v]
noncomputable def rowB (s:Cr) (P:List Pt) (i m:Nat):List Bool:=(List.range m).map fun j=>frB s P i j
theorem zkp {s:Cr} {P:List Pt} {i m:Nat}:rowB s P i (m+1)=rowB s P i m ++ [frB s P i m]:=by unfold rowB;rw [List.range_succ,List.map_append];rfl
abbrev rslc (n:Nat) (i:Nat):List LV:=[.slice (some (i,0)) n false 1]
theorem zq8 {s:Cr} (hs:CrOk s) {P:List Pt} {i k:Nat} (hi:i < P.length) (hk:k < P.length):frB s P i k=(decide (P[i] ≠ P[k]) && freeF s P[i] P[k]):=by
 unfold frB
 rw [ze hi,ze hk,z7z hs]
set_option maxHeartbeats 16000000 in
theorem zjk {A:CrA} {s:Cr} {more:List Pt} {aM:Option (Nat × Nat)} {fM:Bool} {eM:Nat} {M:Mem} (hs:CrOk s) (hM:CrM M A s) (hm:SlA 2 ptc M aM more) (hm0:0 < more.length) (hmn:more.length<=50) :
  CallOk Tryz.prog 46 [crv A s,.slice aM more.length fM eM] M (fun v M'=>Grow M M' /\ ∃ aP fP aF fF,v=.agg (mpc A s aP (s.buoys ++ more).length fP aF (s.buoys ++ more).length fF) /\ MpM M' A s (s.buoys ++ more) aP aF):=by
 have hnb:=hs.nb
 refine z6 kq46 rfl ?_
 dsimp only [xq46,qm,qf,ql,qL,qi,qb,qa,qn,qB,qC,qg,qS,qo,qk,qK,qq,qZ,qN,zipE,Nat.reduceAdd]
 (repeat' first|with_reducible intro _|refine sv ?_|refine sc ?_ ?_<;>(intro h;try exact sz h)|refine sg ?_ ?_<;>(intro h;first|exact sz h|refine sy h ?_)|exact sq|fail)
 rename_i n2 M1 hn2 e1 e2 n4 M2 hn4 e3 e4 n5 M3 hn5 e5 e6 M4 hu4 e7 a4
 have hg4:Grow M M4:=xg
 have hB4:SlA 2 ptc M4 A.aB s.buoys:=SlA.grow hM.buoys hg4
 have hm4:=hm.grow hg4
 have hg4s:Grow M M4 /\ True:=⟨hg4,trivial⟩
 clear hg4
 refine z56 (by exact gd) (b:=M4.next) (l:=[]) (l':=s.buoys) (enc:=ptc) (.inl ⟨rfl,rfl⟩) rfl rfl rfl (by simp;omega) rfl (fun h0=>z7f hB4 (fun _ _=>rfl) h0) (fun _=>rfl) (fun _=>rfl) (Nat.le_refl _) ?_
 intro v1 M5 hv5 e8 hk5
 have hv5:Vec M4.next 2 30 ptc M5 v1 s.buoys:=hv5
 have hg5:Grow M4 M5:=hk5.to_grow (fun i hi=>hi.1)
 clear hk5
 (repeat' first|with_reducible intro _|refine sv ?_|refine sc ?_ ?_<;>(intro h;try exact sz h)|refine sg ?_ ?_<;>(intro h;first|exact sz h|refine sy h ?_)|exact sq|fail)
 refine z56 (by exact gd) (l':=more) hv5 rfl rfl rfl (by omega) rfl (fun h0=>z7f (hm4.grow hg5) (fun _ _=>rfl) h0) (fun _=>rfl) (fun _=>rfl) (by omega) ?_
 intro v2 M6 hv6 e9 hk6
 have hg6:Grow M4 M6:=Keep.to_grow' hg5 hk6 (fun i hi=>hi.1)
 clear hk6
 have hP50:(s.buoys ++ more).length<=54 /\ 0 < (s.buoys ++ more).length:=by rw [List.length_append];omega
 generalize hPe:s.buoys ++ more=P at *
 rcases hv6 with ⟨h0,_⟩|⟨iP,rfl,hP6,hiP⟩
 ·rw [h0] at hP50;simp at hP50
 have le6:=hg6.le
 have l6P:=hP6.2
 have a6:=a4.grow hg6
 (repeat' first|with_reducible intro _|refine sv ?_|refine sc ?_ ?_<;>(intro h;try exact sz h)|refine sg ?_ ?_<;>(intro h;first|exact sz h|refine sy h ?_)|exact sq|fail)
 rename_i M7 hu7 e10 a7
 have hk67:Keep (fun i=>i=n5) M6 M7:=(Keep.refl (fun i=>i=n5) M6).upd hu7 (.inl rfl)
 have hg07:Grow M M7:=Keep.to_grow' (hg4s.1.trans hg6) hk67 (fun i hi=>by omega)
 have b2:At M7 n2 (.cells true (crc A s) 35):=(At.grow hg6 (xm)).keep hk67 (by omega)
 have b4:At M7 n4 (.cells true [.slice none 0 true 0,.slice none 0 true 0,.slice none 0 true 0,I 0,I 0,I 0,I 0,I 0,I 0,I 0,I 0,I 0,I 0,I 0,I 0,I 0,.slice none 0 true 0,.slice none 0 true 0,.slice none 0 true 0] 99):=(At.grow hg6 (xm)).keep hk67 (by omega)
 have bP:At M7 iP (.cells true (P.flatMap ptc) 30):=hP6.keep hk67 (by omega)
 have b5:At M7 n5 (.cells true (mpw A s (some (iP,0)) P.length false (.slice none 0 true 0)) 99):=a7
 have hord:n2 < n4 /\ n4 < n5 /\ n5 < iP /\ iP < M7.next /\ M.next<=n2:=by omega
 clear hg6 hg5 hn2 hn4 hn5 hu4 hu7 hk67 a7 a6 a4 hP6 hv5 hB4 hm4
 refine zc (fun n E ms M'=>∃ (k:Nat) (vo:LV) (is:List Nat),n=P.length - k /\ k<=P.length /\ is.length=k /\ ms=[] /\ Has E [(2,.ptr (some (n2,0))),(4,.ptr (some (n4,0))),(5,.ptr (some (n5,0))),(6,I k)] /\ Keep (fun i=>i=n5) M7 M' /\ At M' n5 (.cells true (mpw A s (some (iP,0)) P.length false vo) 99) /\
   Vec M7.next 1 178 (rslc P.length) M' vo is /\ ∀ j (hj:j < is.length),M7.next<=is[j] /\ At M' is[j] (.cells true ((rowB s P j P.length).flatMap boolc) 4)) ?_ P.length _ _ _
  ⟨0,_,[],by omega,by omega,rfl,rfl,.cons rfl (.cons rfl (.cons rfl (.cons rfl .nil))),Keep.refl _ _,b5,.nil,fun j hj=>by simp at hj⟩
 rintro n E ms M8 ⟨k,vo,is,rfl,hk,hisl,rfl,hE,hk8,c5,hvo,hbk⟩
 refine zw hE ?_
 have le8:=hk8.le
 have c2:=b2.keep hk8 (by omega)
 have c4:=b4.keep hk8 (by omega)
 have cP:=bP.keep hk8 (by omega)
 have l2:=c2.2
 have l4:=c4.2
 have l5:=c5.2
 have lP:=cP.2
 by_cases hlast:k=P.length
 ·subst hlast
  rcases hvo with ⟨h0,_⟩|⟨iv,rfl,av,hb⟩
  ·rw [h0] at hisl;simp at hisl;omega
  have hMv:∀ M',Keep (fun i=>i=n4) M8 M'->MpM M' A s P (some (iP,0)) (some (iv,0)):=fun M' hk'=>⟨hM.grow (Keep.to_grow' (Keep.to_grow' hg07 hk8 (fun i hi=>by omega)) hk' (fun i hi=>by omega)),.inr ⟨iP,0,rfl,z0r (cP.keep hk' (by omega))⟩,.inr ⟨iv,0,rfl,fun j hj=>by
   have hj1:j < is.length:=by rw [zhb] at hj;omega
   obtain ⟨g1,g2⟩:=hbk j hj1
   have hrow:(frM s P)[j]=rowB s P j P.length:=(List.getElem_map (l:=List.range P.length) (fun i=>(List.range P.length).map fun k=>frB s P i k) (i:=j) (h:=hj)).trans (congrArg (fun i=>(List.range P.length).map fun k=>frB s P i k) (List.getElem_range ..))
   have hrl:(rowB s P j P.length).length=P.length:=by unfold rowB;rw [List.length_map,List.length_range]
   rw [hrow]
   refine ⟨some (is[j],0),false,?_,?_,by rw [hrl];omega⟩
   ·rw [hrl]
    exact (zo (enc:=rslc P.length) (av.keep hk' (by omega)) (fun _ _=>rfl) hj1).nth (j:=0) rfl
   ·exact .inr ⟨is[j],0,rfl,fun q hq=>zo (enc:=boolc) (g2.keep hk' (by omega)) (fun _ _=>rfl) hq⟩⟩⟩
  have hg08:Grow M M8:=Keep.to_grow' hg07 hk8 (fun i hi=>by omega)
  have hgs:Grow M M8 /\ True:=⟨hg08,trivial⟩
  clear hg08 hg07 hg4s
  (repeat' first|with_reducible intro _|refine sv ?_|refine sc ?_ ?_<;>(intro h;try exact sz h)|refine sg ?_ ?_<;>(intro h;first|exact sz h|refine sy h ?_)|exact sq|fail)
  rename_i M9 hu9 e12 a9
  have hk9:Keep (fun i=>i=n4) M8 M9:=(Keep.refl (fun i=>i=n4) M8).upd hu9 (.inl rfl)
  have hg89:Grow M M9:=Keep.to_grow' hgs.1 hk9 (fun i hi=>by omega)
  (refine kf ?_)
  exact ⟨hg89,some (iP,0),false,some (iv,0),false,by rw [hisl];rfl,hMv _ hk9⟩
 have hlt:k < P.length:=by omega
 have hg08:Grow M M8:=Keep.to_grow' hg07 hk8 (fun i hi=>by omega)
 have hM8:=hM.grow hg08
 clear hg08
 (repeat' first|with_reducible intro _|refine sv ?_|refine sc ?_ ?_<;>(intro h;try exact sz h)|refine sg ?_ ?_<;>(intro h;first|exact sz h|refine sy h ?_)|exact sq|fail)
 refine zc (fun n E ms M'=>∃ (m:Nat) (vr:LV),n=P.length - m /\ m<=P.length /\ ms=[] /\ Has E [(2,.ptr (some (n2,0))),(4,.ptr (some (n4,0))),(5,.ptr (some (n5,0))),(6,I k),(7,vr),(8,I m)] /\ Grow M8 M' /\ Vec M8.next 1 4 boolc M' vr (rowB s P k m)) ?_ P.length _ _ _
  ⟨0,_,by omega,by omega,rfl,.cons rfl (.cons rfl (.cons rfl (.cons rfl (.cons rfl (.cons rfl .nil))))),Grow.refl _,.nil⟩
 rintro n E2 ms M9 ⟨m,vr,rfl,hm9,rfl,hE2,hg9,hvr⟩
 refine zw hE2 ?_
 have le9:=hg9.le
 have d2:=c2.grow hg9
 have d5:=c5.grow hg9
 have dP:=cP.grow hg9
 by_cases hlm:m=P.length
 ·subst hlm
  have hrl:(rowB s P k P.length).length=P.length:=by unfold rowB;rw [List.length_map,List.length_range]
  rcases hvr with ⟨h0,_⟩|⟨iR,rfl,hR,hRb⟩
  ·rw [h0] at hrl;simp at hrl;omega
  rw [hrl]
  obtain ⟨ao,fo,eo,rfl⟩:=hvo.shape
  (repeat' first|with_reducible intro _|refine sv ?_|refine sc ?_ ?_<;>(intro h;try exact sz h)|refine sg ?_ ?_<;>(intro h;first|exact sz h|refine sy h ?_)|exact sq|fail)
  rename_i n64 M10 hn64 e12 e13
  have hvo10:Vec M7.next 1 178 (rslc P.length) M10 (.slice ao is.length fo eo) is:=hvo.grow (hg9.trans hn64.grow)
  have hw10:firstL 1 1 (.slice (some (n64,0)) 1 true 1) M10=some ([iR].flatMap (rslc P.length)):=zn (enc:=rslc P.length) (l:=[iR]) (fun _ _=>rfl) (fun k hk=>zo (enc:=rslc P.length) (l:=[iR]) (At.new_same hn64) (fun _ _=>rfl) hk)
  refine z0q (by exact gd) (l':=[iR]) hvo10 rfl rfl rfl (by simp) (by rw [List.length_singleton];omega) rfl hw10 (fun _=>rfl) (fun _=>rfl) (by omega) ?_
  intro v11 M11 hv11 e14 hk11
  have le11:=hk11.le
  have hg810:Grow M8 M10:=hg9.trans hn64.grow
  have hF:∀ i,(∃ cs ty,At M10 i (.cells true cs ty) /\ ty ≠ 178)->¬ (M7.next<=i /\ ∃ o n f e,LV.slice ao is.length fo eo=.slice (some (i,o)) n f e):=by
   rintro i ⟨cs,ty,hi,hty⟩ ⟨h1,o,n,f,e,h2⟩
   rcases hvo10 with ⟨_,q1⟩|⟨q,q1,q2,_⟩
   ·rw [q1] at h2;cases h2
   ·rw [q1] at h2
    cases h2
    exact hty (z5t hi q2)
  have d10:At M10 n5 (.cells true (mpw A s (some (iP,0)) P.length false (.slice ao is.length fo eo)) 99):=c5.grow hg810
  have d11:=d10.keep hk11 (hF _ ⟨_,_,d10,by decide⟩)
  have hR10:=hR.grow hn64.grow
  have hR11:=hR10.keep hk11 (hF _ ⟨_,_,hR10,by decide⟩)
  have hbk11:∀ j (hj:j < is.length),M7.next<=is[j] /\ At M11 is[j] (.cells true ((rowB s P j P.length).flatMap boolc) 4):=fun j hj=>by
   obtain ⟨g1,g2⟩:=hbk j hj
   have g3:=g2.grow hg810
   exact ⟨g1,g3.keep hk11 (hF _ ⟨_,_,g3,by decide⟩)⟩
  have hk811:Keep (fun i=>M7.next<=i) M8 M11:=(hg810.to_keep _).trans hk11 (fun i hi=>.inl hi.1)
  clear hF hg810 hvo hvo10 hk11
  obtain ⟨av,fv,ev,rfl⟩:=hv11.shape
  (repeat' first|with_reducible intro _|refine sv ?_|refine sc ?_ ?_<;>(intro h;try exact sz h)|refine sg ?_ ?_<;>(intro h;first|exact sz h|refine sy h ?_)|exact sq|fail)
  rename_i M12 hu12 e15 a12
  have hv12:Vec M7.next 1 178 (rslc P.length) M12 (.slice av (is ++ [iR]).length fv ev) (is ++ [iR]):=Or.imp id (fun ⟨i,z1,z2,z3⟩=>⟨i,z1,z2.upd_ne hu12 (by omega),z3⟩) hv11
  refine zg (P.length - (k+1)) (by omega) ⟨k+1,_,is ++ [iR],rfl,by omega,by rw [List.length_append,List.length_singleton];omega,rfl,.cons rfl (.cons rfl (.cons rfl (.cons rfl .nil))),(hk8.trans hk811 (fun i hi=>.inr hi)).upd hu12 (.inl rfl),a12,hv12,fun j hj=>?_⟩
  by_cases hjk:j < is.length
  ·rw [List.getElem_append_left hjk]
   obtain ⟨g1,g2⟩:=hbk11 j hjk
   exact ⟨g1,g2.upd_ne hu12 (by omega)⟩
  ·obtain rfl:j=is.length:=by rw [List.length_append,List.length_singleton] at hj;omega
   rw [List.getElem_append_right (Nat.le_refl _)]
   simp only [Nat.sub_self,List.getElem_cons_zero]
   subst hisl
   exact ⟨by omega,hR11.upd_ne hu12 (by omega)⟩
 have hmlt:m < P.length:=by omega
 have rPk:Rd M9 iP (0+k*2) 2 (ptc P[k]):=z0r dP k hlt
 have rPm:Rd M9 iP (0+m*2) 2 (ptc P[m]):=z0r dP m hmlt
 have hfe:=zq8 hs hlt hmlt
 have hcf:=fun M' (hg:Grow M8 M')=>zl1 (A:=A) (s:=s) (a:=P[k]) (b:=P[m]) (hM8.grow hg)
 have hpq:P[k]=P[m] ↔ ((P[k]).1=(P[m]).1 /\ (P[k]).2=(P[m]).2):=Prod.ext_iff
 generalize P[k]=pk at *
 generalize P[m]=pm at *
 have l9:=rPk.2
 obtain ⟨av,fv,ev,rfl⟩:=hvr.shape
 have hlr:(rowB s P k m).length=m:=by unfold rowB;rw [List.length_map,List.length_range]
 have hfin:∀ {E':Env} {M1:Mem} {x:Bool} {K:Ex->Env->List Nat->Mem->Prop} {vr':LV},x=frB s P k m->Has E' [(2,.ptr (some (n2,0))),(4,.ptr (some (n4,0))),(5,.ptr (some (n5,0))),(6,I k),(7,vr'),(8,I ((m+1:Nat):Int))]->Grow M8 M1->Vec M8.next 1 4 boolc M1 vr' (rowB s P k m ++ [x]) ->
   KStep (fun n E ms M'=>∃ (m:Nat) (vr:LV),n=P.length - m /\ m<=P.length /\ ms=[] /\ Has E [(2,.ptr (some (n2,0))),(4,.ptr (some (n4,0))),(5,.ptr (some (n5,0))),(6,I k),(7,vr),(8,I m)] /\ Grow M8 M' /\ Vec M8.next 1 4 boolc M' vr (rowB s P k m)) (P.length - m) K .norm E' [] M1:=by
  intro E' M1 x K vr' hx h1 h2 h3
  refine zg (P.length - (m+1)) (by omega) ⟨m+1,vr',rfl,by omega,rfl,h1,h2,?_⟩
  rw [zkp,<- hx];exact h3
 by_cases hne:pk=pm
 ·obtain ⟨q1,q2⟩:=hpq.1 hne
  have hx:false=frB s P k m:=by rw [hfe,decide_eq_false (fun h=>h hne)];rfl
  (have hrd0:=rPk;have hrd1:=rPm;repeat' first|with_reducible intro _|refine sv ?_|refine sc ?_ ?_<;>(intro h;try exact sz h)|(with_reducible first|apply za|apply z8|apply z5);exact gd;exact rfl;exact rfl;exact hcf _ (xg)|refine sg ?_ ?_<;>(intro h;first|exact sz h|refine sy h ?_)|exact sq|fail)
  rename_i nB MB hnB eB1 eB2
  have hwB:firstL 1 1 (.slice (some (nB,0)) 1 true 1) MB=some ([false].flatMap boolc):=zn (enc:=boolc) (l:=[false]) (fun _ _=>rfl) (fun k hk=>zo (enc:=boolc) (l:=[false]) (At.new_same hnB) (fun _ _=>rfl) hk)
  have hvB:Vec M8.next 1 4 boolc MB (.slice av (rowB s P k m).length fv ev) (rowB s P k m):=Or.imp id (fun ⟨i,z1,z2,z3⟩=>⟨i,z1,At.new_old hnB z2,z3⟩) hvr
  refine z0n (by exact gd) (l':=[false]) hvB rfl rfl rfl (by simp) (by rw [List.length_singleton];omega) rfl hwB (fun _=>rfl) (fun _=>rfl) (by omega) ?_
  intro v3 MC hvC eC hkC
  have hgC:Grow M8 MC:=Keep.to_grow' (hg9.trans hnB.grow) hkC (fun i hi=>hi.1)
  clear hkC
  (repeat' first|with_reducible intro _|refine sv ?_|refine sc ?_ ?_<;>(intro h;try exact sz h)|refine sg ?_ ?_<;>(intro h;first|exact sz h|refine sy h ?_)|exact sq|fail)
  exact hfin hx (.cons rfl (.cons rfl (.cons rfl (.cons rfl (.cons rfl (.cons rfl .nil)))))) hgC hvC
 ·have hne':¬ (pk.1=pm.1 /\ pk.2=pm.2):=fun h=>hne (hpq.2 h)
  have hx:freeF s pk pm=frB s P k m:=by rw [hfe,decide_eq_true hne];rfl
  generalize freeF s pk pm=x at *
  (have hrd0:=rPk;have hrd1:=rPm;repeat' first|with_reducible intro _|refine sv ?_|refine sc ?_ ?_<;>(intro h;try exact sz h)|(with_reducible first|apply za|apply z8|apply z5);exact gd;exact rfl;exact rfl;exact hcf _ (xg)|refine sg ?_ ?_<;>(intro h;first|exact sz h|refine sy h ?_)|exact sq|fail)
  rename_i MA hgA leA nB MB hnB eB1 eB2
  have hgAB:Grow M9 MB:=hgA.trans hnB.grow
  have hwB:firstL 1 1 (.slice (some (nB,0)) 1 true 1) MB=some ([x].flatMap boolc):=zn (enc:=boolc) (l:=[x]) (fun _ _=>rfl) (fun k hk=>zo (enc:=boolc) (l:=[x]) (At.new_same hnB) (fun _ _=>rfl) hk)
  have hvB:Vec M8.next 1 4 boolc MB (.slice av (rowB s P k m).length fv ev) (rowB s P k m):=Or.imp id (fun ⟨i,z1,z2,z3⟩=>⟨i,z1,z2.grow hgAB,z3⟩) hvr
  clear hgAB
  refine z0n (by exact gd) (l':=[x]) hvB rfl rfl rfl (by simp) (by rw [List.length_singleton];omega) rfl hwB (fun _=>rfl) (fun _=>rfl) (by omega) ?_
  intro v3 MC hvC eC hkC
  have hgC:Grow M8 MC:=Keep.to_grow' ((hg9.trans hgA).trans hnB.grow) hkC (fun i hi=>hi.1)
  clear hkC
  (repeat' first|with_reducible intro _|refine sv ?_|refine sc ?_ ?_<;>(intro h;try exact sz h)|refine sg ?_ ?_<;>(intro h;first|exact sz h|refine sy h ?_)|exact sq|fail)
  exact hfin hx (.cons rfl (.cons rfl (.cons rfl (.cons rfl (.cons rfl (.cons rfl .nil)))))) hgC hvC
end Go.Proofs.YtpccafeedfpbaaaGreat.C
end
section
open Go PvL Go.Proofs
set_option linter.unusedSimpArgs false
set_option linter.unusedVariables false
namespace Go.Proofs.YtpccafeedfpbaaaGreat.C
theorem znu {s:Cr} (hs:CrOk s) {tab:List Int} {set c:Nat} (htb:∀ v ∈ tab,-1<=v /\ v<=5000000) {x:Rch} (hx:x ∈ befL s tab set c):PoseOk x.1 /\ 0<=x.2 /\ x.2<=5000000:=by
 unfold befL at hx
 split at hx
 ·obtain rfl:=List.mem_singleton.1 hx
  exact ⟨hs.start,Int.le_refl 0,show (0:Int)<=5000000 by decide⟩
 ·obtain ⟨y,hy,h⟩:=List.mem_filterMap.1 hx
  have hy2:=List.mem_range.1 hy
  split at h
  ·rename_i hne
   cases h
   refine ⟨z9a hs (z29 hy2),?_⟩
   show 0<=tab.getD _ 0 /\ tab.getD _ 0<=5000000
   rcases Nat.lt_or_ge (plN s (restN set (c / 2)) y) tab.length with h1|h1
   ·rw [ze h1] at hne ⊢
    have:=htb _ (List.getElem_mem h1)
    omega
   ·rw [List.getD_eq_getElem?_getD,List.getElem?_eq_none h1] at *
    exact ⟨by decide,by decide⟩
  ·cases h
abbrev befG (ne nx nq nt:Nat):LV:=.func (.func 146) [] [.ptr (some (ne,0)),.ptr (some (nx,0)),.ptr (some (nq,0)),.ptr (some (nt,0))]
theorem zgc {pc pk set c:Nat} {aT:Option (Nat × Nat)} {n:Nat} {fT:Bool} (M:Mem):CallOk Tryz.prog 117 [planv pc pk,.slice aT n fT 1,I set,shC c] M (fun v M'=>∃ ne nx nq nt,v=befG ne nx nq nt /\ Grow M M' /\ (M.next<=ne /\ M.next<=nx /\ M.next<=nq /\ M.next<=nt) /\ At M' nq (.cells true [.ptr (some (pc,0)),.map (some pk)] 109) /\ At M' ne (.cells true [I set] 3) /\
  At M' nx (.cells true [I (c / 2:Nat),I (c % 2:Nat)] 50) /\ At M' nt (.cells true [.slice aT n fT 1] 52)):=by
 refine z6 kq117 rfl ?_
 dsimp only [xq117,qm,qb,qo,qq,zipE,Nat.reduceAdd]
 (repeat' first|with_reducible intro _|refine sv ?_|refine sc ?_ ?_<;>(intro h;try exact sz h)|refine sg ?_ ?_<;>(intro h;first|exact sz h|refine sy h ?_)|exact sq|fail)
 (refine kf ?_)
 exact ⟨_,_,_,_,rfl,xg,⟨by omega,by omega,by omega,by omega⟩,xm,xm,xm,xm⟩
set_option maxHeartbeats 8000000 in
theorem zfv {MB M0:Mem} {A:CrA} {s:Cr} {pc pm pk nq ne nx nt set c:Nat} {aT:Option (Nat × Nat)} {fT:Bool} {tab:List Int} (hpl:PlM MB A s pc pm pk) (htab:SlA 1 intz MB aT tab) (hK:Keep (fun i=>i=pm ∨ i=pk) MB M0) (hkn:KnM M0 s pm) (hkc:KcM M0 s pk)
  (hq0:At M0 nq (.cells true [.ptr (some (pc,0)),.map (some pk)] 109)) (he0:At M0 ne (.cells true [I set] 3)) (hx0:At M0 nx (.cells true [I (c / 2:Nat),I (c % 2:Nat)] 50)) (ht0:At M0 nt (.cells true [.slice aT tab.length fT 1] 52))
  (hs:CrOk s) (hc:c < 2*s.lines.length) (hset:set < 2 ^ s.lines.length) (htl:tab.length=2*s.lines.length*2 ^ s.lines.length) (htb:∀ v ∈ tab,-1<=v /\ v<=5000000) :
  YieldsS Tryz.prog 116 [] [.ptr (some (nq,0)),.ptr (some (nt,0)),.ptr (some (ne,0)),.ptr (some (nx,0))] (fun i=>i < MB.next ∨ i=nq ∨ i=nt ∨ i=ne ∨ i=nx) (fun i=>i=pm ∨ i=pk) (fun M'=>KnM M' s pm /\ KcM M' s pk) (earL s tab set c) (PlainR I) M0:=by
 intro l AA II DD tk hS hI0
 have l1:=hq0.2
 have l2':=he0.2
 have l3:=hx0.2
 have l4:=ht0.2
 have hAlt:=tk.lt
 have hleK:=hK.le
 have hpm0:=hpl.ch.known.lt
 have hpk0:=hpl.kc.lt
 have hpm1:=hkn.lt
 have hpk1:=hkc.lt
 have hAge:∀ i,AA i->MB.next<=i:=fun i hi=>by
  rcases Nat.lt_or_ge i MB.next with h|h
  ·exact absurd hi (hS i (.inl h))
  ·exact h
 have hqm:=hkn.ne_at hq0
 have hqk:=hkc.ne_at hq0
 have hxm:=hkn.ne_at hx0
 have hxk:=hkc.ne_at hx0
 refine z6 kq116 rfl ?_
 dsimp only [xq116,qm,ql,qL,qb,qe,qc,qg,qS,qo,qq,qZ,zipE,Nat.reduceAdd,List.nil_append,List.cons_append]
 (repeat' first|with_reducible intro _|refine sv ?_|refine sc ?_ ?_<;>(intro h;try exact sz h)|refine sg ?_ ?_<;>(intro h;first|exact sz h|refine sy h ?_)|exact sq|fail)
 rename_i ny M1 hny e1 e2
 refine zk (by exact gd) rfl rfl (show AppOk Tryz.prog _ _ M1 _ from zgc (pc:=pc) (pk:=pk) (set:=set) (c:=c) (aT:=aT) (n:=tab.length) (fT:=fT) M1) ?_
 rintro w M4 ⟨ne2,nx2,nq2,nt2,rfl,hg4,⟨g1,g2,g3,g4⟩,aq,ae,ax,at4⟩
 have hle4:=hg4.le
 have q1:=aq.2
 have q2:=ae.2
 have q3:=ax.2
 have q4:=at4.2
 (repeat' first|with_reducible intro _|refine sv ?_|refine sc ?_ ?_<;>(intro h;try exact sz h)|refine sg ?_ ?_<;>(intro h;first|exact sz h|refine sy h ?_)|exact sq|fail)
 apply z2r
 exact rfl
 intro lb d l2 M5 M6 hlb hd e7 e8 hl e9 e10
 have hg46:Grow M4 M6:=hd.grow.trans hl.grow
 have hg06:Grow M0 M6:=(hny.grow.trans hg4).trans hg46
 have hle06:=hg06.le
 have hy:=zkx (M0:=M6) hpl htab (hK.grow hg06) (aq.grow hg46) (ae.grow hg46) (ax.grow hg46) (at4.grow hg46) hs hc hset htl htb
 have by6:At M6 ny (.cells true [.func (.yield l) [] []] 142):=At.grow hg46 (At.grow hg4 (At.new_same hny))
 have bd6:At M6 d .defr:=At.new_old hl (At.new_same hd)
 have hII6:II [] (fun _=>False) M6:=tk.stab _ _ _ _ hI0 hle06 fun i hi=>hg06.old i (by rcases hi with hi|hi;omega;exact hi.elim)
 have hear:earL s tab set c=(befL s tab set c).filterMap fun x=>(goF s x c).map (·.2):=rfl
 refine (hy l2 (fun i=>AA i ∨ i=pm ∨ i=pk ∨ i=l2) (fun dn T M=>Keep (fun i=>AA i ∨ i=pm ∨ i=pk) M0 M /\ KnM M s pm /\ KcM M s pk /\ (∀ i,T i->M0.next<=i /\ i < M.next) /\ II (dn.filterMap fun x=>(goF s x c).map (·.2)) T M /\ At M ny (.cells true [.func (.yield l) [] []] 142) /\ At M l2 (lb .ready none) /\ At M d .defr)
  (fun T M=>Keep (fun i=>AA i ∨ i=pm ∨ i=pk) M0 M /\ KnM M s pm /\ KcM M s pk /\ (∀ i,T i->M0.next<=i /\ i < M.next) /\ DD T M /\ At M l2 (lb .done (some .ret)) /\ At M d .defr) ⟨?_,?_,?_,?_⟩ ?_ ⟨hg06.to_keep _,hkn.at hg06.le (hg06.old _ hkn.lt),hkc.at hg06.le (hg06.old _ hkc.lt),fun _ h=>h.elim,hII6,by6,At.new_same hl,bd6⟩).mono ?_
 ·rintro i (hi|rfl|rfl|rfl)
  ·have:=hAlt i hi;omega
  ·omega
  ·omega
  ·omega
 ·rintro dn T M M' ⟨h1,k1,k2,h2,h3,h4,h6,h7⟩ hle hg
  have hgo:∀ i,i < M6.next->M'.get i=M.get i:=fun i hi=>hg i (.inl ⟨hi,id⟩)
  exact ⟨⟨Nat.le_trans h1.le hle,fun i hi hf=>by rw [hgo i (by omega)];exact h1.old i hi hf⟩,k1.at hle (hgo _ (by omega)),k2.at hle (hgo _ (by omega)),fun i hi=>by have:=h2 i hi;omega,tk.stab _ _ _ _ h3 hle (fun i hi=>by
   rcases hi with hi|hi
   ·exact hgo i (by omega)
   ·exact hg i (.inr hi)),h4.same hle (hgo _ by6.2),h6.same hle (hgo _ (by omega)),h7.same hle (hgo _ bd6.2)⟩
 ·rintro T M M' ⟨h1,k1,k2,h2,h3,h4,h5⟩ hle hg
  have hgo:∀ i,i < M6.next->M'.get i=M.get i:=fun i hi=>hg i (.inl ⟨hi,id⟩)
  exact ⟨⟨Nat.le_trans h1.le hle,fun i hi hf=>by rw [hgo i (by omega)];exact h1.old i hi hf⟩,k1.at hle (hgo _ (by omega)),k2.at hle (hgo _ (by omega)),fun i hi=>by have:=h2 i hi;omega,tk.stabD _ _ _ h3 hle (fun i hi=>by
   rcases hi with hi|hi
   ·exact hgo i (by omega)
   ·exact hg i (.inr hi)),h4.same hle (hgo _ (by omega)),h5.same hle (hgo _ bd6.2)⟩
 ·rintro dn x rest v U T M hits ⟨rfl,hU⟩ hN hT hUd ⟨h1,k1,k2,h2,h3,h4,h6,h7⟩
  have hle1:=h1.le
  have hKB:Keep (fun i=>i=pm ∨ i=pk) MB M:=hK.trans h1 (fun i hi=>by
   rcases hi with h|h|h
   ·exact .inr (hAge i h)
   ·exact .inl (.inl h)
   ·exact .inl (.inr h))
  have hxok:=znu hs htb (x:=x) (by rw [hits];simp)
  have hq1:=hq0.keep h1 (by
   rintro (h|h|h)
   ·exact hS _ (.inr (.inl rfl)) h
   ·exact hqm h
   ·exact hqk h)
  have hx1:=hx0.keep h1 (by
   rintro (h|h|h)
   ·exact hS _ (.inr (.inr (.inr (.inr rfl)))) h
   ·exact hxm h
   ·exact hxk h)
  have hlq:=hq1.2
  have hlx:=hx1.2
  have hl2M:=h6.2
  have hdM:=h7.2
  have hkm:=k1.lt
  have hkk:=k2.lt
  have hfm:(dn ++ [x]).filterMap (fun x=>(goF s x c).map (·.2))=dn.filterMap (fun x=>(goF s x c).map (·.2)) ++ ((goF s x c).map (·.2)).toList:=by
   rw [List.filterMap_append]
   congr 1
  have hpl':∀ M',Keep (fun i=>i=l2) M M'->PlM M' A s pc pm pk:=fun M' hk'=>hpl.keepm (hKB.trans hk' (fun i hi=>.inr (by omega))) (k1.at hk'.le (hk'.old _ hkm (by omega))) (k2.at hk'.le (hk'.old _ hkk (by omega)))
  rw [hfm]
  refine z0h hlb h6 rfl ?_
  dsimp only [zipP]
  (repeat' first|with_reducible intro _|refine sv ?_|refine sc ?_ ?_<;>(intro h;try exact sz h)|refine sg ?_ ?_<;>(intro h;first|exact sz h|refine sy h ?_)|exact sq|fail)
  rename_i n6 MA hnA e11 e12 MX huX e13 aX MC huC e14 aC
  have hkC:Keep (fun i=>i=l2) M MC:=xk
  have hleC:=hkC.le
  have ax6:At MC n6 (.cells true (rchc x) 114):=xm
  refine zk (by exact gd) rfl rfl (show AppOk Tryz.prog _ _ MC _ from zdb (hpl' MC hkC) hs hxok.1 hxok.2 hc) ?_
  rintro w MG ⟨rfl,hkG,hknG,hkcG⟩
  have hleG:=hkG.le
  have hnyG:=(h4.keep hkC (by omega)).keep hkG (by omega)
  have hl2G:=aC.keep hkG (by omega)
  have hdG:=(h7.keep hkC (by omega)).keep hkG (by omega)
  have hkMG:Keep (fun i=>i=l2 ∨ i=pm ∨ i=pk) M MG:=(hkC.weaken (fun i hi=>.inl hi)).trans hkG (fun i hi=>.inl (.inr hi))
  have hkmG:=hknG.lt
  have hkkG:=hkcG.lt
  have hny0:ny ≠ l2:=by omega
  have hd0:d ≠ l2:=by omega
  have hl20:M0.next<=l2:=by omega
  have hsameT:∀ M',Keep (fun i=>i=l2 ∨ i=pm ∨ i=pk) M M'->II (dn.filterMap fun x=>(goF s x c).map (·.2)) T M':=fun M' hk'=>tk.stab _ _ _ _ h3 hk'.le (fun i hi=>hk'.old i (by
   rcases hi with hi|hi
   ·omega
   ·exact (hT i hi).2) (by
   rcases hi with hi|hi
   ·rintro (h|h|h)
    ·omega
    ·exact hi.2 (.inl h)
    ·exact hi.2 (.inr h)
   ·have:=(hT i hi).1;omega))
  cases hgf:goF s x c with
  | none =>
   (repeat' first|with_reducible intro _|refine sv ?_|refine sc ?_ ?_<;>(intro h;try exact sz h)|refine sg ?_ ?_<;>(intro h;first|exact sz h|refine sy h ?_)|exact sq|fail)
   rename_i n7 MH hnH e15 e16 MI huI e17 aI MJ huJ e18 aJ
   have hkJ:Keep (fun i=>i=l2 ∨ i=pm ∨ i=pk) M MJ:=((hkMG.new hnH).upd huI (.inr (by omega))).upd huJ (.inl (.inl rfl))
   exact ⟨hkJ.weaken (fun i hi=>by rcases hi with h|h|h;exact .inl (.inr (.inr (.inr h)));exact .inl (.inr (.inl h));exact .inl (.inr (.inr (.inl h)))),T,fun i hi=>⟨.inl hi,by have:=hT i hi;have:=hkJ.le;omega⟩,.inl ⟨rfl,h1.trans hkJ (fun i hi=>by rcases hi with h|h|h;exact .inr (by omega);exact .inl (.inr (.inl h));exact .inl (.inr (.inr h))),
    hknG.at (by omega) (by rw [zl huJ (by omega),zl huI (by omega)];exact hnH.grow.old _ hkmG),hkcG.at (by omega) (by rw [zl huJ (by omega),zl huI (by omega)];exact hnH.grow.old _ hkkG),fun i hi=>by have:=h2 i hi;have:=hkJ.le;omega,by show II (_ ++ []) T MJ;rw [List.append_nil];exact hsameT MJ hkJ,xm,aJ,xm⟩⟩
  | some b =>
   (repeat' first|with_reducible intro _|refine sv ?_|refine sc ?_ ?_<;>(intro h;try exact sz h)|refine sg ?_ ?_<;>(intro h;first|exact sz h|refine sy h ?_)|exact sq|fail)
   rename_i n7 MH hnH e15 e16 MI huI e17 aI
   have hkI:Keep (fun i=>i=l2 ∨ i=pm ∨ i=pk) M MI:=(hkMG.new hnH).upd huI (.inr (by omega))
   have hits2:earL s tab set c=(dn.filterMap fun x=>(goF s x c).map (·.2)) ++ b.2 :: (rest.filterMap fun x=>(goF s x c).map (·.2)):=by rw [hear,hits,List.filterMap_append,List.filterMap_cons,hgf];rfl
   have hst:=tk.step _ _ _ [I b.2] (fun _=>False) T MI hits2 ⟨rfl,fun _ h=>h⟩ (by omega) (fun i hi=>by have:=h2 i hi;omega) (fun _ h=>h.elim) (hsameT MI hkI)
   have hl2I:At MI l2 (lb .busy none):=xm
   have hnyI:At MI ny (.cells true [.func (.yield l) [] []] 142):=xm
   have hdI:At MI d .defr:=xm
   have hknI:KnM MI s pm:=hknG.at (by omega) (by rw [zl huI (by omega)];exact hnH.grow.old _ hkmG)
   have hkcI:KcM MI s pk:=hkcG.at (by omega) (by rw [zl huI (by omega)];exact hnH.grow.old _ hkkG)
   refine zk (by exact gd) rfl rfl (show AppOk Tryz.prog (.func (.yield l) [] []) _ MI _ from hst) ?_
   rintro w MF ⟨hkF,TF,hTF,hres⟩
   have hleF:=hkF.le
   have hout:∀ j,(j < MB.next ∨ (M0.next<=j /\ j < M6.next))->¬ (AA j ∨ T j ∨ False):=fun j hj h=>by
    rcases h with h|h|h
    ·have:=hAlt _ h;have:=hAge _ h;omega
    ·have:=(hT _ h).1;omega
    ·exact h
   have aF:=hl2I.keep hkF (hout _ (.inr ⟨by omega,by omega⟩))
   have hnyF:=hnyI.keep hkF (hout _ (.inr ⟨by omega,by omega⟩))
   have hdF:=hdI.keep hkF (hout _ (.inr ⟨by omega,by omega⟩))
   have hknF:KnM MF s pm:=hknI.at hleF (hkF.old _ (by omega) (hout _ (.inl hpm0)))
   have hkcF:KcM MF s pk:=hkcI.at hleF (hkF.old _ (by omega) (hout _ (.inl hpk0)))
   have hkMF:Keep (fun i=>(AA i ∨ i=pm ∨ i=pk ∨ i=l2) ∨ T i ∨ U i) M MF:=(hkI.weaken (fun i hi=>by rcases hi with h|h|h;exact .inl (.inr (.inr (.inr h)));exact .inl (.inr (.inl h));exact .inl (.inr (.inr (.inl h))))).trans hkF (fun i hi=>by
    rcases hi with hi|hi|hi
    ·exact .inl (.inl (.inl hi))
    ·exact .inl (.inr (.inl hi))
    ·exact hi.elim)
   have hk0F:Keep (fun i=>AA i ∨ i=pm ∨ i=pk) M0 MF:=(h1.trans hkI (fun i hi=>by rcases hi with h|h|h;exact .inr (by omega);exact .inl (.inr (.inl h));exact .inl (.inr (.inr h)))).trans hkF (fun i hi=>by
    rcases hi with hi|hi|hi
    ·exact .inl (.inl hi)
    ·exact .inr (h2 i hi).1
    ·exact hi.elim)
   have hTF':∀ i,TF i->(T i ∨ U i ∨ M.next<=i) /\ i < MF.next:=fun i hi=>by
    obtain ⟨q1,q2⟩:=hTF i hi
    refine ⟨?_,q2⟩
    rcases q1 with q1|q1|q1
    ·exact .inl q1
    ·exact q1.elim
    ·exact .inr (.inr (by omega))
   have hTFl:∀ i,TF i->M0.next<=i /\ i ≠ l2:=fun i hi=>by
    rcases (hTF i hi).1 with q1|q1|q1
    ·have:=hT i q1;have:=h2 i q1;omega
    ·exact q1.elim
    ·omega
   have hpml:pm ≠ l2:=by omega
   have hpkl:pk ≠ l2:=by omega
   rcases hres with ⟨rfl,hIF⟩|⟨rfl,hDF⟩
   ·(repeat' first|with_reducible intro _|refine sv ?_|refine sc ?_ ?_<;>(intro h;try exact sz h)|refine sg ?_ ?_<;>(intro h;first|exact sz h|refine sy h ?_)|exact sq|fail)
    rename_i MJ huJ e18 aJ
    have hGo:∀ i,i ≠ l2->MJ.get i=MF.get i:=fun i hi=>zl huJ hi
    exact ⟨hkMF.upd huJ (.inl (.inl (.inr (.inr (.inr rfl))))),TF,fun i hi=>by have:=hTF' i hi;rw [e18];exact this,.inl ⟨rfl,hk0F.upd huJ (.inr hl20),hknF.at (by omega) (hGo _ hpml),hkcF.at (by omega) (hGo _ hpkl),fun i hi=>by have:=hTFl i hi;have:=(hTF' i hi).2;omega,tk.stab _ _ _ _ hIF (by omega) (fun i hi=>hGo i (by
     rcases hi with hi|hi
     ·omega
     ·exact (hTFl i hi).2)),hnyF.upd_ne huJ hny0,aJ,hdF.upd_ne huJ hd0⟩⟩
   ·(repeat' first|with_reducible intro _|refine sv ?_|refine sc ?_ ?_<;>(intro h;try exact sz h)|refine sg ?_ ?_<;>(intro h;first|exact sz h|refine sy h ?_)|exact sq|fail)
    rename_i MJ huJ e18 aJ
    have hGo:∀ i,i ≠ l2->MJ.get i=MF.get i:=fun i hi=>zl huJ hi
    exact ⟨hkMF.upd huJ (.inl (.inl (.inr (.inr (.inr rfl))))),TF,fun i hi=>by have:=hTF' i hi;rw [e18];exact this,.inr ⟨rfl,hk0F.upd huJ (.inr hl20),hknF.at (by omega) (hGo _ hpml),hkcF.at (by omega) (hGo _ hpkl),fun i hi=>by have:=hTFl i hi;have:=(hTF' i hi).2;omega,tk.stabD _ _ _ hDF (by omega) (fun i hi=>hGo i (by
     rcases hi with hi|hi
     ·omega
     ·exact (hTFl i hi).2)),aJ,hdF.upd_ne huJ hd0⟩⟩
 ·rintro i (rfl|rfl|⟨h1,h2,h3⟩) (hi|hi|hi|hi)
  all_goals first
   |(have:=hAlt _ hi;have:=hAge _ hi;omega)
   | omega
   | exact h2 hi
   | exact h3 hi
 ·rintro v M7 ⟨hk7,_,T7,hT7,⟨h1,k1,k2,h2,h3,h4,h6,h7⟩|⟨h1,k1,k2,h2,h3,h4,h5⟩⟩
  ·have hle1:=h1.le
   have hkm:=k1.lt
   have hkk:=k2.lt
   refine z2b h6 (by simp) fun M8 hu8 e11 a8=>?_
   (repeat' first|with_reducible intro _|refine sv ?_|refine sc ?_ ?_<;>(intro h;try exact sz h)|refine sg ?_ ?_<;>(intro h;first|exact sz h|refine sy h ?_)|exact sq|fail)
   refine zq (.inl rfl) (by simp) (fun d' hd'=>by obtain rfl:=List.mem_singleton.1 hd';exact xm) fun M9 hm=>?_
   have hk9:Keep (fun i=>i=l2 ∨ i=d) M7 M9:=((Keep.refl _ M7).upd hu8 (.inl (.inl rfl))).unmark hm (fun d' hd'=>by obtain rfl:=List.mem_singleton.1 hd';exact .inl (.inr rfl))
   refine ⟨_,.nil,(h1.trans hk9 (fun i hi=>.inr (by omega))),⟨k1.at hk9.le (hk9.old _ hkm (by omega)),k2.at hk9.le (hk9.old _ hkk (by omega))⟩,T7,fun i hi=>⟨(h2 i hi).1,by have:=(h2 i hi).2;have:=hk9.le;omega⟩,.inl ?_⟩
   rw [hear]
   exact tk.stab _ _ _ _ h3 hk9.le (fun i hi=>hk9.old i (by
    rcases hi with hi|hi
    ·omega
    ·exact (h2 i hi).2) (by
    rcases hi with hi|hi
    ·omega
    ·have:=(hT7 i hi).1;omega))
  ·have hle1:=h1.le
   have hkm:=k1.lt
   have hkk:=k2.lt
   refine z15 h4 (by simp) fun M8 hu8 e11 a8=>?_
   (repeat' first|with_reducible intro _|refine sv ?_|refine sc ?_ ?_<;>(intro h;try exact sz h)|refine sg ?_ ?_<;>(intro h;first|exact sz h|refine sy h ?_)|exact sq|fail)
   refine zq (.inr rfl) (by simp) (fun d' hd'=>by obtain rfl:=List.mem_singleton.1 hd';exact xm) fun M9 hm=>?_
   have hk9:Keep (fun i=>i=l2 ∨ i=d) M7 M9:=((Keep.refl _ M7).upd hu8 (.inl (.inl rfl))).unmark hm (fun d' hd'=>by obtain rfl:=List.mem_singleton.1 hd';exact .inl (.inr rfl))
   refine ⟨_,.nil,(h1.trans hk9 (fun i hi=>.inr (by omega))),⟨k1.at hk9.le (hk9.old _ hkm (by omega)),k2.at hk9.le (hk9.old _ hkk (by omega))⟩,T7,fun i hi=>⟨(h2 i hi).1,by have:=(h2 i hi).2;have:=hk9.le;omega⟩,.inr ?_⟩
   exact tk.stabD _ _ _ h3 hk9.le (fun i hi=>hk9.old i (by
    rcases hi with hi|hi
    ·omega
    ·exact (h2 i hi).2) (by
    rcases hi with hi|hi
    ·omega
    ·have:=(hT7 i hi).1;omega))
theorem YieldsS.weakS {α:Type} {gf:FuncId} {fi ca:List LV} {S S' Wr:Nat->Prop} {Fin:Mem->Prop} {items:List α} {R:α->List LV->(Nat->Prop)->Mem->Prop} {M0:Mem} (h:YieldsS Tryz.prog gf fi ca S Wr Fin items R M0) (hS:∀ i,S i->S' i):YieldsS Tryz.prog gf fi ca S' Wr Fin items R M0 :=
 fun l A I D tk hd h0=>h l A I D tk (fun i hi=>hd i (hS i hi)) h0
theorem zdc (a b:Int) (M:Mem):CallOk Tryz.prog 75 [I a,I b] M (fun w M'=>w=.bool (decide (a < b)) /\ M'=M):=by
 refine z6 kq75 rfl ?_
 dsimp only [xq75,qm,qB,qo,qq,zipE,Nat.reduceAdd]
 (repeat' first|with_reducible intro _|refine sv ?_|refine sc ?_ ?_<;>(intro h;try exact sz h)|refine sg ?_ ?_<;>(intro h;first|exact sz h|refine sy h ?_)|exact sq|fail)
 (refine kf ?_)
 exact ⟨rfl,rfl⟩
set_option maxHeartbeats 4000000 in
theorem zc0 {gf:FuncId} {ca:List LV} {Wr:Nat->Prop} {Fin:Mem->Prop} {items:List Int} {M0:Mem} (hy:∀ M',Grow M0 M'->YieldsS Tryz.prog gf [] ca (fun i=>i < M0.next) Wr Fin items (PlainR I) M') (hWr:∀ i,Wr i->i < M0.next)
  (hFin:∀ M1 M2,Fin M1->M1.next<=M2.next->(∀ i,i < M0.next->M2.get i=M1.get i)->Fin M2) :
  CallOk Tryz.prog 73 [.func (.func gf) [] ca,.func (.func 75) [] []] M0 (fun v M'=>Keep Wr M0 M' /\ Fin M' /\ v=.tup [I ((minL items).getD 0),.bool (minL items).isSome]):=by
 refine z6 kq73 rfl ?_
 dsimp only [xq73,qm,ql,qb,qg,qS,qo,qK,qq,qZ,zipE,Nat.reduceAdd]
 (repeat' first|with_reducible intro _|refine sv ?_|refine sc ?_ ?_<;>(intro h;try exact sz h)|refine sg ?_ ?_<;>(intro h;first|exact sz h|refine sy h ?_)|exact sq|fail)
 rename_i n3 M1 hn3 e1 e2 n4 M2 hn4 e3 e4 n5 M2b hn5 e3b e4b
 apply z2r
 exact rfl
 intro lb d l M3 M4 hlb hd e5 e6 hl e7 e8
 have a3:At M4 n3 (.cells true [.func (.func 75) [] []] 139):=xm
 have a4:At M4 n4 (.cells true [I 0] 3):=xm
 have a5:At M4 n5 (.cells true [.bool false] 4):=xm
 have ad:At M4 d .defr:=At.new_old hl (At.new_same hd)
 have hg4:Grow M0 M4:=xg
 refine (hy M4 hg4 l (fun i=>M0.next<=i /\ i < M4.next) (fun dn T M=>At M n3 (.cells true [.func (.func 75) [] []] 139) /\ At M n4 (.cells true [I ((minL dn).getD 0)] 3) /\ At M n5 (.cells true [.bool (minL dn).isSome] 4) /\
   At M l (lb .ready none) /\ At M d .defr) (fun _ _=>False) ⟨fun i hi=>hi.2,?_,fun T M M' h=>h.elim,?_⟩ (fun i h1 h2=>by omega) ⟨a3,a4,a5,At.new_same hl,ad⟩).mono ?_
 ·rintro dn T M M' ⟨h3,h4,h5,h6,h7⟩ hle hg
  have hg2:∀ i,M0.next<=i->i < M4.next->M'.get i=M.get i:=fun i h1 h2=>hg i (.inl ⟨h2,fun hw=>by have:=hWr i hw;omega⟩)
  exact ⟨h3.same hle (hg2 _ (by omega) (by omega)),h4.same hle (hg2 _ (by omega) (by omega)),h5.same hle (hg2 _ (by omega) (by omega)),h6.same hle (hg2 _ (by omega) (by omega)),h7.same hle (hg2 _ (by omega) (by omega))⟩
 ·rintro dn x rest v U T M hits ⟨rfl,hU⟩ hN hT hUd ⟨h3,h4,h5,h6,h7⟩
  have hfold:minL (dn ++ [x])=minS (minL dn) x:=by unfold minL;rw [List.foldl_append];rfl
  have hfin:∀ {M':Mem} (o':Option Int) (c':Int),Keep (fun i=>M0.next<=i /\ i < M4.next) M M'->At M' n3 (.cells true [.func (.func 75) [] []] 139)->At M' n4 (.cells true [I c'] 3)->At M' n5 (.cells true [.bool true] 4) ->
    At M' l (lb .ready none)->At M' d .defr->minS (minL dn) x=o'->o'=some c'->Keep (fun i=>(M0.next<=i /\ i < M4.next) ∨ T i ∨ U i) M M' /\ ∃ T':Nat->Prop,(∀ i,T' i->(T i ∨ U i ∨ M.next<=i) /\ i < M'.next) /\ ((LV.bool true=.bool true /\ At M' n3 (.cells true [.func (.func 75) [] []] 139) /\ At M' n4 (.cells true [I ((minL (dn ++ [x])).getD 0)] 3) /\ At M' n5 (.cells true [.bool (minL (dn ++ [x])).isSome] 4) /\ At M' l (lb .ready none) /\ At M' d .defr) ∨ (LV.bool true=.bool false /\ False)):=by
   intro M' o' c' hk q3 q4 q5 q6 q7 ho hc
   subst hc
   exact ⟨hk.weaken (fun i hi=>.inl hi),fun _=>False,fun i hi=>hi.elim,.inl ⟨rfl,q3,by rw [hfold,ho];exact q4,by rw [hfold,ho];exact q5,q6,q7⟩⟩
  refine z0h hlb h6 rfl ?_
  dsimp only [zipP]
  cases hfo:minL dn with
  | none =>
   rw [hfo] at h4 h5 hfin
   (repeat' first|with_reducible intro _|refine sv ?_|refine sc ?_ ?_<;>(intro h;try exact sz h)|refine sg ?_ ?_<;>(intro h;first|exact sz h|refine sy h ?_)|exact sq|fail)
   exact hfin (some x) x (xk) (xm) (xm) (xm) (xm) (xm) rfl rfl
  | some y =>
   rw [hfo] at h4 h5 hfin
   have h4:At M n4 (.cells true [I y] 3):=h4
   have h5:At M n5 (.cells true [.bool true] 4):=h5
   by_cases hxy:x < y
   ·(repeat' first|with_reducible intro _|refine sv ?_|refine sc ?_ ?_<;>(intro h;try exact sz h)|(with_reducible first|apply zj|apply zi|apply zd);exact gd;exact rfl;exact rfl;exact zdc _ _ _|refine sg ?_ ?_<;>(intro h;first|exact sz h|refine sy h ?_)|exact sq|fail)
    all_goals try (exfalso;omega)
    exact hfin (some x) x (xk) (xm) (xm) (xm) (xm) (xm) (by show (if x < y then some x else some y)=_;rw [if_pos hxy]) rfl
   ·(repeat' first|with_reducible intro _|refine sv ?_|refine sc ?_ ?_<;>(intro h;try exact sz h)|(with_reducible first|apply zj|apply zi|apply zd);exact gd;exact rfl;exact rfl;exact zdc _ _ _|refine sg ?_ ?_<;>(intro h;first|exact sz h|refine sy h ?_)|exact sq|fail)
    all_goals try (exfalso;omega)
    exact hfin (some y) y (xk) (xm) (xm) (xm) (xm) (xm) (by show (if x < y then some x else some y)=_;rw [if_neg hxy]) rfl
 ·rintro v M5 ⟨hk5,hf5,T5,hT5,⟨h3,h4,h5,h6,h7⟩|h⟩
  rotate_left
  ·exact h.elim
  have hle5:=hk5.le
  have hk05:Keep Wr M0 M5:=(hg4.to_keep Wr).trans hk5 (fun i hi=>hi.elim (fun h=>.inr h.1) .inl)
  have hle4:=hg4.le
  refine z2b h6 (by simp) fun M6 hu e9 a9=>?_
  have hendd:∀ {M9 M8 M7:Mem} (lb7 lb8:LB),Upd M6 n4 lb7 M7->Upd M7 n5 lb8 M8->Unmark [d] M8 M9->Keep Wr M0 M9 /\ Fin M9:=by
   intro M9 M8 M7 lb7 lb8 hu7 hu8 hm
   have hkk:Keep (fun i=>M0.next<=i /\ i < M4.next) M5 M9:=((((Keep.refl _ M5).upd hu (.inl ⟨by omega,by omega⟩)).upd hu7 (.inl ⟨by omega,by omega⟩)).upd hu8 (.inl ⟨by omega,by omega⟩)).unmark hm (fun d' hd'=>by obtain rfl:=List.mem_singleton.1 hd';exact .inl ⟨by omega,by omega⟩)
   exact ⟨hk05.trans hkk (fun i hi=>.inr hi.1),hFin M5 M9 hf5 hkk.le (fun i hi=>hkk.old i (by omega) (by omega))⟩
  (repeat' first|with_reducible intro _|refine sv ?_|refine sc ?_ ?_<;>(intro h;try exact sz h)|refine sg ?_ ?_<;>(intro h;first|exact sz h|refine sy h ?_)|exact sq|fail)
  refine zq (.inr rfl) (by simp) (fun d' hd'=>by obtain rfl:=List.mem_singleton.1 hd';exact xm) fun M9 hm=>?_
  rename_i M7 hu7 e10 a7 M8 hu8 e11 a8
  obtain ⟨q1,q2⟩:=hendd _ _ hu7 hu8 hm
  have b4:At M8 n4 (.cells true [I ((minL items).getD 0)] 3):=xm
  refine ⟨_,.cell1 rfl (Rd1.of_at (b4.unmark hm (by simp;omega)) rfl).1 (.cell1 rfl (Rd1.of_at (a8.unmark hm (by simp;omega)) rfl).1 .nil),q1,q2,rfl⟩
end Go.Proofs.YtpccafeedfpbaaaGreat.C
end
