/-
 Part of the proof of TopVoyage. No condition beyond those in each theorem.
-/
import Derived.Test.YtpgalhbplcanhaaGreatDoorSE
import Derived.Test.YtpgalhbplcanhaaGreatDoorPvG
section
open PvL
set_option linter.unusedSimpArgs false
set_option linter.unusedVariables false
namespace Go.Proofs.YtpgalhbplcanhaaGreatDoor.C
noncomputable def shootsL(s:Cr)(set:Nat):List Nat:=(List.range (2*s.lines.length)).filter fun c=>set.testBit (c / 2)
def restN(set k:Nat):Nat:=set - (set &&& 2 ^ k)
noncomputable def plN(s:Cr)(set c:Nat):Nat:=2*s.lines.length*set+c
noncomputable def befL(s:Cr)(tab:List Int)(set c:Nat):List Rch :=
 if restN set (c / 2)=0 then [startR s] else(List.range (2*s.lines.length)).filterMap fun y=>if tab.getD (plN s (restN set (c / 2)) y) 0 ≠ -1 then some (rchF s y (tab.getD (plN s (restN set (c / 2)) y) 0)) else none
noncomputable def earL(s:Cr)(tab:List Int)(set c:Nat):List Int:=(befL s tab set c).filterMap fun x=>(goF s x c).map (·.2)
def minS(o:Option Int)(x:Int):Option Int:=match o with|none=>some x|some y=>if x < y then some x else some y
def minL(l:List Int):Option Int:=l.foldl minS none
noncomputable def tabStep(s:Cr)(set:Nat)(tab:List Int)(c:Nat):List Int:=match minL (earL s tab set c) with|some e=>tab.set (plN s set c) e|none=>tab
noncomputable def tabSet(s:Cr)(tab:List Int)(set:Nat):List Int:=(shootsL s set).foldl (tabStep s set) tab
noncomputable def tab0(s:Cr):List Int:=List.replicate (2*s.lines.length*2 ^ s.lines.length) (-1)
noncomputable def tabF(s:Cr):List Int:=(List.range (2 ^ s.lines.length)).foldl (tabSet s) (tab0 s)
theorem zjz(o:Option Int)(x:Int):∃ y,minS o x=some y /\ y<=x /\ (∀ z,o=some z->y<=z) /\ (y=x ∨ o=some y):=by
 unfold minS
 cases o with
 | none=>exact⟨x,rfl,Int.le_refl _,fun z hz=>(by cases hz),.inl rfl⟩
 | some z =>
  dsimp only
  split
  ·exact⟨x,rfl,Int.le_refl _,fun w hw=>by cases hw;omega,.inl rfl⟩
  ·exact⟨z,rfl,by omega,fun w hw=>by cases hw;exact Int.le_refl _,.inr rfl⟩
theorem foldS:∀(l:List Int) (o:Option Int),(l.foldl minS o=none ↔ o=none /\ l=[]) /\ ∀ y,l.foldl minS o=some y->(∀ x ∈ l,y<=x) /\ (∀ z,o=some z->y<=z) /\ (y ∈ l ∨ o=some y)
 | [],o=>⟨⟨fun h=>⟨h,rfl⟩,fun h=>h.1⟩,fun y h=>⟨fun x hx=>(by cases hx),fun z hz=>by rw[show o=some y from h] at hz;cases hz;exact Int.le_refl _,.inr h⟩⟩
 | x :: l,o=>by
  obtain⟨w,h1,h2,h3,h4⟩:=zjz o x
  obtain⟨g1,g2⟩:=foldS l (some w)
  rw[List.foldl_cons,h1]
  refine⟨⟨fun h=>(by have:=(g1.1 h).1;cases this),fun h=>(by cases h.2)⟩,fun y h=>?_⟩
  obtain⟨k1,k2,k3⟩:=g2 y h
  have hw:=k2 w rfl
  refine⟨fun z hz=>?_,fun z hz=>Int.le_trans hw (h3 z hz),?_⟩
  ·rcases List.mem_cons.1 hz with rfl|hz
   ·exact Int.le_trans hw h2
   ·exact k1 z hz
  ·rcases k3 with k3|k3
   ·exact .inl (List.mem_cons_of_mem _ k3)
   ·cases k3
    rcases h4 with rfl|h4
    ·exact .inl (List.mem_cons_self ..)
    ·exact .inr h4
theorem zjy{l:List Int}:minL l=none ↔ l=[]:=⟨fun h=>((foldS l none).1.1 h).2,fun h=>by rw[h];rfl⟩
theorem zd7{l:List Int}{y:Int}(h:minL l=some y):y ∈ l /\ ∀ x ∈ l,y<=x:=by
 obtain⟨h1,_,h3⟩:=(foldS l none).2 y h
 exact⟨h3.resolve_right (by intro e;cases e),h1⟩
theorem zq9{set k:Nat}(h:set.testBit k=true):restN set k+2 ^ k=set:=by
 unfold restN
 rw[zif,if_pos h]
 have:=Nat.ge_two_pow_of_testBit h
 omega
theorem zbl{set k:Nat}(h:set.testBit k=true):restN set k < set:=by
 have:=zq9 h
 have:=Nat.two_pow_pos k
 omega
theorem z2g{set k j:Nat}(hs:set < 1048576)(hk:k < 20):(restN set k).testBit j=(set.testBit j && !(decide (k=j))):=by
 have hp:=zkb (b:=k) (by omega)
 have h1:restN set k=(BitVec.ofInt 64 (set:Int) &&& ~~~(BitVec.ofInt 64 ((2 ^ k:Nat):Int))).toNat:=(zff (by omega) (by omega)).symm
 rw[h1,BitVec.testBit_toNat,BitVec.getLsbD_and,BitVec.getLsbD_not,BitVec.ofInt_natCast,BitVec.ofInt_natCast,BitVec.getLsbD_ofNat,BitVec.getLsbD_ofNat,Nat.testBit_two_pow]
 by_cases hj:j < 64
 ·rw[decide_eq_true hj];simp
 ·have:set.testBit j=false:=Nat.testBit_lt_two_pow (Nat.lt_of_lt_of_le hs (by have:=Nat.pow_le_pow_right (n:=2) (by omega) (by omega:20<=j);omega))
  rw[this,decide_eq_false hj];simp
theorem zdn{n k:Nat}(h:k < n):(2 ^ n - 1).testBit k=true:=by rw[Nat.testBit_two_pow_sub_one];exact decide_eq_true h
theorem zr9{n set k:Nat}(hs:set < 2 ^ n)(h:set.testBit k=true):k < n:=by
 rcases Nat.lt_or_ge k n with h1|h1
 ·exact h1
 ·rw[Nat.testBit_lt_two_pow (Nat.lt_of_lt_of_le hs (Nat.pow_le_pow_right (by omega) h1))] at h;cases h
theorem z0p{s:Cr}{set c:Nat}:c ∈ shootsL s set ↔ c < 2*s.lines.length /\ set.testBit (c / 2)=true:=by
 unfold shootsL
 rw[List.mem_filter,List.mem_range]
theorem zgg{s:Cr}{a b c d:Nat}(hc:c < 2*s.lines.length)(hd:d < 2*s.lines.length)(h:plN s a c=plN s b d):a=b /\ c=d:=by
 unfold plN at h
 have h1:(2*s.lines.length*a+c) / (2*s.lines.length)=a:=by rw[Nat.mul_add_div (by omega),Nat.div_eq_of_lt hc,Nat.add_zero]
 have h2:(2*s.lines.length*b+d) / (2*s.lines.length)=b:=by rw[Nat.mul_add_div (by omega),Nat.div_eq_of_lt hd,Nat.add_zero]
 have:a=b:=by rw[<-h1,h,h2]
 subst this
 exact⟨rfl,by omega⟩
theorem zhy{s:Cr}{set c:Nat}(hs:set < 2 ^ s.lines.length)(hc:c < 2*s.lines.length):plN s set c < 2*s.lines.length*2 ^ s.lines.length:=by
 unfold plN
 have:2*s.lines.length*(set+1)<=2*s.lines.length*2 ^ s.lines.length:=Nat.mul_le_mul_left _ hs
 rw[Nat.mul_add] at this
 omega
theorem zfz{α β:Type}{f g:α->Option β}:∀ {l:List α},(∀ x ∈ l,f x=g x)->l.filterMap f=l.filterMap g
 | [],_=>rfl
 | x :: l,h=>by rw[List.filterMap_cons,List.filterMap_cons,h x (List.mem_cons_self ..),zfz fun y hy=>h y (List.mem_cons_of_mem _ hy)]
theorem zj9{s:Cr}{t t':List Int}{set c:Nat}(h:∀ y,y < 2*s.lines.length->t.getD (plN s (restN set (c / 2)) y) 0=t'.getD (plN s (restN set (c / 2)) y) 0):earL s t set c=earL s t' set c:=by
 unfold earL
 congr 1
 unfold befL
 split
 ·rfl
 ·exact zfz fun y hy=>by rw[h y (List.mem_range.1 hy)]
noncomputable def TT(s:Cr)(set c:Nat):Int:=(tabF s).getD (plN s set c) 0
structure TabI (s:Cr) (n0:Nat) (ds:List Nat) (t:List Int):Prop where
 len:t.length=2*s.lines.length*2 ^ s.lines.length
 old:∀ set c,set < n0->set < 2 ^ s.lines.length->c < 2*s.lines.length->t.getD (plN s set c) 0=if set.testBit (c / 2) then(minL (earL s t set c)).getD (-1) else -1
 now:∀ c,c ∈ ds->c < 2*s.lines.length->t.getD (plN s n0 c) 0=(minL (earL s t n0 c)).getD (-1)
 new:∀ set c,n0<=set->set < 2 ^ s.lines.length->c < 2*s.lines.length->(set ≠ n0 ∨ c ∉ ds)->t.getD (plN s set c) 0=-1
theorem z1l{t:List Int}{i j:Nat}{v d:Int}(hi:i < t.length):(t.set i v).getD j d=if i=j then v else t.getD j d:=by
 rw[List.getD_eq_getElem?_getD,List.getD_eq_getElem?_getD,List.getElem?_set]
 split
 ·simp
 ·rfl
theorem TabI.step{s:Cr}{n0:Nat}{ds:List Nat}{t:List Int}{c:Nat}(h:TabI s n0 ds t)(hn:n0 < 2 ^ s.lines.length)(hc:c < 2*s.lines.length)(hb:n0.testBit (c / 2)=true)(hnd:c ∉ ds)(hds:∀ d ∈ ds,n0.testBit (d / 2)=true):TabI s n0 (ds ++ [c]) (tabStep s n0 t c):=by
 have hpl:=zhy hn hc
 have hsame:∀ e set d,set < n0 ∨(set=n0)->d < 2*s.lines.length->set.testBit (d / 2)=true->earL s (t.set (plN s n0 c) e) set d=earL s t set d:=fun e set d hset hd hbd=>zj9 fun y hy=>by
  rw[z1l (by rw[h.len];exact hpl),if_neg]
  intro heq
  have:=(zgg hc hy heq).1
  have:=zbl hbd
  omega
 unfold tabStep
 cases hm:minL (earL s t n0 c) with
 | none =>
  refine⟨h.len,h.old,fun d hd hdl=>?_,fun set d h1 h2 h3 h4=>?_⟩
  ·rcases List.mem_append.1 hd with hd|hd
   ·exact h.now d hd hdl
   ·obtain rfl:=List.mem_singleton.1 hd
    dsimp only
    rw[h.new n0 d (Nat.le_refl _) hn hdl (.inr hnd),hm];rfl
  ·exact h.new set d h1 h2 h3 (h4.imp id fun h h'=>h (List.mem_append_left _ h'))
 | some e =>
  dsimp only
  have hg:=fun j d=>z1l (t:=t) (i:=plN s n0 c) (j:=j) (v:=e) (d:=d) (by rw[h.len];exact hpl)
  refine⟨by rw[List.length_set];exact h.len,fun set d h1 h2 h3=>?_,fun d hd hdl=>?_,fun set d h1 h2 h3 h4=>?_⟩
  ·rw[hg,if_neg (fun heq=>by have:=(zgg hc h3 heq).1;omega),h.old set d h1 h2 h3]
   cases hbd:set.testBit (d / 2) with
   | false=>rfl
   | true=>rw[if_pos rfl,if_pos rfl,hsame e set d (.inl h1) h3 hbd]
  ·rw[hg]
   by_cases hcd:c=d
   ·subst hcd
    rw[if_pos rfl,hsame e n0 c (.inr rfl) hdl hb,hm];rfl
   ·rw[if_neg (fun heq=>hcd (zgg hc hdl heq).2)]
    have hd':d ∈ ds:=by
     rcases List.mem_append.1 hd with hd|hd
     ·exact hd
     ·exact absurd (List.mem_singleton.1 hd).symm hcd
    rw[h.now d hd' hdl,hsame e n0 d (.inr rfl) hdl (hds d hd')]
  ·rw[hg,if_neg]
   ·exact h.new set d h1 h2 h3 (h4.imp id fun h h'=>h (List.mem_append_left _ h'))
   ·intro heq
    obtain⟨h5,h6⟩:=zgg hc h3 heq
    rcases h4 with h4|h4
    ·exact h4 h5.symm
    ·exact h4 (by rw[<-h6];exact List.mem_append_right _ (List.mem_singleton.2 rfl))
theorem zn8{s:Cr}{n0:Nat}{t:List Int}(h:TabI s n0 [] t)(hn:n0 < 2 ^ s.lines.length):TabI s (n0+1) [] (tabSet s t n0):=by
 have key:∀(l ds:List Nat) (t:List Int),TabI s n0 ds t->(ds ++ l).Nodup->(∀ d ∈ ds ++ l,d < 2*s.lines.length /\ n0.testBit (d / 2)=true)->TabI s n0 (ds ++ l) (l.foldl (tabStep s n0) t):=by
  intro l
  induction l with
  | nil=>intro ds t h _ _;rw[List.append_nil];exact h
  | cons c l ih =>
   intro ds t h hnd hb
   have e:ds ++ c :: l=(ds ++ [c]) ++ l:=by simp
   rw[e] at hnd hb ⊢
   have hc:=hb c (by simp)
   have hcn:c ∉ ds:=fun hm=>by
    have:=(List.nodup_append.1 (List.nodup_append.1 hnd).1).2.2 c hm c (List.mem_singleton.2 rfl)
    exact this rfl
   exact ih (ds ++ [c]) _ (h.step hn hc.1 hc.2 hcn (fun d hd=>(hb d (by simp[hd])).2)) hnd hb
 have hk:=key (shootsL s n0) [] t h (by rw[List.nil_append];exact(List.nodup_range).filter _) (fun d hd=>by rw[List.nil_append] at hd;exact z0p.1 hd)
 rw[List.nil_append] at hk
 refine⟨hk.len,fun set c h1 h2 h3=>?_,fun c hc=>(by cases hc),fun set c h1 h2 h3 _=>?_⟩
 ·rcases Nat.lt_or_ge set n0 with h4|h4
  ·exact hk.old set c h4 h2 h3
  ·obtain rfl:set=n0:=by omega
   cases hb:set.testBit (c / 2) with
   | true=>rw[if_pos rfl];exact hk.now c (z0p.2 ⟨h3,hb⟩) h3
   | false=>rw[if_neg (by decide)];exact hk.new set c h4 h2 h3 (.inr fun hm=>by have:=(z0p.1 hm).2;rw[hb] at this;cases this)
 ·exact hk.new set c (by omega) h2 h3 (.inl (by omega))
theorem zbq(s:Cr):∀ n0,n0<=2 ^ s.lines.length->TabI s n0 [] ((List.range n0).foldl (tabSet s) (tab0 s))
 | 0,_=>⟨by unfold tab0;rw[List.range_zero,List.foldl_nil,List.length_replicate],fun set c h=>absurd h (Nat.not_lt_zero _),fun c hc=>(by cases hc),fun set c _ h2 h3 _=>by
  rw[List.range_zero,List.foldl_nil]
  unfold tab0
  rw[List.getD_eq_getElem?_getD,List.getElem?_replicate,if_pos (zhy h2 h3)];rfl⟩
 | n0+1,h=>by
  rw[List.range_succ,List.foldl_append]
  exact zn8 (zbq s n0 (by omega)) (by omega)
theorem zf5(s:Cr):(tabF s).length=2*s.lines.length*2 ^ s.lines.length:=(zbq s _ (Nat.le_refl _)).len
theorem zub{s:Cr}{set c:Nat}(h1:set < 2 ^ s.lines.length)(h2:c < 2*s.lines.length):TT s set c=if set.testBit (c / 2) then(minL (earL s (tabF s) set c)).getD (-1) else -1:=(zbq s _ (Nat.le_refl _)).old set c h1 h1 h2
end Go.Proofs.YtpgalhbplcanhaaGreatDoor.C
end
section
open Go PvL Go.Proofs
set_option linter.unusedSimpArgs false
set_option linter.unusedVariables false
namespace Go.Proofs.YtpgalhbplcanhaaGreatDoor.C
abbrev rchc(x:Rch):List LV:=[I x.1.1.1,I x.1.1.2,I x.1.2,I x.2]
abbrev shC(c:Nat):LV:=.agg [I (c / 2:Nat),I (c % 2:Nat)]
abbrev planv(pc pk:Nat):LV:=.agg [.ptr (some (pc,0)),.map (some pk)]
abbrev keyc(q:Pose × Pose):LV:=.agg [I q.1.1.1,I q.1.1.2,I q.1.2,I q.2.1.1,I q.2.1.2,I q.2.2]
theorem zg4(q:Pose × Pose):keyOk Tryz.prog 10000 239 (keyc q)=true:=by kernel_rfl
theorem zjd{D:Nat}(hD:6 < D)(a b:Pose):eqL Tryz.prog D 140 (.agg (posc a)) (.agg (posc b))=some (decide (a=b)):=by
 refine z7p 6 D 140 [0,1,2] hD (by kernel_rfl) _ _ _ (fun N hN=>?_) ?_
 ·have h4:szOf Tryz.prog 140=some 3:=by kernel_rfl
  rw[h4] at hN
  cases hN
  exact⟨Nat.le_refl _,Nat.le_refl _⟩
 ·show some (decide (a.1.1=b.1.1) && (decide (a.1.2=b.1.2) && (decide (a.2=b.2) && true)))=_
  congr 1
  rw[Bool.eq_iff_iff]
  simp only[Bool.and_eq_true,decide_eq_true_eq,and_true]
  exact⟨fun⟨h1,h2,h3⟩=>Prod.ext (Prod.ext h1 h2) h3,fun h=>by rw[h];exact⟨rfl,rfl,rfl⟩⟩
set_option maxRecDepth 100000 in
theorem zpk{D:Nat}(hD:6 < D)(a b:Pose × Pose):eqL Tryz.prog (D+1) 239 (keyc a) (keyc b)=some (decide (a=b)):=by
 have hu:Tryz.prog.underlying 239=some (.array 2 140):=by kernel_rfl
 have hs:szOf Tryz.prog 140=some 3:=by kernel_rfl
 have hag:aggSz Tryz.prog 140=some (some 3):=by kernel_rfl
 have hp:∀ off x y xs ys,take' 3 (drop' off xs)=some x->take' 3 (drop' off ys)=some y->eqPart Tryz.prog (eqL Tryz.prog D) 140 off xs ys=eqL Tryz.prog D 140 (.agg x) (.agg y):=fun off x y xs ys h1 h2=>by
  show ob (aggSz Tryz.prog 140) _=_
  rw[hag,za]
  show ob (take' 3 (drop' off xs)) _=_
  rw[h1,za,h2,za]
 have h1:eqL Tryz.prog (D+1) 239 (keyc a) (keyc b)=ob (szOf Tryz.prog 140) (fun n=>arrEq Tryz.prog (eqL Tryz.prog D) 140 n (posc a.1 ++ posc a.2) (posc b.1 ++ posc b.2) (List.range 2)):=by
  unfold eqL
  rw[hu]
  rfl
 rw[h1,hs,za]
 have h2:arrEq Tryz.prog (eqL Tryz.prog D) 140 3 (posc a.1 ++ posc a.2) (posc b.1 ++ posc b.2) (List.range 2)=andO (eqPart Tryz.prog (eqL Tryz.prog D) 140 0 (posc a.1 ++ posc a.2) (posc b.1 ++ posc b.2)) (andO (eqPart Tryz.prog (eqL Tryz.prog D) 140 3 (posc a.1 ++ posc a.2) (posc b.1 ++ posc b.2)) (some true)):=rfl
 rw[h2,hp 0 (posc a.1) (posc b.1) _ _ rfl rfl,hp 3 (posc a.2) (posc b.2) _ _ rfl rfl,zjd hD,zjd hD]
 by_cases h1:a.1=b.1
 ·rw[decide_eq_true h1]
  by_cases h2:a.2=b.2
  ·rw[decide_eq_true h2,decide_eq_true (p:=a=b) (Prod.ext h1 h2)];rfl
  ·rw[decide_eq_false h2,decide_eq_false (p:=a=b) (fun h=>h2 (by rw[h]))];rfl
 ·rw[decide_eq_false h1,decide_eq_false (p:=a=b) (fun h=>h1 (by rw[h]))];cases decide (a.2=b.2)<;>rfl
theorem zsk(a b:Pose × Pose):eqL Tryz.prog Op.maxDepth 239 (keyc a) (keyc b)=some (decide (a=b)):=zpk (D:=Op.maxDepth - 1) (by decide) a b
def KcM(M:Mem)(s:Cr)(pk:Nat):Prop:=∃ L:List ((Pose × Pose) × Int) × List Nat × Nat,At M pk (.map (encM keyc I L.1) L.2.1 L.2.2) /\ ∀ p ∈ L.1,p.2=costN s p.1.1 p.1.2
structure PlM (M:Mem) (A:CrA) (s:Cr) (pc pm pk:Nat):Prop where
 ch:ChM M A s pc pm
 kc:KcM M s pk
 nc:pc ≠ pk
 nm:pm ≠ pk
theorem KcM.at{M:Mem}{s:Cr}{pk:Nat}(h:KcM M s pk){M':Mem}(h1:M.next<=M'.next)(h2:M'.get pk=M.get pk):KcM M' s pk:=by
 obtain⟨L,h3,h4⟩:=h
 exact⟨L,h3.same h1 h2,h4⟩
theorem KcM.lt{M:Mem}{s:Cr}{pk:Nat}(h:KcM M s pk):pk < M.next:=by obtain⟨L,h1,_⟩:=h;exact h1.2
theorem KcM.ne_rd{M:Mem}{s:Cr}{pm i o n:Nat}{l:List LV}(h:KcM M s pm)(hr:Rd M i o n l):i ≠ pm:=by
 rintro rfl
 obtain⟨L,h1,_⟩:=h
 have h2:=hr.1
 unfold loadN atCells at h2
 rw[h1.1] at h2
 cases h2
theorem KcM.ne_rd1{M:Mem}{s:Cr}{pm i o:Nat}{v:LV}(h:KcM M s pm)(hr:Rd1 M i o v):i ≠ pm:=by
 rintro rfl
 obtain⟨L,h1,_⟩:=h
 have h2:=hr.1
 unfold load1 atCells at h2
 rw[h1.1] at h2
 cases h2
theorem KcM.ne_at{M:Mem}{s:Cr}{pm i:Nat}{own:Bool}{cs:List LV}{ty:TypeId}(h:KcM M s pm)(ha:At M i (.cells own cs ty)):i ≠ pm:=by
 rintro rfl
 obtain⟨L,h1,_⟩:=h
 have h2:=ha.1
 rw[h1.1] at h2
 cases h2
theorem PlM.grow{M M':Mem}{A:CrA}{s:Cr}{pc pm pk:Nat}(h:PlM M A s pc pm pk)(hg:Grow M M'):PlM M' A s pc pm pk:=⟨h.ch.grow hg,h.kc.at hg.le (hg.old _ h.kc.lt),h.nc,h.nm⟩
theorem PlM.keepm{M M':Mem}{A:CrA}{s:Cr}{pc pm pk:Nat}(h:PlM M A s pc pm pk)(hk:Keep (fun i=>i=pm ∨ i=pk) M M')(hkn:KnM M' s pm)(hkc:KcM M' s pk):PlM M' A s pc pm pk :=
 ⟨h.ch.keep hk hkn (h.ch.cr.keepN hk (fun i o n x hr hf=>hf.elim (h.ch.known.ne_rd hr) (h.kc.ne_rd hr)) (fun i o x hr hf=>hf.elim (h.ch.known.ne_rd1 hr) (h.kc.ne_rd1 hr))) (fun hf=>hf.elim h.ch.ne h.nc),hkc,h.nc,h.nm⟩
theorem z3o{n c:Nat}(h:c < 2*n):c / 2 < n:=by omega
theorem zoy{A:CrA}{s:Cr}{pc pm:Nat}{c:Nat}{M:Mem}(hC:ChM M A s pc pm)(hs:CrOk s)(hc:c < 2*s.lines.length) :
  ze Tryz.prog 109 [.ptr (some (pc,0)),shC c] M (fun v M'=>v=.tup [.agg (posc (begC s c)),.agg (posc (endC s c))] /\ Grow M M'):=by
 have hway:=z6w hs (z3o hc)
 have hw:=fun M' (hg:Grow M M')=>zs9 (hC.grow hg) (z3o hc) (w:=((c % 2:Nat):Int)) (by omega)
 unfold begC endC
 rw[show wayF s (c / 2) ((c % 2:Nat):Int)=wayC s c from rfl] at hw
 generalize wayC s c=q at *
 have p1:=hway.1
 have p2:=hway.2.1
 dsimp only[PlP,Pl] at p1 p2
 have hco:=zau (q.2.1 - q.1.1) (q.2.2 - q.1.2) (by omega) (by omega)
 rw[show octF (q.2.1 - q.1.1) (q.2.2 - q.1.2)=octW q.1 q.2 from rfl] at hco
 refine zf k109 rfl ?_
 delta x109;refine un ?_
 repeat' first|with_reducible intro _|refine sv ?_|((with_reducible first|apply zj|apply zi|apply d_pure0);exact gd;exact rfl;exact rfl;(first|exact hw _ (xg)|exact hco _))|refine ss ?_ ?_<;>(intro h;first|exact sz h|refine sy h ?_)|exact sq|fail
 refine kf ?_
 exact⟨rfl,xg⟩
theorem zfp{A:CrA}{s:Cr}{M:Mem}(hM:CrM M A s):ze Tryz.prog 39 [crv A s] M (fun w M'=>Grow M M' /\ ((¬ CrOk s /\ ∃ pk,w=.tup [.agg [.ptr none,.map (some pk)],I 40]) ∨(CrOk s /\ ∃ pc pm pk,w=.tup [planv pc pk,I 0] /\ PlM M' A s pc pm pk /\ M.next<=pc /\ M.next<=pm /\ M.next<=pk))):=by
 refine zf k39 rfl ?_
 delta x39;refine un ?_
 have hc:=fun M' (hg:Grow M M')=>ziq (hM.grow hg)
 repeat' first|with_reducible intro _|refine sv ?_|((with_reducible first|apply zz|apply z0w|apply x_call0);exact gd;exact rfl;exact rfl;(first|exact hc _ (xg)))|refine ss ?_ ?_<;>(intro h;first|exact sz h|refine sy h ?_)|exact sq|fail
 rename_i n1 M1 hn1 e1 e2 n2 M2 hn2 e3 e4 w M3 hq
 obtain⟨hg3,⟨hno,rfl⟩|⟨hok,pc,pm,rfl,hch,h1,h2⟩⟩:=hq
 ·have hle3:=hg3.le
  repeat' first|with_reducible intro _|refine sv ?_|refine ss ?_ ?_<;>(intro h;first|exact sz h|refine sy h ?_)|exact sq|fail
  refine kf ?_
  exact⟨xg,.inl ⟨hno,_,rfl⟩⟩
 ·have hle3:=hg3.le
  have h3:=hch.cells.2
  have h4:=hch.known.lt
  repeat' first|with_reducible intro _|refine sv ?_|refine ss ?_ ?_<;>(intro h;first|exact sz h|refine sy h ?_)|exact sq|fail
  rename_i n12 M4 hn12 e5 e6 M5 hu5 e7 a5
  refine kf ?_
  have hpc1:=hch.cells
  obtain⟨L,hL1,hL2⟩:=hch.known
  exact⟨xg,.inr ⟨hok,pc,pm,n12,rfl,⟨⟨hM.grow (xg),xm,hch.ne,L,xm,hL2⟩,⟨([],[],0),xm,fun p hp=>by cases hp⟩,by omega,by omega⟩,by omega,by omega,by omega⟩⟩
set_option maxHeartbeats 4000000 in
theorem zfo{A:CrA}{s:Cr}{pc pm pk:Nat}{x:Rch}{c:Nat}{M:Mem}(hP:PlM M A s pc pm pk)(hs:CrOk s)(hx:PoseOk x.1)(ht:0<=x.2 /\ x.2<=5000000)(hc:c < 2*s.lines.length) :
  ze Tryz.prog 44 [planv pc pk,.agg (rchc x),shC c] M (fun v M'=>v=.tup [bdv ((goF s x c).getD (0,0)),.bool (goF s x c).isSome] /\ Keep (fun i=>i=pm ∨ i=pk) M M' /\ KnM M' s pm /\ KcM M' s pk):=by
 have hbg:=zop hs (z3o hc)
 have hcb:=zm2 hs hx hbg
 have he:=fun M' (hg:Grow M M')=>zoy (hP.ch.grow hg) hs hc
 obtain⟨L,hL,hkc⟩:=hP.kc
 have hpk:=hL.2
 have hpm:=hP.ch.known.lt
 have hnm:=hP.nm
 have hnc:=hP.nc
 have hcell:=hP.ch.cells
 have hpc:=hcell.2
 refine zf k44 rfl ?_
 delta x44;refine un ?_
 repeat' first|with_reducible intro _|refine sv ?_|((with_reducible first|apply zj|apply zi|apply d_pure0);exact gd;exact rfl;exact rfl;(first|exact he _ (xg)))|refine ss ?_ ?_<;>(intro h;first|exact sz h|refine sy h ?_)|exact sq|fail
 rename_i n3 M1 hn3 e1 e2 n4 M2 hn4 e3 e4 n5 M3 hn5 e5 e6 n6 M4 hn6 e7 e8 M5 hg5 e9 n8 M6 hn8 e10 e11 n9 M7 hn9 e12 e13 M8 hu8 e14 a8 M9 hu9 e15 a9 n10 M10 hn10 e16 e17 M11 hu11 e18 a10
 have hL11:At M11 pk (.map (encM keyc I L.1) L.2.1 L.2.2):=xm
 have hP11:PlM M11 A s pc pm pk:=hP.grow (xg)
 have b3:At M11 n3 (.cells true [.ptr (some (pc,0)),.map (some pk)] 130):=xm
 have b4:At M11 n4 (.cells true (rchc x) 142):=xm
 have b5:At M11 n5 (.cells true [I (c / 2:Nat),I (c % 2:Nat)] 47):=xm
 have b6:At M11 n6 (.cells true [I 0,I 0] 26):=xm
 have b8:At M11 n8 (.cells true (posc (begC s c)) 140):=xm
 have b10:At M11 n10 (.cells true [I x.1.1.1,I x.1.1.2,I x.1.2,I (begC s c).1.1,I (begC s c).1.2,I (begC s c).2] 239):=xm
 have hg11:Grow M M11:=xg
 have hpc3:pc < n3:=by omega
 have hpm3:pm < n3:=by omega
 have hpk3:pk < n3:=by omega
 have hK11:Keep (fun i=>i=pm ∨ i=pk) M M11:=hg11.to_keep _
 have hsh:=fun M' (hC:ChM M' A s pc pm) (hcost:¬ costN s x.1 (begC s c) < 0)=>zs6 hC hs (z3o hc) (w:=((c % 2:Nat):Int)) (by omega) (t:=x.2+costN s x.1 (begC s c)) (by omega)
 have hgo0:costN s x.1 (begC s c) < 0->goF s x c=none:=fun h=>by unfold goF;rw[if_pos h]
 have hgo1:¬ costN s x.1 (begC s c) < 0->goF s x c=shotF s (c / 2) ((c % 2:Nat):Int) (x.2+costN s x.1 (begC s c)):=fun h=>by unfold goF;rw[if_neg h];rfl
 rcases z8k (P:=Tryz.prog) (ek:=keyc) (ev:=I) zsk (x.1,begC s c) L.1 0 with⟨hf,hnew⟩|⟨j,v,hf,hin⟩
 rotate_left
 ·obtain rfl:v=costN s x.1 (begC s c):=hkc _ hin
  refine z9q (by exact gd) (z5g rfl rfl (zg4 (x.1,begC s c)) hL11 hf) ?_
  by_cases hneg:costN s x.1 (begC s c) < 0
  ·rw[hgo0 hneg]
   repeat' first|with_reducible intro _|refine sv ?_|refine ss ?_ ?_<;>(intro h;first|exact sz h|refine sy h ?_)|exact sq|fail
   all_goals try(exfalso;omega)
   refine kf ?_
   exact⟨rfl,xk,by obtain⟨L',z1,z2⟩:=hP11.ch.known;exact⟨L',xm,z2⟩,⟨L,xm,hkc⟩⟩
  ·rw[hgo1 hneg]
   repeat' first|with_reducible intro _|refine sv ?_|refine ss ?_ ?_<;>(intro h;first|exact sz h|refine sy h ?_)|exact sq|fail
   all_goals try(exfalso;omega)
   refine zz (by exact gd) rfl rfl (show AppOk Tryz.prog _ _ M11 _ from hsh M11 hP11.ch hneg) ?_
   rintro w MY ⟨rfl,hkY,hknY⟩
   have hleY:=hkY.le
   have b6Y:=b6.keep hkY (by omega)
   have hpmY:=hknY.lt
   have hLY:=hL11.keep hkY (by omega)
   have hpkY:=hLY.2
   have hKY:Keep (fun i=>i=pm ∨ i=pk) M MY:=hK11.trans hkY (fun i hi=>.inl (.inl hi))
   cases hsf:shotF s (c / 2) ((c % 2:Nat):Int) (x.2+costN s x.1 (begC s c)) with
   | none =>
    repeat' first|with_reducible intro _|refine sv ?_|refine ss ?_ ?_<;>(intro h;first|exact sz h|refine sy h ?_)|exact sq|fail
    refine kf ?_
    exact⟨rfl,xk,by obtain⟨L',z1,z2⟩:=hknY;exact⟨L',xm,z2⟩,⟨L,xm,hkc⟩⟩
   | some b =>
    repeat' first|with_reducible intro _|refine sv ?_|refine ss ?_ ?_<;>(intro h;first|exact sz h|refine sy h ?_)|exact sq|fail
    refine kf ?_
    exact⟨rfl,xk,by obtain⟨L',z1,z2⟩:=hknY;exact⟨L',xm,z2⟩,⟨L,xm,hkc⟩⟩
 ·refine z9q (by exact gd) (z5f rfl rfl (zg4 (x.1,begC s c)) hL11 hf) ?_
  have hv:=zb2 x.1
  have hx':=hx
  unfold PoseOk at hx'
  repeat' first|with_reducible intro _|refine sv ?_|((with_reducible first|apply zj|apply zi|apply d_pure0);exact gd;exact rfl;exact rfl;(first|exact hv _))|refine ss ?_ ?_<;>(intro h;first|exact sz h|refine sy h ?_)|exact sq|fail
  all_goals try(exact absurd hx' (by assumption))
  rename_i M12 hg12 e19
  have hle12:=hg12.le
  refine zz (by exact gd) rfl rfl (show AppOk Tryz.prog _ _ M12 _ from zro (hP11.ch.grow hg12) hs hx hbg) ?_
  rintro w M13 ⟨hk13,hkn13,sl,cc,rfl,hba⟩
  have hle13:=hk13.le
  have c3:At M13 n3 (.cells true [.ptr (some (pc,0)),.map (some pk)] 130):=(b3.grow hg12).keep hk13 (by omega)
  have c4:=(b4.grow hg12).keep hk13 (by omega)
  have c5:=(b5.grow hg12).keep hk13 (by omega)
  have c6:=(b6.grow hg12).keep hk13 (by omega)
  have c10:=(b10.grow hg12).keep hk13 (by omega)
  have hL13:=(hL11.grow hg12).keep hk13 (by omega)
  have hK13:Keep (fun i=>i=pm ∨ i=pk) M M13:=(hK11.grow hg12).trans hk13 (fun i hi=>.inl (.inl hi))
  have hpm13:=hkn13.lt
  have hpk13:=hL13.2
  have hkcn:∀ p ∈ L.1 ++ [((x.1,begC s c),costN s x.1 (begC s c))],p.2=costN s p.1.1 p.1.2:=fun p hp=>by
   rcases List.mem_append.1 hp with hp|hp
   ·exact hkc p hp
   ·obtain rfl:=List.mem_singleton.1 hp;rfl
  cases hbf:bestF s x.1 (begC s c) with
  | none =>
   have hcost:costN s x.1 (begC s c)=-1:=by unfold costN;rw[hbf]
   rw[hbf] at hba
   obtain⟨rfl,rfl⟩:=hba
   rw[hgo0 (by omega)]
   repeat' first|with_reducible intro _|refine sv ?_|refine ss ?_ ?_<;>(intro h;first|exact sz h|refine sy h ?_)|exact sq|fail
   all_goals try(exfalso;omega)
   refine z9f (by exact gd) rfl rfl rfl (zg4 (x.1,begC s c)) (xm) hf ?_
   intro M15 hu15 e25 a15
   rw[show [((keyc (x.1,begC s c)),LV.int IntKind.i64 (-1))]=[(keyc (x.1,begC s c),I (costN s x.1 (begC s c)))] by rw[hcost]] at hu15 a15
   rw[z50] at hu15 a15
   repeat' first|with_reducible intro _|refine sv ?_|refine ss ?_ ?_<;>(intro h;first|exact sz h|refine sy h ?_)|exact sq|fail
   all_goals try(exfalso;omega)
   refine kf ?_
   exact⟨rfl,xk,by obtain⟨L',z1,z2⟩:=hkn13;exact⟨L',xm,z2⟩,⟨(L.1 ++ [((x.1,begC s c),costN s x.1 (begC s c))],L.2.1 ++ [L.2.2],L.2.2+1),by dsimp only;exact xm,hkcn⟩⟩
  | some y =>
   have hcost:costN s x.1 (begC s c)=y.2:=by unfold costN;rw[hbf]
   have hyb:=zeu hs hx.1 hbg.1 (zc5 hbf).1
   have hneg:¬ costN s x.1 (begC s c) < 0:=by omega
   rw[hbf] at hba
   obtain⟨rfl,p,rfl,hp,ap⟩:=hba
   have hp:M12.next<=p:=hp
   rw[hgo1 hneg]
   repeat' first|with_reducible intro _|refine sv ?_|refine ss ?_ ?_<;>(intro h;first|exact sz h|refine sy h ?_)|exact sq|fail
   all_goals try(exfalso;omega)
   refine z9f (by exact gd) rfl rfl rfl (zg4 (x.1,begC s c)) (xm) hf ?_
   intro M16 hu16 e25 a16
   rw[<-hcost] at hu16 a16
   rw[show encM keyc I L.1 ++ [(keyc (x.1,begC s c),I (costN s x.1 (begC s c)))]=encM keyc I (L.1 ++ [((x.1,begC s c),costN s x.1 (begC s c))]) from z50 L.1 _ _] at hu16 a16
   have d3:At M16 n3 (.cells true [.ptr (some (pc,0)),.map (some pk)] 130):=xm
   have d4:At M16 n4 (.cells true (rchc x) 142):=xm
   have d5:At M16 n5 (.cells true [I (c / 2:Nat),I (c % 2:Nat)] 47):=xm
   have d6:At M16 n6 (.cells true [I 0,I 0] 26):=xm
   have hK16:Keep (fun i=>i=pm ∨ i=pk) M M16:=xk
   have hkn16:KnM M16 s pm:=by obtain⟨L',z1,z2⟩:=hkn13;exact⟨L',xm,z2⟩
   have hP16:=hP.keepm hK16 hkn16 ⟨(L.1 ++ [((x.1,begC s c),costN s x.1 (begC s c))],L.2.1 ++ [L.2.2],L.2.2+1),a16,hkcn⟩
   refine z9h (t:=11) (v':=I (costN s x.1 (begC s c))) rfl (by rw[hcost]) ?_
   repeat' first|with_reducible intro _|refine sv ?_|refine ss ?_ ?_<;>(intro h;first|exact sz h|refine sy h ?_)|exact sq|fail
   all_goals try(exfalso;omega)
   refine zz (by exact gd) rfl rfl (show AppOk Tryz.prog _ _ M16 _ from hsh M16 hP16.ch hneg) ?_
   rintro w MY ⟨rfl,hkY,hknY⟩
   have hleY:=hkY.le
   have b6Y:=d6.keep hkY (by omega)
   have hpmY:=hknY.lt
   have hLY:=a16.keep hkY (by omega)
   have hpkY:=hLY.2
   have hKY:Keep (fun i=>i=pm ∨ i=pk) M MY:=hK16.trans hkY (fun i hi=>.inl (.inl hi))
   cases hsf:shotF s (c / 2) ((c % 2:Nat):Int) (x.2+costN s x.1 (begC s c)) with
   | none =>
    repeat' first|with_reducible intro _|refine sv ?_|refine ss ?_ ?_<;>(intro h;first|exact sz h|refine sy h ?_)|exact sq|fail
    refine kf ?_
    exact⟨rfl,xk,by obtain⟨L',z1,z2⟩:=hknY;exact⟨L',xm,z2⟩,⟨(L.1 ++ [((x.1,begC s c),costN s x.1 (begC s c))],L.2.1 ++ [L.2.2],L.2.2+1),by dsimp only;exact xm,hkcn⟩⟩
   | some b =>
    repeat' first|with_reducible intro _|refine sv ?_|refine ss ?_ ?_<;>(intro h;first|exact sz h|refine sy h ?_)|exact sq|fail
    refine kf ?_
    exact⟨rfl,xk,by obtain⟨L',z1,z2⟩:=hknY;exact⟨L',xm,z2⟩,⟨(L.1 ++ [((x.1,begC s c),costN s x.1 (begC s c))],L.2.1 ++ [L.2.2],L.2.2+1),by dsimp only;exact xm,hkcn⟩⟩
def PlainR4{α:Type}(f:α->LV)(x:α)(v:List LV)(U:Nat->Prop)(_:Mem):Prop:=v=[f x] /\ ∀ i,¬ U i
theorem zcp{p:Nat->Bool}{n k:Nat}(hk:k < n):(List.range n).filter p=(List.range k).filter p ++((if p k then [k] else []) ++((List.range n).drop (k+1)).filter p):=by
 have h1:List.range n=List.range k ++([k] ++(List.range n).drop (k+1)):=by
  have h2:=List.take_append_drop (k+1) (List.range n)
  rw[List.take_range,Nat.min_eq_left (by omega),List.range_succ] at h2
  rw[<-List.append_assoc];exact h2.symm
 rw[h1,List.filter_append,List.filter_append]
 congr 1
 have h3:(List.range k ++([k] ++(List.range n).drop (k+1))).drop (k+1)=(List.range n).drop (k+1):=by rw[<-h1]
 rw[h3]
 congr 1
 cases hp:p k with
 | true=>rw[List.filter_cons_of_pos hp];rfl
 | false=>rw[List.filter_cons_of_neg (by rw[hp];decide)];rfl
theorem zea{p:Nat->Bool}{k:Nat}:(List.range (k+1)).filter p=(List.range k).filter p ++(if p k then [k] else []):=by
 rw[List.range_succ,List.filter_append]
 cases hp:p k with
 | true=>rw[List.filter_cons_of_pos hp];rfl
 | false=>rw[List.filter_cons_of_neg (by rw[hp];decide)];rfl
set_option maxHeartbeats 4000000 in
theorem z7s{A:CrA}{s:Cr}{pc pm pk np ns set:Nat}{M0:Mem}(hC:At M0 pc (.cells true (chc A s pm) 135))(hnp:At M0 np (.cells true [.ptr (some (pc,0)),.map (some pk)] 130))(hns:At M0 ns (.cells true [I set] 3))(hn5:s.lines.length<=5)(hset:set < 1048576) :
  YieldsS Tryz.prog 108 [] [.ptr (some (np,0)),.ptr (some (ns,0))] (fun i=>i=np ∨ i=ns ∨ i=pc) (fun _=>False) (fun _=>True) (shootsL s set) (PlainR4 shC) M0:=by
 intro l AA II DD tk hS hI0
 have hAnp:¬ AA np:=hS _ (.inl rfl)
 have hAns:¬ AA ns:=hS _ (.inr (.inl rfl))
 have hApc:¬ AA pc:=hS _ (.inr (.inr rfl))
 have hAlt:=tk.lt
 have l1:=hC.2
 have l2:=hnp.2
 have l3:=hns.2
 refine zf k108 rfl ?_
 dsimp only[x108,zM,zO,zI,zF,zS,zB,zL,zA,zE,zN,zW,zC,zH,zK,zX,zQ,zJ,zP,zY2,zY3,zY4,zY8,zT,zR,zU,zV,zG,List.map_cons,List.map_nil,zipE,Nat.reduceAdd,List.nil_append,List.cons_append]
 repeat' first|with_reducible intro _|refine sv ?_|refine ss ?_ ?_<;>(intro h;first|exact sz h|refine sy h ?_)|exact sq|fail
 refine zk (fun n E ms M'=>∃(i:Nat) (T:Nat->Prop),n=s.lines.length - i /\ i<=s.lines.length /\ ms=[] /\ Has E [(0,.func (.yield l) [] []),(1,.ptr (some (np,0))),(2,.ptr (some (ns,0))),(12,I s.lines.length),(13,I i)] /\ Keep AA M0 M' /\ (∀ j,T j->M0.next<=j /\ j < M'.next) /\ II ((List.range (2*i)).filter fun c=>set.testBit (c / 2)) T M') ?_ s.lines.length _ _ _
  ⟨0,fun _=>False,by omega,by omega,rfl,.cons rfl (.cons rfl (.cons rfl (.cons rfl (.cons rfl .nil)))),Keep.refl _ _,fun j hj=>hj.elim,hI0⟩
 rintro n E ms M1 ⟨i,T1,rfl,hi,rfl,hE,hk1,hT1,hI1⟩
 refine z1h hE ?_
 by_cases hlast:i=s.lines.length
 ·subst hlast
  repeat' first|with_reducible intro _|refine sv ?_|refine ss ?_ ?_<;>(intro h;first|exact sz h|refine sy h ?_)|exact sq|fail
  refine kf ?_
  exact⟨hk1.weaken (fun j hj=>.inl hj),trivial,T1,hT1,.inl hI1⟩
 have hlt:i < s.lines.length:=by omega
 repeat' first|with_reducible intro _|refine sv ?_|refine ss ?_ ?_<;>(intro h;first|exact sz h|refine sy h ?_)|exact sq|fail
 refine zk (fun n E ms M'=>∃(j:Nat) (T:Nat->Prop),n=2 - j /\ j<=2 /\ ms=[] /\ Has E [(0,.func (.yield l) [] []),(1,.ptr (some (np,0))),(2,.ptr (some (ns,0))),(4,I i),(12,I s.lines.length),(13,I i),(16,I j)] /\ Keep AA M0 M' /\ (∀ j,T j->M0.next<=j /\ j < M'.next) /\ II ((List.range (2*i+j)).filter fun c=>set.testBit (c / 2)) T M') ?_ 2 _ _ _
  ⟨0,T1,by omega,by omega,rfl,.cons rfl (.cons rfl (.cons rfl (.cons rfl (.cons rfl (.cons rfl (.cons rfl .nil)))))),hk1,hT1,hI1⟩
 rintro n E ms M2 ⟨j,T2,rfl,hj,rfl,hE2,hk2,hT2,hI2⟩
 refine z1h hE2 ?_
 have hle2:=hk2.le
 by_cases hlast2:j=2
 ·subst hlast2
  repeat' first|with_reducible intro _|refine sv ?_|refine ss ?_ ?_<;>(intro h;first|exact sz h|refine sy h ?_)|exact sq|fail
  refine z0d (s.lines.length - (i+1)) (by omega) ⟨i+1,T2,rfl,by omega,rfl,.cons rfl (.cons rfl (.cons rfl (.cons rfl (.cons rfl .nil)))),hk2,hT2,hI2⟩
 have hj2:j < 2:=by omega
 have hd2:(2*i+j) / 2=i:=by omega
 have hm2:(2*i+j) % 2=j:=by omega
 have hns2:=hns.keep hk2 hAns
 have l4:=hns2.2
 have hsb:=z1w (k:=i) (by omega)
 have hsucc:=zea (p:=fun c=>set.testBit (c / 2)) (k:=2*i+j)
 have hsplit:=zcp (p:=fun c=>set.testBit (c / 2)) (n:=2*s.lines.length) (k:=2*i+j) (by omega)
 rw[hd2] at hsucc hsplit
 cases hb:set.testBit i with
 | false =>
  have hz:andZ (set:Int) (shlZ 1 (i:Int))=0:=(z47 _ _).2 hb
  rw[hb,if_neg (by decide),List.append_nil] at hsucc
  repeat' first|with_reducible intro _|refine sv ?_|refine ss ?_ ?_<;>(intro h;first|exact sz h|refine sy h ?_)|exact sq|fail
  refine z0d (2 - (j+1)) (by omega) ⟨j+1,T2,rfl,by omega,rfl,.cons rfl (.cons rfl (.cons rfl (.cons rfl (.cons rfl (.cons rfl (.cons rfl .nil)))))),hk2,hT2,by rw[show 2*i+(j+1)=2*i+j+1 by omega,hsucc];exact hI2⟩
 | true =>
  have hz:¬ andZ (set:Int) (shlZ 1 (i:Int))=0:=fun h=>by rw[z47,hb] at h;cases h
  rw[hb,if_pos rfl] at hsucc hsplit
  have hst:=tk.step _ (2*i+j) _ [shC (2*i+j)] (fun _=>False) T2 M2 hsplit ⟨rfl,fun _ h=>h⟩ hle2 hT2 (fun _ h=>h.elim) hI2
  rw[show shC (2*i+j)=.agg [I i,I j] by unfold shC;rw[hd2,hm2]] at hst
  repeat' first|with_reducible intro _|refine sv ?_|refine ss ?_ ?_<;>(intro h;first|exact sz h|refine sy h ?_)|exact sq|fail
  refine z0w (by exact gd) rfl rfl (show AppOk Tryz.prog (.func (.yield l) [] []) _ M2 _ from hst) ?_
  rintro w M3 ⟨hk3,T3,hT3,hres⟩
  have hle3:=hk3.le
  have hk03:Keep AA M0 M3:=hk2.trans hk3 (fun q hq=>by
   rcases hq with hq|hq|hq
   ·exact .inl hq
   ·exact .inr (hT2 q hq).1
   ·exact hq.elim)
  have hT3':∀ q,T3 q->M0.next<=q /\ q < M3.next:=fun q hq=>by
   obtain⟨h1,h2⟩:=hT3 q hq
   rcases h1 with h1|h1|h1
   ·exact⟨(hT2 q h1).1,h2⟩
   ·exact h1.elim
   ·exact⟨by omega,h2⟩
  rcases hres with⟨rfl,hI3⟩|⟨rfl,hD3⟩
  ·repeat' first|with_reducible intro _|refine sv ?_|refine ss ?_ ?_<;>(intro h;first|exact sz h|refine sy h ?_)|exact sq|fail
   refine z0d (2 - (j+1)) (by omega) ⟨j+1,T3,rfl,by omega,rfl,.cons rfl (.cons rfl (.cons rfl (.cons rfl (.cons rfl (.cons rfl (.cons rfl .nil)))))),hk03,hT3',by rw[show 2*i+(j+1)=2*i+j+1 by omega,hsucc];exact hI3⟩
  ·repeat' first|with_reducible intro _|refine sv ?_|refine ss ?_ ?_<;>(intro h;first|exact sz h|refine sy h ?_)|exact sq|fail
   refine kf ?_
   exact⟨hk03.weaken (fun j hj=>.inl hj),trivial,T3,hT3',.inr hD3⟩
theorem zc0(u k:Nat):andnZ (u:Int) (shlZ 1 (k:Int))=((restN u k:Nat):Int):=by
 unfold andnZ restN
 rw[z5c]
 show(u:Int) - ((u &&& 2 ^ k:Nat):Int)=_
 rw[Int.ofNat_sub Nat.and_le_left]
structure ChC (M:Mem) (A:CrA) (s:Cr) (pc pm:Nat):Prop where
 cr:CrM M A s
 cells:At M pc (.cells true (chc A s pm) 135)
theorem ChC.grow{M M':Mem}{A:CrA}{s:Cr}{pc pm:Nat}(h:ChC M A s pc pm)(hg:Grow M M'):ChC M' A s pc pm:=⟨h.cr.grow hg,h.cells.grow hg⟩
theorem PlM.chc{MB M:Mem}{A:CrA}{s:Cr}{pc pm pk:Nat}(h:PlM MB A s pc pm pk)(hk:Keep (fun i=>i=pm ∨ i=pk) MB M):ChC M A s pc pm :=
 ⟨h.ch.cr.keepN hk (fun i o n x hr hf=>hf.elim (h.ch.known.ne_rd hr) (h.kc.ne_rd hr)) (fun i o x hr hf=>hf.elim (h.ch.known.ne_rd1 hr) (h.kc.ne_rd1 hr)),h.ch.cells.keep hk (fun hf=>hf.elim h.ch.ne h.nc)⟩
theorem zsa{A:CrA}{s:Cr}{pc pm:Nat}{k:Nat}{w:Int}{M:Mem}(hC:ChC M A s pc pm)(hk:k < s.lines.length)(hw:w=0 ∨ w=1) :
  ze Tryz.prog 164 [.ptr (some (pc,0)),shv k w] M (fun v M'=>v=wayv (wayF s k w) /\ Grow M M'):=by
 obtain⟨aL,fL,aF,fF,aB,fB,aO,fO,eF⟩:=A
 have hcell:=hC.cells
 have hpc:=hcell.2
 obtain⟨i,o,rfl,hr⟩:=(show SlA 4 legc M aL s.lines from hC.cr.lines).resolve_left (fun e=>by rw[e] at hk;simp at hk)
 have r1:=hr k hk
 have hi:=r1.2
 refine zf k164 rfl ?_
 delta x164;refine un ?_
 unfold wayF
 rw[z00 hk]
 rcases hw with rfl|rfl
 ·(have hrd0:=r1;repeat' (first|(with_reducible intro _)|refine sv ?_|refine ss ?_ ?_<;>(intro h;first|exact sz h|refine sy h ?_)|exact sq|fail))
  refine kf ?_
  exact⟨rfl,xg⟩
 ·(have hrd0:=r1;repeat' (first|(with_reducible intro _)|refine sv ?_|refine ss ?_ ?_<;>(intro h;first|exact sz h|refine sy h ?_)|exact sq|fail))
  refine kf ?_
  exact⟨rfl,xg⟩
theorem zoz{A:CrA}{s:Cr}{pc pm:Nat}{c:Nat}{M:Mem}(hC:ChC M A s pc pm)(hs:CrOk s)(hc:c < 2*s.lines.length) :
  ze Tryz.prog 109 [.ptr (some (pc,0)),shC c] M (fun v M'=>v=.tup [.agg (posc (begC s c)),.agg (posc (endC s c))] /\ Grow M M'):=by
 have hway:=z6w hs (z3o hc)
 have hw:=fun M' (hg:Grow M M')=>zsa (hC.grow hg) (z3o hc) (w:=((c % 2:Nat):Int)) (by omega)
 unfold begC endC
 rw[show wayF s (c / 2) ((c % 2:Nat):Int)=wayC s c from rfl] at hw
 generalize wayC s c=q at *
 have p1:=hway.1
 have p2:=hway.2.1
 dsimp only[PlP,Pl] at p1 p2
 have hco:=zau (q.2.1 - q.1.1) (q.2.2 - q.1.2) (by omega) (by omega)
 rw[show octF (q.2.1 - q.1.1) (q.2.2 - q.1.2)=octW q.1 q.2 from rfl] at hco
 refine zf k109 rfl ?_
 delta x109;refine un ?_
 repeat' first|with_reducible intro _|refine sv ?_|((with_reducible first|apply zj|apply zi|apply d_pure0);exact gd;exact rfl;exact rfl;(first|exact hw _ (xg)|exact hco _))|refine ss ?_ ?_<;>(intro h;first|exact sz h|refine sy h ?_)|exact sq|fail
 refine kf ?_
 exact⟨rfl,xg⟩
theorem zb0{A:CrA}{s:Cr}{pc pm pk:Nat}{M:Mem}(hC:ChC M A s pc pm):ze Tryz.prog 47 [planv pc pk] M (fun v M'=>v=.agg (rchc (startR s)) /\ Grow M M'):=by
 have hcell:=hC.cells
 have hpc:=hcell.2
 refine zf k47 rfl ?_
 delta x47;refine un ?_
 repeat' first|with_reducible intro _|refine sv ?_|refine ss ?_ ?_<;>(intro h;first|exact sz h|refine sy h ?_)|exact sq|fail
 refine kf ?_
 exact⟨rfl,xg⟩
theorem zaw{A:CrA}{s:Cr}{pc pm pk:Nat}{c:Nat}{t:Int}{M:Mem}(hC:ChC M A s pc pm)(hs:CrOk s)(hc:c < 2*s.lines.length):ze Tryz.prog 46 [planv pc pk,shC c,I t] M (fun v M'=>v=.agg (rchc (rchF s c t)) /\ Grow M M'):=by
 have he:=fun M' (hg:Grow M M')=>zoz (hC.grow hg) hs hc
 unfold rchF
 refine zf k46 rfl ?_
 delta x46;refine un ?_
 repeat' first|with_reducible intro _|refine sv ?_|((with_reducible first|apply zj|apply zi|apply d_pure0);exact gd;exact rfl;exact rfl;(first|exact he _ (xg)))|refine ss ?_ ?_<;>(intro h;first|exact sz h|refine sy h ?_)|exact sq|fail
 refine kf ?_
 exact⟨rfl,xg⟩
theorem zsx{s:Cr}{set c:Nat}:((plN s set c:Nat):Int)=2*(s.lines.length:Int)*(set:Int)+2*((c / 2:Nat):Int)+((c % 2:Nat):Int):=by
 unfold plN
 have:2*(c / 2)+c % 2=c:=Nat.div_add_mod c 2
 rw[Int.natCast_add,Int.natCast_mul,Int.natCast_mul]
 have h2:((c:Nat):Int)=2*((c / 2:Nat):Int)+((c % 2:Nat):Int):=by omega
 rw[h2]
 show 2*(s.lines.length:Int)*(set:Int)+(2*((c / 2:Nat):Int)+((c % 2:Nat):Int))=_
 rw[Int.add_assoc]
theorem zay{A:CrA}{s:Cr}{pc pm pk:Nat}{set c:Nat}{M:Mem}(hC:ChC M A s pc pm)(hn5:s.lines.length<=5)(hset:set<=1000)(hc:c<=1000):ze Tryz.prog 42 [planv pc pk,I set,shC c] M (fun v M'=>v=I (plN s set c:Nat) /\ Grow M M'):=by
 have hcell:=hC.cells
 have hpc:=hcell.2
 have hm:=z37 (a:=2*(s.lines.length:Int)) (b:=(set:Int)) (A:=10) (B:=1000) (by omega) (by omega)
 rw[zsx]
 refine zf k42 rfl ?_
 delta x42;refine un ?_
 repeat' first|with_reducible intro _|refine sv ?_|refine ss ?_ ?_<;>(intro h;first|exact sz h|refine sy h ?_)|exact sq|fail
 refine kf ?_
 exact⟨rfl,xg⟩
abbrev shtF(np ns:Nat):LV:=.func (.func 108) [] [.ptr (some (np,0)),.ptr (some (ns,0))]
theorem z7l{pc pk:Nat}{set:Int}(M:Mem):ze Tryz.prog 41 [planv pc pk,I set] M (fun v M'=>∃ np ns,v=shtF np ns /\ Grow M M' /\ M.next<=np /\ M.next<=ns /\ At M' np (.cells true [.ptr (some (pc,0)),.map (some pk)] 130) /\ At M' ns (.cells true [I set] 3)):=by
 refine zf k41 rfl ?_
 delta x41;refine un ?_
 repeat' first|with_reducible intro _|refine sv ?_|refine ss ?_ ?_<;>(intro h;first|exact sz h|refine sy h ?_)|exact sq|fail
 refine kf ?_
 exact⟨_,_,rfl,xg,by omega,by omega,xm,xm⟩
abbrev intz(n:Int):List LV:=[I n]
theorem zi1{s:Cr}:shootsL s (2 ^ s.lines.length - 1)=List.range (2*s.lines.length):=by
 unfold shootsL
 rw[List.filter_eq_self]
 intro c hc
 exact zdn (by have:=List.mem_range.1 hc;omega)
noncomputable abbrev befF2(s:Cr)(tab:List Int)(rest y:Nat):Option Rch:=if tab.getD (plN s rest y) 0 ≠ -1 then some (rchF s y (tab.getD (plN s rest y) 0)) else none
set_option maxHeartbeats 8000000 in
theorem zns{MB M0:Mem}{A:CrA}{s:Cr}{pc pm pk nq ne nx nt set c:Nat}{aT:Option (Nat × Nat)}{fT:Bool}{tab:List Int}(hpl:PlM MB A s pc pm pk)(htab:SlA 1 intz MB aT tab)(hK:Keep (fun i=>i=pm ∨ i=pk) MB M0)
  (hq0:At M0 nq (.cells true [.ptr (some (pc,0)),.map (some pk)] 130)) (he0:At M0 ne (.cells true [I set] 3)) (hx0:At M0 nx (.cells true [I (c / 2:Nat),I (c % 2:Nat)] 47)) (ht0:At M0 nt (.cells true [.slice aT tab.length fT 1] 63))
  (hs:CrOk s) (hc:c < 2*s.lines.length) (hset:set < 2 ^ s.lines.length) (htl:tab.length=2*s.lines.length*2 ^ s.lines.length) (htb:∀ v ∈ tab,-1<=v /\ v<=5000000) :
  YieldsS Tryz.prog 207 [] [.ptr (some (ne,0)),.ptr (some (nx,0)),.ptr (some (nq,0)),.ptr (some (nt,0))] (fun i=>i=nq ∨ i=nt ∨(i < MB.next /\ i ≠ pm /\ i ≠ pk)) (fun _=>False) (fun _=>True) (befL s tab set c) (PlainR4 fun x=>.agg (rchc x)) M0:=by
 intro l AA II DD tk hS hI0
 have hn5:=hs.n5
 have hp2:2 ^ s.lines.length<=32:=Nat.pow_le_pow_right (n:=2) (by omega) hn5
 have l1:=hq0.2
 have l2:=he0.2
 have l3:=hx0.2
 have l4:=ht0.2
 have hch0:=hpl.chc hK
 have hcell:=hch0.cells
 have l5:=hcell.2
 have hAlt:=tk.lt
 have hAm:∀ i,AA i->i=pm ∨ i=pk ∨ MB.next<=i:=fun i hi=>by
  by_cases h1:i=pm
  ·exact .inl h1
  ·by_cases h2:i=pk
   ·exact .inr (.inl h2)
   ·exact .inr (.inr (by
     rcases Nat.lt_or_ge i MB.next with h3|h3
     ·exact absurd hi (hS i (.inr (.inr ⟨h3,h1,h2⟩)))
     ·exact h3))
 have hstab:∀ {d M M'},II d (fun _=>False) M->Grow M M'->M0.next<=M.next->II d (fun _=>False) M':=fun {d M M'} hI hg hle=>tk.stab _ _ _ _ hI hg.le fun i hi=>hg.old i (by rcases hi with hi|hi;omega;exact hi.elim)
 have hsb:=z1w (k:=c / 2) (by omega)
 have hsb2:=z1w (k:=s.lines.length) (by omega)
 refine zf k207 rfl ?_
 dsimp only[x207,zM,zO,zI,zF,zS,zB,zL,zA,zE,zN,zW,zC,zH,zK,zX,zQ,zJ,zP,zY2,zY3,zY4,zY8,zT,zR,zU,zV,zG,List.map_cons,List.map_nil,zipE,Nat.reduceAdd,List.nil_append,List.cons_append]
 have hrest:=zc0 set (c / 2)
 have hrle:restN set (c / 2)<=set:=by unfold restN;omega
 by_cases hr0:restN set (c / 2)=0
 ·have hrz:andnZ (set:Int) (shlZ 1 ((c / 2:Nat):Int))=0:=by rw[hrest,hr0];rfl
  have hitems:befL s tab set c=[] ++ startR s :: []:=by unfold befL;rw[if_pos hr0];rfl
  repeat' first|with_reducible intro _|refine sv ?_|((with_reducible first|apply zj|apply zi|apply d_pure0);exact gd;exact rfl;exact rfl;(first|exact zb0 (hch0.grow (xg))))|refine ss ?_ ?_<;>(intro h;first|exact sz h|refine sy h ?_)|exact sq|fail
  rename_i ny M1 hny e1 e2 n6 M2 hn6 e3 e4 M3 hu3 e5 a6 M4 hg4 e6
  have hg04:Grow M0 M4:=xg
  have hst:=tk.step [] (startR s) [] [.agg (rchc (startR s))] (fun _=>False) (fun _=>False) M4 hitems ⟨rfl,fun _ h=>h⟩ hg04.le (fun _ h=>h.elim) (fun _ h=>h.elim) (hstab hI0 hg04 (Nat.le_refl _))
  refine z0w (by exact gd) rfl rfl (show AppOk Tryz.prog (.func (.yield l) [] []) _ M4 _ from hst) ?_
  rintro w M5 ⟨hk5,T5,hT5,hres⟩
  have hle5:=hk5.le
  have hk05:Keep AA M0 M5:=(hg04.to_keep AA).trans hk5 (fun q hq=>by
   rcases hq with hq|hq|hq
   ·exact .inl hq
   ·exact hq.elim
   ·exact hq.elim)
  have hT5':∀ q,T5 q->M0.next<=q /\ q < M5.next:=fun q hq=>by
   obtain⟨h1,h2⟩:=hT5 q hq
   rcases h1 with h1|h1|h1
   ·exact h1.elim
   ·exact h1.elim
   ·exact⟨by have:=hg04.le;omega,h2⟩
  clear hg04
  repeat' first|with_reducible intro _|refine sv ?_|refine ss ?_ ?_<;>(intro h;first|exact sz h|refine sy h ?_)|exact sq|fail
  refine kf ?_
  exact⟨hk05.weaken (fun q hq=>.inl hq),trivial,T5,hT5',hitems ▸ hres.imp (fun h=>h.2) (fun h=>h.2)⟩
 ·have hrz:¬ andnZ (set:Int) (shlZ 1 ((c / 2:Nat):Int))=0:=by rw[hrest];omega
  have hall:shlZ 1 (s.lines.length:Int) - 1=((2 ^ s.lines.length - 1:Nat):Int):=by rw[z5c];have:=Nat.two_pow_pos s.lines.length;omega
  have hitems:befL s tab set c=(List.range (2*s.lines.length)).filterMap (befF2 s tab (restN set (c / 2))):=by unfold befL;rw[if_neg hr0]
  repeat' first|with_reducible intro _|refine sv ?_|refine ss ?_ ?_<;>(intro h;first|exact sz h|refine sy h ?_)|exact sq|fail
  rename_i ny M1 hny e1 e2 n6 M2 hn6 e3 e4 M3 hu3 e5 a6
  have hg03:Grow M0 M3:=xg
  have hle03:=hg03.le
  refine z0w (by exact gd) rfl rfl (show AppOk Tryz.prog _ _ M3 _ from z7l (pc:=pc) (pk:=pk) (set:=shlZ 1 (s.lines.length:Int) - 1) M3) ?_
  rintro w M4 ⟨np2,nsq,rfl,hg4,hp4,hs4,a4,b4⟩
  have hle4:=hg4.le
  rw[hall] at b4
  have q4:=a4.2
  have q5:=b4.2
  repeat' first|with_reducible intro _|refine sv ?_|refine ss ?_ ?_<;>(intro h;first|exact sz h|refine sy h ?_)|exact sq|fail
  apply z4w
  exact rfl
  intro lb d l2 M5 M6 hlb hd e7 e8 hl e9 e10
  have hg06:Grow M0 M6:=((hg03.trans hg4).new hd).new hl
  have hle06:=hg06.le
  have hg46:Grow M4 M6:=hd.grow.trans hl.grow
  have hy:=z7s (A:=A) (s:=s) (pc:=pc) (pm:=pm) (pk:=pk) (np:=np2) (ns:=nsq) (set:=2 ^ s.lines.length - 1) (M0:=M6) (hcell.grow hg06) (a4.grow hg46) (b4.grow hg46) hn5 (by omega)
  rw[zi1] at hy
  have by6:At M6 ny (.cells true [.func (.yield l) [] []] 369):=At.grow hg46 (At.grow hg4 (xm))
  have b66:At M6 n6 (.cells true [I (restN set (c / 2):Nat)] 3):=by rw[<-hrest];exact At.grow hg46 (At.grow hg4 a6)
  have bd6:At M6 d .defr:=At.new_old hl (At.new_same hd)
  have hII6:=hstab hI0 hg06 (Nat.le_refl _)
  refine(hy l2 (fun i=>AA i ∨ i=l2) (fun dn T M=>Keep AA M0 M /\ (∀ i,T i->M0.next<=i /\ i < M.next) /\ II (dn.filterMap (befF2 s tab (restN set (c / 2)))) T M /\ At M ny (.cells true [.func (.yield l) [] []] 369) /\ At M n6 (.cells true [I (restN set (c / 2):Nat)] 3) /\ At M l2 (lb .ready none) /\ At M d .defr)
   (fun T M=>Keep AA M0 M /\ (∀ i,T i->M0.next<=i /\ i < M.next) /\ DD T M /\ At M l2 (lb .done (some .ret)) /\ At M d .defr) ⟨?_,?_,?_,?_⟩ ?_ ⟨hg06.to_keep _,fun _ h=>h.elim,hII6,by6,b66,At.new_same hl,bd6⟩).mono ?_
  ·rintro i (hi|hi)
   ·have:=hAlt i hi;omega
   ·omega
  ·rintro dn T M M' ⟨h1,h2,h3,h4,h5,h6,h7⟩ hle hg
   have hgo:∀ i,i < M6.next->M'.get i=M.get i:=fun i hi=>hg i (.inl ⟨hi,id⟩)
   exact⟨⟨Nat.le_trans h1.le hle,fun i hi hf=>by rw[hgo i (by omega)];exact h1.old i hi hf⟩,fun i hi=>by have:=h2 i hi;omega,tk.stab _ _ _ _ h3 hle (fun i hi=>by
    rcases hi with hi|hi
    ·exact hgo i (by omega)
    ·exact hg i (.inr hi)),h4.same hle (hgo _ by6.2),h5.same hle (hgo _ b66.2),h6.same hle (hgo _ (by omega)),h7.same hle (hgo _ bd6.2)⟩
  ·rintro T M M' ⟨h1,h2,h3,h4,h5⟩ hle hg
   have hgo:∀ i,i < M6.next->M'.get i=M.get i:=fun i hi=>hg i (.inl ⟨hi,id⟩)
   exact⟨⟨Nat.le_trans h1.le hle,fun i hi hf=>by rw[hgo i (by omega)];exact h1.old i hi hf⟩,fun i hi=>by have:=h2 i hi;omega,tk.stabD _ _ _ h3 hle (fun i hi=>by
    rcases hi with hi|hi
    ·exact hgo i (by omega)
    ·exact hg i (.inr hi)),h4.same hle (hgo _ (by omega)),h5.same hle (hgo _ bd6.2)⟩
  ·rintro dn y rest v U T M hits ⟨rfl,hU⟩ hN hT hUd ⟨h1,h2,h3,h4,h5,h6,h7⟩
   have hKB:Keep (fun i=>i=pm ∨ i=pk) MB M:=hK.trans h1 (fun i hi=>by
    rcases hAm i hi with h|h|h
    ·exact .inl (.inl h)
    ·exact .inl (.inr h)
    ·exact .inr h)
   have hleK:=hK.le
   have hle1:=h1.le
   have hq1:=hq0.keep h1 (hS _ (.inl rfl))
   have ht1:=ht0.keep h1 (hS _ (.inr (.inl rfl)))
   have htb1:SlA 1 intz M aT tab:=htab.keepN hKB (fun i o n x hr hf=>hf.elim (hpl.ch.known.ne_rd hr) (hpl.kc.ne_rd hr))
   have hy2:y < 2*s.lines.length:=List.mem_range.1 (by rw[hits];simp)
   have hidx:plN s (restN set (c / 2)) y < tab.length:=by rw[htl];exact zhy (by omega) hy2
   obtain⟨iT,oT,rfl,hrT⟩:=htb1.resolve_left (fun h=>by rw[h] at hidx;simp at hidx)
   have rT:Rd1 M iT (oT+plN s (restN set (c / 2)) y*1) (I tab[plN s (restN set (c / 2)) y]):=(hrT _ hidx).nth (j:=0) rfl
   have hiT:=rT.2
   have hlq:=hq1.2
   have hlt2:=ht1.2
   have hl2M:=h6.2
   have hdM:=h7.2
   have hniT:iT ≠ l2:=by
    have:=(show SlA 1 intz MB (some (iT,oT)) tab from htab).resolve_left (fun h=>by rw[h] at hidx;simp at hidx)
    obtain⟨i',o',e,hr'⟩:=this
    cases e
    have:=(hr' _ hidx).2
    omega
   have hgD:tab.getD (plN s (restN set (c / 2)) y) 0=tab[plN s (restN set (c / 2)) y]:=z00 hidx
   have hub:=htb _ (List.getElem_mem hidx)
   have hchk:∀ M',Keep (fun i=>i=l2) M M'->ChC M' A s pc pm:=fun M' hk'=>hpl.chc (hKB.trans hk' (fun i hi=>.inr (by omega)))
   have hplc:=fun M' (hk':Keep (fun i=>i=l2) M M')=>zay (pk:=pk) (set:=restN set (c / 2)) (c:=y) (hchk M' hk') hn5 (by omega) (by omega)
   have hfm:(dn ++ [y]).filterMap (befF2 s tab (restN set (c / 2)))=dn.filterMap (befF2 s tab (restN set (c / 2))) ++(befF2 s tab (restN set (c / 2)) y).toList:=by
    rw[List.filterMap_append]
    congr 1
   have hsameT:∀ M',Keep (fun i=>i=l2) M M'->II (dn.filterMap (befF2 s tab (restN set (c / 2)))) T M':=fun M' hk'=>tk.stab _ _ _ _ h3 hk'.le (fun i hi=>hk'.old i (by
    rcases hi with hi|hi
    ·omega
    ·exact(hT i hi).2) (by
    rcases hi with hi|hi
    ·omega
    ·have:=(hT i hi).1;omega))
   have hbf:befF2 s tab (restN set (c / 2)) y=if tab[plN s (restN set (c / 2)) y] ≠ -1 then some (rchF s y tab[plN s (restN set (c / 2)) y]) else none:=by unfold befF2;rw[hgD]
   rw[hfm]
   generalize tab[plN s (restN set (c / 2)) y]=u at *
   by_cases hu:u=-1
   ·rw[if_neg (fun h=>h hu)] at hbf
    rw[hbf]
    refine z1s hlb h6 rfl ?_
    dsimp only[zipP]
    (have hrd0:=rT;repeat' (first|(with_reducible intro _)|refine sv ?_|((with_reducible first|apply zj|apply zi|apply d_pure0);exact gd;exact rfl;exact rfl;(first|exact hplc _ (xk)))|refine ss ?_ ?_<;>(intro h;first|exact sz h|refine sy h ?_)|exact sq|fail))
    rename_i n7 MA hnA e11 e12 MX huX e13 aX MC huC e14 aC MD hgD2 e15 hx ME huE e16 aE
    have hkE:Keep (fun i=>i=l2) M ME:=xk
    exact⟨hkE.weaken (fun i hi=>.inl (.inr hi)),T,fun i hi=>⟨.inl hi,by have:=hT i hi;omega⟩,.inl ⟨rfl,h1.trans hkE (fun i hi=>.inr (by omega)),fun i hi=>by have:=h2 i hi;omega,by show II (_ ++ []) T ME;rw[List.append_nil];exact hsameT ME hkE,h4.keep hkE (by omega),h5.keep hkE (by omega),aE,h7.keep hkE (by omega)⟩⟩
   ·rw[if_pos hu] at hbf
    rw[hbf]
    have haft:=fun M' (hk':Keep (fun i=>i=l2) M M')=>zaw (pk:=pk) (c:=y) (t:=u) (hchk M' hk') hs hy2
    refine z1s hlb h6 rfl ?_
    dsimp only[zipP]
    (have hrd0:=rT;repeat' (first|(with_reducible intro _)|refine sv ?_|((with_reducible first|apply zj|apply zi|apply d_pure0);exact gd;exact rfl;exact rfl;(first|exact hplc _ (xk)|exact haft _ (xk)))|refine ss ?_ ?_<;>(intro h;first|exact sz h|refine sy h ?_)|exact sq|fail))
    rename_i n7 MA hnA e11 e12 MX huX e13 aX MC huC e14 aC MD hgD2 e15 ME hgE e16
    have hkE:Keep (fun i=>i=l2) M ME:=xk
    have hits2:befL s tab set c=dn.filterMap (befF2 s tab (restN set (c / 2))) ++ rchF s y u :: rest.filterMap (befF2 s tab (restN set (c / 2))):=by rw[hitems,hits,List.filterMap_append,List.filterMap_cons,hbf]
    have hst:=tk.step _ _ _ [.agg (rchc (rchF s y u))] (fun _=>False) T ME hits2 ⟨rfl,fun _ h=>h⟩ (by omega) (fun i hi=>by have:=h2 i hi;omega) (fun _ h=>h.elim) (hsameT ME hkE)
    have aE:At ME l2 (lb .busy none):=xm
    refine z0w (by exact gd) rfl rfl (show AppOk Tryz.prog (.func (.yield l) [] []) _ ME _ from hst) ?_
    rintro w MF ⟨hkF,TF,hTF,hres⟩
    have hleF:=hkF.le
    have hl2out:¬(AA l2 ∨ T l2 ∨ False):=by
     rintro(h|h|h)
     ·have:=hAlt _ h;omega
     ·have:=(hT _ h).1;omega
     ·exact h
    have aF:At MF l2 (lb .busy none):=aE.keep hkF hl2out
    have hkM:Keep (fun i=>(AA i ∨ i=l2) ∨ T i ∨ U i) M MF:=hkE.weaken (fun i hi=>.inl (.inr hi)) |>.trans hkF (fun i hi=>by
     rcases hi with hi|hi|hi
     ·exact .inl (.inl (.inl hi))
     ·exact .inl (.inr (.inl hi))
     ·exact hi.elim)
    have hk0F:Keep AA M0 MF:=(h1.trans hkE (fun i hi=>.inr (by omega))).trans hkF (fun i hi=>by
     rcases hi with hi|hi|hi
     ·exact .inl hi
     ·exact .inr (h2 i hi).1
     ·exact hi.elim)
    have hTF':∀ i,TF i->(T i ∨ U i ∨ M.next<=i) /\ i < MF.next:=fun i hi=>by
     obtain⟨q1,q2⟩:=hTF i hi
     refine⟨?_,q2⟩
     rcases q1 with q1|q1|q1
     ·exact .inl q1
     ·exact q1.elim
     ·exact .inr (.inr (by omega))
    have hTFl:∀ i,TF i->M0.next<=i /\ i ≠ l2:=fun i hi=>by
     rcases(hTF i hi).1 with q1|q1|q1
     ·have:=hT i q1;have:=h2 i q1;omega
     ·exact q1.elim
     ·omega
    have hout:∀ j,M0.next<=j->j < M6.next->¬(AA j ∨ T j ∨ False):=fun j j1 j2 h=>by
     rcases h with h|h|h
     ·have:=hAlt _ h;omega
     ·have:=(hT _ h).1;omega
     ·exact h
    have hnyF:=(h4.keep hkE (by omega)).keep hkF (hout ny (by omega) (by omega))
    have hn6F:=(h5.keep hkE (by omega)).keep hkF (hout n6 (by omega) (by omega))
    have hdF:=(h7.keep hkE (by omega)).keep hkF (hout d (by omega) (by omega))
    have hl2F:M0.next<=l2:=by omega
    have hdl2:d ≠ l2:=by omega
    have hnyl2:ny ≠ l2:=by omega
    have hn6l2:n6 ≠ l2:=by omega
    rcases hres with⟨rfl,hIF⟩|⟨rfl,hDF⟩
    ·repeat' first|with_reducible intro _|refine sv ?_|refine ss ?_ ?_<;>(intro h;first|exact sz h|refine sy h ?_)|exact sq|fail
     rename_i hx2 MG huG e17 aG
     have hGo:∀ i,i ≠ l2->MG.get i=MF.get i:=fun i hi=>z03 huG hi
     exact⟨hkM.upd huG (.inl (.inl (.inr rfl))),TF,fun i hi=>by have:=hTF' i hi;rw[e17];exact this,.inl ⟨rfl,hk0F.upd huG (.inr hl2F),fun i hi=>by have:=hTFl i hi;have:=(hTF' i hi).2;omega,tk.stab _ _ _ _ hIF (by omega) (fun i hi=>hGo i (by
      rcases hi with hi|hi
      ·omega
      ·exact(hTFl i hi).2)),hnyF.upd_ne huG hnyl2,hn6F.upd_ne huG hn6l2,aG,hdF.upd_ne huG hdl2⟩⟩
    ·repeat' first|with_reducible intro _|refine sv ?_|refine ss ?_ ?_<;>(intro h;first|exact sz h|refine sy h ?_)|exact sq|fail
     rename_i hx2 MG huG e17 aG
     have hGo:∀ i,i ≠ l2->MG.get i=MF.get i:=fun i hi=>z03 huG hi
     exact⟨hkM.upd huG (.inl (.inl (.inr rfl))),TF,fun i hi=>by have:=hTF' i hi;rw[e17];exact this,.inr ⟨rfl,hk0F.upd huG (.inr hl2F),fun i hi=>by have:=hTFl i hi;have:=(hTF' i hi).2;omega,tk.stabD _ _ _ hDF (by omega) (fun i hi=>hGo i (by
      rcases hi with hi|hi
      ·omega
      ·exact(hTFl i hi).2)),aG,hdF.upd_ne huG hdl2⟩⟩
  ·rintro i (rfl|rfl|rfl) (hi|hi)
   ·have:=hAlt _ hi;omega
   ·omega
   ·have:=hAlt _ hi;omega
   ·omega
   ·rcases hAm _ hi with h|h|h
    ·exact absurd h hpl.ch.ne
    ·exact absurd h hpl.nc
    ·have:=hpl.ch.cells.2;omega
   ·omega
  ·rintro v M7 ⟨hk7,_,T7,hT7,⟨h1,h2,h3,h4,h5,h6,h7⟩|⟨h1,h2,h3,h4,h5⟩⟩
   ·refine z40 h6 (by simp) fun M8 hu8 e11 a8=>?_
    have hle8:=hu8.next
    repeat' first|with_reducible intro _|refine sv ?_|refine ss ?_ ?_<;>(intro h;first|exact sz h|refine sy h ?_)|exact sq|fail
    refine z0m (.inl rfl) (by simp) (fun d' hd'=>by obtain rfl:=List.mem_singleton.1 hd';exact xm) fun M9 hm=>?_
    have hk9:Keep (fun i=>i=l2 ∨ i=d) M7 M9:=((Keep.refl _ M7).upd hu8 (.inl (.inl rfl))).unmark hm (fun d' hd'=>by obtain rfl:=List.mem_singleton.1 hd';exact .inl (.inr rfl))
    refine⟨_,.nil,(h1.trans hk9 (fun i hi=>.inr (by omega))).weaken (fun i hi=>.inl hi),trivial,T7,fun i hi=>⟨(h2 i hi).1,by have:=(h2 i hi).2;have:=hk9.le;omega⟩,.inl ?_⟩
    rw[hitems]
    exact tk.stab _ _ _ _ h3 hk9.le (fun i hi=>hk9.old i (by
     rcases hi with hi|hi
     ·have:=h1.le;omega
     ·exact(h2 i hi).2) (by
     rcases hi with hi|hi
     ·omega
     ·have:=(hT7 i hi).1;omega))
   ·refine z35 h4 (by simp) fun M8 hu8 e11 a8=>?_
    repeat' first|with_reducible intro _|refine sv ?_|refine ss ?_ ?_<;>(intro h;first|exact sz h|refine sy h ?_)|exact sq|fail
    refine z0m (.inr rfl) (by simp) (fun d' hd'=>by obtain rfl:=List.mem_singleton.1 hd';exact xm) fun M9 hm=>?_
    have hk9:Keep (fun i=>i=l2 ∨ i=d) M7 M9:=((Keep.refl _ M7).upd hu8 (.inl (.inl rfl))).unmark hm (fun d' hd'=>by obtain rfl:=List.mem_singleton.1 hd';exact .inl (.inr rfl))
    refine⟨_,.nil,(h1.trans hk9 (fun i hi=>.inr (by omega))).weaken (fun i hi=>.inl hi),trivial,T7,fun i hi=>⟨(h2 i hi).1,by have:=(h2 i hi).2;have:=hk9.le;omega⟩,.inr ?_⟩
    exact tk.stabD _ _ _ h3 hk9.le (fun i hi=>hk9.old i (by
     rcases hi with hi|hi
     ·have:=h1.le;omega
     ·exact(h2 i hi).2) (by
     rcases hi with hi|hi
     ·omega
     ·have:=(hT7 i hi).1;omega))
theorem zr8{s:Cr}(hs:CrOk s){tab:List Int}{set c:Nat}(htb:∀ v ∈ tab,-1<=v /\ v<=5000000){x:Rch}(hx:x ∈ befL s tab set c):PoseOk x.1 /\ 0<=x.2 /\ x.2<=5000000:=by
 unfold befL at hx
 split at hx
 ·obtain rfl:=List.mem_singleton.1 hx
  exact⟨hs.start,Int.le_refl 0,show(0:Int)<=5000000 by decide⟩
 ·obtain⟨y,hy,h⟩:=List.mem_filterMap.1 hx
  have hy2:=List.mem_range.1 hy
  split at h
  ·rename_i hne
   cases h
   refine⟨ze6 hs (z3o hy2),?_⟩
   show 0<=tab.getD _ 0 /\ tab.getD _ 0<=5000000
   rcases Nat.lt_or_ge (plN s (restN set (c / 2)) y) tab.length with h1|h1
   ·rw[z00 h1] at hne ⊢
    have:=htb _ (List.getElem_mem h1)
    omega
   ·rw[List.getD_eq_getElem?_getD,List.getElem?_eq_none h1] at *
    exact⟨by decide,by decide⟩
  ·cases h
abbrev befG(ne nx nq nt:Nat):LV:=.func (.func 207) [] [.ptr (some (ne,0)),.ptr (some (nx,0)),.ptr (some (nq,0)),.ptr (some (nt,0))]
theorem zin{pc pk set c:Nat}{aT:Option (Nat × Nat)}{n:Nat}{fT:Bool}(M:Mem):ze Tryz.prog 163 [planv pc pk,.slice aT n fT 1,I set,shC c] M (fun v M'=>∃ ne nx nq nt,v=befG ne nx nq nt /\ Grow M M' /\ (M.next<=ne /\ M.next<=nx /\ M.next<=nq /\ M.next<=nt) /\ At M' nq (.cells true [.ptr (some (pc,0)),.map (some pk)] 130) /\ At M' ne (.cells true [I set] 3) /\
  At M' nx (.cells true [I (c / 2:Nat),I (c % 2:Nat)] 47) /\ At M' nt (.cells true [.slice aT n fT 1] 63)):=by
 refine zf k163 rfl ?_
 delta x163;refine un ?_
 repeat' first|with_reducible intro _|refine sv ?_|refine ss ?_ ?_<;>(intro h;first|exact sz h|refine sy h ?_)|exact sq|fail
 refine kf ?_
 exact⟨_,_,_,_,rfl,xg,⟨by omega,by omega,by omega,by omega⟩,xm,xm,xm,xm⟩
set_option maxHeartbeats 8000000 in
theorem zia{MB M0:Mem}{A:CrA}{s:Cr}{pc pm pk nq ne nx nt set c:Nat}{aT:Option (Nat × Nat)}{fT:Bool}{tab:List Int}(hpl:PlM MB A s pc pm pk)(htab:SlA 1 intz MB aT tab)(hK:Keep (fun i=>i=pm ∨ i=pk) MB M0)(hkn:KnM M0 s pm)(hkc:KcM M0 s pk)
  (hq0:At M0 nq (.cells true [.ptr (some (pc,0)),.map (some pk)] 130)) (he0:At M0 ne (.cells true [I set] 3)) (hx0:At M0 nx (.cells true [I (c / 2:Nat),I (c % 2:Nat)] 47)) (ht0:At M0 nt (.cells true [.slice aT tab.length fT 1] 63))
  (hs:CrOk s) (hc:c < 2*s.lines.length) (hset:set < 2 ^ s.lines.length) (htl:tab.length=2*s.lines.length*2 ^ s.lines.length) (htb:∀ v ∈ tab,-1<=v /\ v<=5000000) :
  YieldsS Tryz.prog 162 [] [.ptr (some (nq,0)),.ptr (some (nt,0)),.ptr (some (ne,0)),.ptr (some (nx,0))] (fun i=>i < MB.next ∨ i=nq ∨ i=nt ∨ i=ne ∨ i=nx) (fun i=>i=pm ∨ i=pk) (fun M'=>KnM M' s pm /\ KcM M' s pk) (earL s tab set c) (PlainR4 I) M0:=by
 intro l AA II DD tk hS hI0
 have l1:=hq0.2
 have l2':=he0.2
 have l3:=hx0.2
 have l4:=ht0.2
 have hAlt:=tk.lt
 have hleK:=hK.le
 have hpm0:=hpl.ch.known.lt
 have hpk0:=hpl.kc.lt
 have hpm1:=hkn.lt
 have hpk1:=hkc.lt
 have hAge:∀ i,AA i->MB.next<=i:=fun i hi=>by
  rcases Nat.lt_or_ge i MB.next with h|h
  ·exact absurd hi (hS i (.inl h))
  ·exact h
 have hqm:=hkn.ne_at hq0
 have hqk:=hkc.ne_at hq0
 have hxm:=hkn.ne_at hx0
 have hxk:=hkc.ne_at hx0
 refine zf k162 rfl ?_
 dsimp only[x162,zM,zO,zI,zF,zS,zB,zL,zA,zE,zN,zW,zC,zH,zK,zX,zQ,zJ,zP,zY2,zY3,zY4,zY8,zT,zR,zU,zV,zG,List.map_cons,List.map_nil,zipE,Nat.reduceAdd,List.nil_append,List.cons_append]
 repeat' first|with_reducible intro _|refine sv ?_|refine ss ?_ ?_<;>(intro h;first|exact sz h|refine sy h ?_)|exact sq|fail
 rename_i ny M1 hny e1 e2
 refine zz (by exact gd) rfl rfl (show AppOk Tryz.prog _ _ M1 _ from zin (pc:=pc) (pk:=pk) (set:=set) (c:=c) (aT:=aT) (n:=tab.length) (fT:=fT) M1) ?_
 rintro w M4 ⟨ne2,nx2,nq2,nt2,rfl,hg4,⟨g1,g2,g3,g4⟩,aq,ae,ax,at4⟩
 have hle4:=hg4.le
 have q1:=aq.2
 have q2:=ae.2
 have q3:=ax.2
 have q4:=at4.2
 repeat' first|with_reducible intro _|refine sv ?_|refine ss ?_ ?_<;>(intro h;first|exact sz h|refine sy h ?_)|exact sq|fail
 apply z4w
 exact rfl
 intro lb d l2 M5 M6 hlb hd e7 e8 hl e9 e10
 have hg46:Grow M4 M6:=hd.grow.trans hl.grow
 have hg06:Grow M0 M6:=(hny.grow.trans hg4).trans hg46
 have hle06:=hg06.le
 have hy:=zns (M0:=M6) hpl htab (hK.grow hg06) (aq.grow hg46) (ae.grow hg46) (ax.grow hg46) (at4.grow hg46) hs hc hset htl htb
 have by6:At M6 ny (.cells true [.func (.yield l) [] []] 180):=At.grow hg46 (At.grow hg4 (At.new_same hny))
 have bd6:At M6 d .defr:=At.new_old hl (At.new_same hd)
 have hII6:II [] (fun _=>False) M6:=tk.stab _ _ _ _ hI0 hle06 fun i hi=>hg06.old i (by rcases hi with hi|hi;omega;exact hi.elim)
 have hear:earL s tab set c=(befL s tab set c).filterMap fun x=>(goF s x c).map (·.2):=rfl
 refine(hy l2 (fun i=>AA i ∨ i=pm ∨ i=pk ∨ i=l2) (fun dn T M=>Keep (fun i=>AA i ∨ i=pm ∨ i=pk) M0 M /\ KnM M s pm /\ KcM M s pk /\ (∀ i,T i->M0.next<=i /\ i < M.next) /\ II (dn.filterMap fun x=>(goF s x c).map (·.2)) T M /\ At M ny (.cells true [.func (.yield l) [] []] 180) /\ At M l2 (lb .ready none) /\ At M d .defr)
  (fun T M=>Keep (fun i=>AA i ∨ i=pm ∨ i=pk) M0 M /\ KnM M s pm /\ KcM M s pk /\ (∀ i,T i->M0.next<=i /\ i < M.next) /\ DD T M /\ At M l2 (lb .done (some .ret)) /\ At M d .defr) ⟨?_,?_,?_,?_⟩ ?_ ⟨hg06.to_keep _,hkn.at hg06.le (hg06.old _ hkn.lt),hkc.at hg06.le (hg06.old _ hkc.lt),fun _ h=>h.elim,hII6,by6,At.new_same hl,bd6⟩).mono ?_
 ·rintro i (hi|rfl|rfl|rfl)
  ·have:=hAlt i hi;omega
  ·omega
  ·omega
  ·omega
 ·rintro dn T M M' ⟨h1,k1,k2,h2,h3,h4,h6,h7⟩ hle hg
  have hgo:∀ i,i < M6.next->M'.get i=M.get i:=fun i hi=>hg i (.inl ⟨hi,id⟩)
  exact⟨⟨Nat.le_trans h1.le hle,fun i hi hf=>by rw[hgo i (by omega)];exact h1.old i hi hf⟩,k1.at hle (hgo _ (by omega)),k2.at hle (hgo _ (by omega)),fun i hi=>by have:=h2 i hi;omega,tk.stab _ _ _ _ h3 hle (fun i hi=>by
   rcases hi with hi|hi
   ·exact hgo i (by omega)
   ·exact hg i (.inr hi)),h4.same hle (hgo _ by6.2),h6.same hle (hgo _ (by omega)),h7.same hle (hgo _ bd6.2)⟩
 ·rintro T M M' ⟨h1,k1,k2,h2,h3,h4,h5⟩ hle hg
  have hgo:∀ i,i < M6.next->M'.get i=M.get i:=fun i hi=>hg i (.inl ⟨hi,id⟩)
  exact⟨⟨Nat.le_trans h1.le hle,fun i hi hf=>by rw[hgo i (by omega)];exact h1.old i hi hf⟩,k1.at hle (hgo _ (by omega)),k2.at hle (hgo _ (by omega)),fun i hi=>by have:=h2 i hi;omega,tk.stabD _ _ _ h3 hle (fun i hi=>by
   rcases hi with hi|hi
   ·exact hgo i (by omega)
   ·exact hg i (.inr hi)),h4.same hle (hgo _ (by omega)),h5.same hle (hgo _ bd6.2)⟩
 ·rintro dn x rest v U T M hits ⟨rfl,hU⟩ hN hT hUd ⟨h1,k1,k2,h2,h3,h4,h6,h7⟩
  have hle1:=h1.le
  have hKB:Keep (fun i=>i=pm ∨ i=pk) MB M:=hK.trans h1 (fun i hi=>by
   rcases hi with h|h|h
   ·exact .inr (hAge i h)
   ·exact .inl (.inl h)
   ·exact .inl (.inr h))
  have hxok:=zr8 hs htb (x:=x) (by rw[hits];simp)
  have hq1:=hq0.keep h1 (by
   rintro(h|h|h)
   ·exact hS _ (.inr (.inl rfl)) h
   ·exact hqm h
   ·exact hqk h)
  have hx1:=hx0.keep h1 (by
   rintro(h|h|h)
   ·exact hS _ (.inr (.inr (.inr (.inr rfl)))) h
   ·exact hxm h
   ·exact hxk h)
  have hlq:=hq1.2
  have hlx:=hx1.2
  have hl2M:=h6.2
  have hdM:=h7.2
  have hkm:=k1.lt
  have hkk:=k2.lt
  have hfm:(dn ++ [x]).filterMap (fun x=>(goF s x c).map (·.2))=dn.filterMap (fun x=>(goF s x c).map (·.2)) ++((goF s x c).map (·.2)).toList:=by
   rw[List.filterMap_append]
   congr 1
  have hpl':∀ M',Keep (fun i=>i=l2) M M'->PlM M' A s pc pm pk:=fun M' hk'=>hpl.keepm (hKB.trans hk' (fun i hi=>.inr (by omega))) (k1.at hk'.le (hk'.old _ hkm (by omega))) (k2.at hk'.le (hk'.old _ hkk (by omega)))
  rw[hfm]
  refine z1s hlb h6 rfl ?_
  dsimp only[zipP]
  repeat' first|with_reducible intro _|refine sv ?_|refine ss ?_ ?_<;>(intro h;first|exact sz h|refine sy h ?_)|exact sq|fail
  rename_i n6 MA hnA e11 e12 MX huX e13 aX MC huC e14 aC
  have hkC:Keep (fun i=>i=l2) M MC:=xk
  have hleC:=hkC.le
  have ax6:At MC n6 (.cells true (rchc x) 142):=xm
  refine zz (by exact gd) rfl rfl (show AppOk Tryz.prog _ _ MC _ from zfo (hpl' MC hkC) hs hxok.1 hxok.2 hc) ?_
  rintro w MG ⟨rfl,hkG,hknG,hkcG⟩
  have hleG:=hkG.le
  have hnyG:=(h4.keep hkC (by omega)).keep hkG (by omega)
  have hl2G:=aC.keep hkG (by omega)
  have hdG:=(h7.keep hkC (by omega)).keep hkG (by omega)
  have hkMG:Keep (fun i=>i=l2 ∨ i=pm ∨ i=pk) M MG:=(hkC.weaken (fun i hi=>.inl hi)).trans hkG (fun i hi=>.inl (.inr hi))
  have hkmG:=hknG.lt
  have hkkG:=hkcG.lt
  have hny0:ny ≠ l2:=by omega
  have hd0:d ≠ l2:=by omega
  have hl20:M0.next<=l2:=by omega
  have hsameT:∀ M',Keep (fun i=>i=l2 ∨ i=pm ∨ i=pk) M M'->II (dn.filterMap fun x=>(goF s x c).map (·.2)) T M':=fun M' hk'=>tk.stab _ _ _ _ h3 hk'.le (fun i hi=>hk'.old i (by
   rcases hi with hi|hi
   ·omega
   ·exact(hT i hi).2) (by
   rcases hi with hi|hi
   ·rintro(h|h|h)
    ·omega
    ·exact hi.2 (.inl h)
    ·exact hi.2 (.inr h)
   ·have:=(hT i hi).1;omega))
  cases hgf:goF s x c with
  | none =>
   repeat' first|with_reducible intro _|refine sv ?_|refine ss ?_ ?_<;>(intro h;first|exact sz h|refine sy h ?_)|exact sq|fail
   rename_i n7 MH hnH e15 e16 MI huI e17 aI MJ huJ e18 aJ
   have hkJ:Keep (fun i=>i=l2 ∨ i=pm ∨ i=pk) M MJ:=((hkMG.new hnH).upd huI (.inr (by omega))).upd huJ (.inl (.inl rfl))
   exact⟨hkJ.weaken (fun i hi=>by rcases hi with h|h|h;exact .inl (.inr (.inr (.inr h)));exact .inl (.inr (.inl h));exact .inl (.inr (.inr (.inl h)))),T,fun i hi=>⟨.inl hi,by have:=hT i hi;have:=hkJ.le;omega⟩,.inl ⟨rfl,h1.trans hkJ (fun i hi=>by rcases hi with h|h|h;exact .inr (by omega);exact .inl (.inr (.inl h));exact .inl (.inr (.inr h))),
    hknG.at (by omega) (by rw[z03 huJ (by omega),z03 huI (by omega)];exact hnH.grow.old _ hkmG),hkcG.at (by omega) (by rw[z03 huJ (by omega),z03 huI (by omega)];exact hnH.grow.old _ hkkG),fun i hi=>by have:=h2 i hi;have:=hkJ.le;omega,by show II (_ ++ []) T MJ;rw[List.append_nil];exact hsameT MJ hkJ,xm,aJ,xm⟩⟩
  | some b =>
   repeat' first|with_reducible intro _|refine sv ?_|refine ss ?_ ?_<;>(intro h;first|exact sz h|refine sy h ?_)|exact sq|fail
   rename_i n7 MH hnH e15 e16 MI huI e17 aI
   have hkI:Keep (fun i=>i=l2 ∨ i=pm ∨ i=pk) M MI:=(hkMG.new hnH).upd huI (.inr (by omega))
   have hits2:earL s tab set c=(dn.filterMap fun x=>(goF s x c).map (·.2)) ++ b.2 ::(rest.filterMap fun x=>(goF s x c).map (·.2)):=by rw[hear,hits,List.filterMap_append,List.filterMap_cons,hgf];rfl
   have hst:=tk.step _ _ _ [I b.2] (fun _=>False) T MI hits2 ⟨rfl,fun _ h=>h⟩ (by omega) (fun i hi=>by have:=h2 i hi;omega) (fun _ h=>h.elim) (hsameT MI hkI)
   have hl2I:At MI l2 (lb .busy none):=xm
   have hnyI:At MI ny (.cells true [.func (.yield l) [] []] 180):=xm
   have hdI:At MI d .defr:=xm
   have hknI:KnM MI s pm:=hknG.at (by omega) (by rw[z03 huI (by omega)];exact hnH.grow.old _ hkmG)
   have hkcI:KcM MI s pk:=hkcG.at (by omega) (by rw[z03 huI (by omega)];exact hnH.grow.old _ hkkG)
   refine zz (by exact gd) rfl rfl (show AppOk Tryz.prog (.func (.yield l) [] []) _ MI _ from hst) ?_
   rintro w MF ⟨hkF,TF,hTF,hres⟩
   have hleF:=hkF.le
   have hout:∀ j,(j < MB.next ∨(M0.next<=j /\ j < M6.next))->¬(AA j ∨ T j ∨ False):=fun j hj h=>by
    rcases h with h|h|h
    ·have:=hAlt _ h;have:=hAge _ h;omega
    ·have:=(hT _ h).1;omega
    ·exact h
   have aF:=hl2I.keep hkF (hout _ (.inr ⟨by omega,by omega⟩))
   have hnyF:=hnyI.keep hkF (hout _ (.inr ⟨by omega,by omega⟩))
   have hdF:=hdI.keep hkF (hout _ (.inr ⟨by omega,by omega⟩))
   have hknF:KnM MF s pm:=hknI.at hleF (hkF.old _ (by omega) (hout _ (.inl hpm0)))
   have hkcF:KcM MF s pk:=hkcI.at hleF (hkF.old _ (by omega) (hout _ (.inl hpk0)))
   have hkMF:Keep (fun i=>(AA i ∨ i=pm ∨ i=pk ∨ i=l2) ∨ T i ∨ U i) M MF:=(hkI.weaken (fun i hi=>by rcases hi with h|h|h;exact .inl (.inr (.inr (.inr h)));exact .inl (.inr (.inl h));exact .inl (.inr (.inr (.inl h))))).trans hkF (fun i hi=>by
    rcases hi with hi|hi|hi
    ·exact .inl (.inl (.inl hi))
    ·exact .inl (.inr (.inl hi))
    ·exact hi.elim)
   have hk0F:Keep (fun i=>AA i ∨ i=pm ∨ i=pk) M0 MF:=(h1.trans hkI (fun i hi=>by rcases hi with h|h|h;exact .inr (by omega);exact .inl (.inr (.inl h));exact .inl (.inr (.inr h)))).trans hkF (fun i hi=>by
    rcases hi with hi|hi|hi
    ·exact .inl (.inl hi)
    ·exact .inr (h2 i hi).1
    ·exact hi.elim)
   have hTF':∀ i,TF i->(T i ∨ U i ∨ M.next<=i) /\ i < MF.next:=fun i hi=>by
    obtain⟨q1,q2⟩:=hTF i hi
    refine⟨?_,q2⟩
    rcases q1 with q1|q1|q1
    ·exact .inl q1
    ·exact q1.elim
    ·exact .inr (.inr (by omega))
   have hTFl:∀ i,TF i->M0.next<=i /\ i ≠ l2:=fun i hi=>by
    rcases(hTF i hi).1 with q1|q1|q1
    ·have:=hT i q1;have:=h2 i q1;omega
    ·exact q1.elim
    ·omega
   have hpml:pm ≠ l2:=by omega
   have hpkl:pk ≠ l2:=by omega
   rcases hres with⟨rfl,hIF⟩|⟨rfl,hDF⟩
   ·repeat' first|with_reducible intro _|refine sv ?_|refine ss ?_ ?_<;>(intro h;first|exact sz h|refine sy h ?_)|exact sq|fail
    rename_i MJ huJ e18 aJ
    have hGo:∀ i,i ≠ l2->MJ.get i=MF.get i:=fun i hi=>z03 huJ hi
    exact⟨hkMF.upd huJ (.inl (.inl (.inr (.inr (.inr rfl))))),TF,fun i hi=>by have:=hTF' i hi;rw[e18];exact this,.inl ⟨rfl,hk0F.upd huJ (.inr hl20),hknF.at (by omega) (hGo _ hpml),hkcF.at (by omega) (hGo _ hpkl),fun i hi=>by have:=hTFl i hi;have:=(hTF' i hi).2;omega,tk.stab _ _ _ _ hIF (by omega) (fun i hi=>hGo i (by
     rcases hi with hi|hi
     ·omega
     ·exact(hTFl i hi).2)),hnyF.upd_ne huJ hny0,aJ,hdF.upd_ne huJ hd0⟩⟩
   ·repeat' first|with_reducible intro _|refine sv ?_|refine ss ?_ ?_<;>(intro h;first|exact sz h|refine sy h ?_)|exact sq|fail
    rename_i MJ huJ e18 aJ
    have hGo:∀ i,i ≠ l2->MJ.get i=MF.get i:=fun i hi=>z03 huJ hi
    exact⟨hkMF.upd huJ (.inl (.inl (.inr (.inr (.inr rfl))))),TF,fun i hi=>by have:=hTF' i hi;rw[e18];exact this,.inr ⟨rfl,hk0F.upd huJ (.inr hl20),hknF.at (by omega) (hGo _ hpml),hkcF.at (by omega) (hGo _ hpkl),fun i hi=>by have:=hTFl i hi;have:=(hTF' i hi).2;omega,tk.stabD _ _ _ hDF (by omega) (fun i hi=>hGo i (by
     rcases hi with hi|hi
     ·omega
     ·exact(hTFl i hi).2)),aJ,hdF.upd_ne huJ hd0⟩⟩
 ·rintro i (rfl|rfl|⟨h1,h2,h3⟩) (hi|hi|hi|hi)
  all_goals first
   |(have:=hAlt _ hi;have:=hAge _ hi;omega)
   | omega
   | exact h2 hi
   | exact h3 hi
 ·rintro v M7 ⟨hk7,_,T7,hT7,⟨h1,k1,k2,h2,h3,h4,h6,h7⟩|⟨h1,k1,k2,h2,h3,h4,h5⟩⟩
  ·have hle1:=h1.le
   have hkm:=k1.lt
   have hkk:=k2.lt
   refine z40 h6 (by simp) fun M8 hu8 e11 a8=>?_
   repeat' first|with_reducible intro _|refine sv ?_|refine ss ?_ ?_<;>(intro h;first|exact sz h|refine sy h ?_)|exact sq|fail
   refine z0m (.inl rfl) (by simp) (fun d' hd'=>by obtain rfl:=List.mem_singleton.1 hd';exact xm) fun M9 hm=>?_
   have hk9:Keep (fun i=>i=l2 ∨ i=d) M7 M9:=((Keep.refl _ M7).upd hu8 (.inl (.inl rfl))).unmark hm (fun d' hd'=>by obtain rfl:=List.mem_singleton.1 hd';exact .inl (.inr rfl))
   refine⟨_,.nil,(h1.trans hk9 (fun i hi=>.inr (by omega))),⟨k1.at hk9.le (hk9.old _ hkm (by omega)),k2.at hk9.le (hk9.old _ hkk (by omega))⟩,T7,fun i hi=>⟨(h2 i hi).1,by have:=(h2 i hi).2;have:=hk9.le;omega⟩,.inl ?_⟩
   rw[hear]
   exact tk.stab _ _ _ _ h3 hk9.le (fun i hi=>hk9.old i (by
    rcases hi with hi|hi
    ·omega
    ·exact(h2 i hi).2) (by
    rcases hi with hi|hi
    ·omega
    ·have:=(hT7 i hi).1;omega))
  ·have hle1:=h1.le
   have hkm:=k1.lt
   have hkk:=k2.lt
   refine z35 h4 (by simp) fun M8 hu8 e11 a8=>?_
   repeat' first|with_reducible intro _|refine sv ?_|refine ss ?_ ?_<;>(intro h;first|exact sz h|refine sy h ?_)|exact sq|fail
   refine z0m (.inr rfl) (by simp) (fun d' hd'=>by obtain rfl:=List.mem_singleton.1 hd';exact xm) fun M9 hm=>?_
   have hk9:Keep (fun i=>i=l2 ∨ i=d) M7 M9:=((Keep.refl _ M7).upd hu8 (.inl (.inl rfl))).unmark hm (fun d' hd'=>by obtain rfl:=List.mem_singleton.1 hd';exact .inl (.inr rfl))
   refine⟨_,.nil,(h1.trans hk9 (fun i hi=>.inr (by omega))),⟨k1.at hk9.le (hk9.old _ hkm (by omega)),k2.at hk9.le (hk9.old _ hkk (by omega))⟩,T7,fun i hi=>⟨(h2 i hi).1,by have:=(h2 i hi).2;have:=hk9.le;omega⟩,.inr ?_⟩
   exact tk.stabD _ _ _ h3 hk9.le (fun i hi=>hk9.old i (by
    rcases hi with hi|hi
    ·omega
    ·exact(h2 i hi).2) (by
    rcases hi with hi|hi
    ·omega
    ·have:=(hT7 i hi).1;omega))
theorem YieldsS.weakS{α:Type}{gf:FuncId}{fi ca:List LV}{S S' Wr:Nat->Prop}{Fin:Mem->Prop}{items:List α}{R:α->List LV->(Nat->Prop)->Mem->Prop}{M0:Mem}(h:YieldsS Tryz.prog gf fi ca S Wr Fin items R M0)(hS:∀ i,S i->S' i):YieldsS Tryz.prog gf fi ca S' Wr Fin items R M0 :=
 fun l A I D tk hd h0=>h l A I D tk (fun i hi=>hd i (hS i hi)) h0
theorem zfr(a b:Int)(M:Mem):ze Tryz.prog 107 [I a,I b] M (fun w M'=>w=.bool (decide (a < b)) /\ M'=M):=by
 refine zf k107 rfl ?_
 delta x107;refine un ?_
 repeat' first|with_reducible intro _|refine sv ?_|refine ss ?_ ?_<;>(intro h;first|exact sz h|refine sy h ?_)|exact sq|fail
 refine kf ?_
 exact⟨rfl,rfl⟩
set_option maxHeartbeats 4000000 in
theorem zdv{gf:FuncId}{ca:List LV}{Wr:Nat->Prop}{Fin:Mem->Prop}{items:List Int}{M0:Mem}(hy:∀ M',Grow M0 M'->YieldsS Tryz.prog gf [] ca (fun i=>i < M0.next) Wr Fin items (PlainR4 I) M')(hWr:∀ i,Wr i->i < M0.next)
  (hFin:∀ M1 M2,Fin M1->M1.next<=M2.next->(∀ i,i < M0.next->M2.get i=M1.get i)->Fin M2) :
  ze Tryz.prog 105 [.func (.func gf) [] ca,.func (.func 107) [] []] M0 (fun v M'=>Keep Wr M0 M' /\ Fin M' /\ v=.tup [I ((minL items).getD 0),.bool (minL items).isSome]):=by
 refine zf k105 rfl ?_
 delta x105;refine un ?_
 repeat' first|with_reducible intro _|refine sv ?_|refine ss ?_ ?_<;>(intro h;first|exact sz h|refine sy h ?_)|exact sq|fail
 rename_i n3 M1 hn3 e1 e2 n4 M2 hn4 e3 e4 n5 M2b hn5 e3b e4b
 apply z4w
 exact rfl
 intro lb d l M3 M4 hlb hd e5 e6 hl e7 e8
 have a3:At M4 n3 (.cells true [.func (.func 107) [] []] 236):=xm
 have a4:At M4 n4 (.cells true [I 0] 3):=xm
 have a5:At M4 n5 (.cells true [.bool false] 4):=xm
 have ad:At M4 d .defr:=At.new_old hl (At.new_same hd)
 have hg4:Grow M0 M4:=xg
 refine(hy M4 hg4 l (fun i=>M0.next<=i /\ i < M4.next) (fun dn T M=>At M n3 (.cells true [.func (.func 107) [] []] 236) /\ At M n4 (.cells true [I ((minL dn).getD 0)] 3) /\ At M n5 (.cells true [.bool (minL dn).isSome] 4) /\
   At M l (lb .ready none) /\ At M d .defr) (fun _ _=>False) ⟨fun i hi=>hi.2,?_,fun T M M' h=>h.elim,?_⟩ (fun i h1 h2=>by omega) ⟨a3,a4,a5,At.new_same hl,ad⟩).mono ?_
 ·rintro dn T M M' ⟨h3,h4,h5,h6,h7⟩ hle hg
  have hg2:∀ i,M0.next<=i->i < M4.next->M'.get i=M.get i:=fun i h1 h2=>hg i (.inl ⟨h2,fun hw=>by have:=hWr i hw;omega⟩)
  exact⟨h3.same hle (hg2 _ (by omega) (by omega)),h4.same hle (hg2 _ (by omega) (by omega)),h5.same hle (hg2 _ (by omega) (by omega)),h6.same hle (hg2 _ (by omega) (by omega)),h7.same hle (hg2 _ (by omega) (by omega))⟩
 ·rintro dn x rest v U T M hits ⟨rfl,hU⟩ hN hT hUd ⟨h3,h4,h5,h6,h7⟩
  have hfold:minL (dn ++ [x])=minS (minL dn) x:=by unfold minL;rw[List.foldl_append];rfl
  have hfin:∀ {M':Mem} (o':Option Int) (c':Int),Keep (fun i=>M0.next<=i /\ i < M4.next) M M'->At M' n3 (.cells true [.func (.func 107) [] []] 236)->At M' n4 (.cells true [I c'] 3)->At M' n5 (.cells true [.bool true] 4) ->
    At M' l (lb .ready none)->At M' d .defr->minS (minL dn) x=o'->o'=some c'->Keep (fun i=>(M0.next<=i /\ i < M4.next) ∨ T i ∨ U i) M M' /\ ∃ T':Nat->Prop,(∀ i,T' i->(T i ∨ U i ∨ M.next<=i) /\ i < M'.next) /\ ((LV.bool true=.bool true /\ At M' n3 (.cells true [.func (.func 107) [] []] 236) /\ At M' n4 (.cells true [I ((minL (dn ++ [x])).getD 0)] 3) /\ At M' n5 (.cells true [.bool (minL (dn ++ [x])).isSome] 4) /\ At M' l (lb .ready none) /\ At M' d .defr) ∨(LV.bool true=.bool false /\ False)):=by
   intro M' o' c' hk q3 q4 q5 q6 q7 ho hc
   subst hc
   exact⟨hk.weaken (fun i hi=>.inl hi),fun _=>False,fun i hi=>hi.elim,.inl ⟨rfl,q3,by rw[hfold,ho];exact q4,by rw[hfold,ho];exact q5,q6,q7⟩⟩
  refine z1s hlb h6 rfl ?_
  dsimp only[zipP]
  cases hfo:minL dn with
  | none =>
   rw[hfo] at h4 h5 hfin
   repeat' first|with_reducible intro _|refine sv ?_|refine ss ?_ ?_<;>(intro h;first|exact sz h|refine sy h ?_)|exact sq|fail
   exact hfin (some x) x (xk) (xm) (xm) (xm) (xm) (xm) rfl rfl
  | some y =>
   rw[hfo] at h4 h5 hfin
   have h4:At M n4 (.cells true [I y] 3):=h4
   have h5:At M n5 (.cells true [.bool true] 4):=h5
   by_cases hxy:x < y
   ·repeat' first|with_reducible intro _|refine sv ?_|((with_reducible first|apply zu|apply zt|apply zn);exact gd;exact rfl;exact rfl;(first|exact zfr _ _ _))|refine ss ?_ ?_<;>(intro h;first|exact sz h|refine sy h ?_)|exact sq|fail
    all_goals try(exfalso;omega)
    exact hfin (some x) x (xk) (xm) (xm) (xm) (xm) (xm) (by show(if x < y then some x else some y)=_;rw[if_pos hxy]) rfl
   ·repeat' first|with_reducible intro _|refine sv ?_|((with_reducible first|apply zu|apply zt|apply zn);exact gd;exact rfl;exact rfl;(first|exact zfr _ _ _))|refine ss ?_ ?_<;>(intro h;first|exact sz h|refine sy h ?_)|exact sq|fail
    all_goals try(exfalso;omega)
    exact hfin (some y) y (xk) (xm) (xm) (xm) (xm) (xm) (by show(if x < y then some x else some y)=_;rw[if_neg hxy]) rfl
 ·rintro v M5 ⟨hk5,hf5,T5,hT5,⟨h3,h4,h5,h6,h7⟩|h⟩
  rotate_left
  ·exact h.elim
  have hle5:=hk5.le
  have hk05:Keep Wr M0 M5:=(hg4.to_keep Wr).trans hk5 (fun i hi=>hi.elim (fun h=>.inr h.1) .inl)
  have hle4:=hg4.le
  refine z40 h6 (by simp) fun M6 hu e9 a9=>?_
  have hendd:∀ {M9 M8 M7:Mem} (lb7 lb8:LB),Upd M6 n4 lb7 M7->Upd M7 n5 lb8 M8->Unmark [d] M8 M9->Keep Wr M0 M9 /\ Fin M9:=by
   intro M9 M8 M7 lb7 lb8 hu7 hu8 hm
   have hkk:Keep (fun i=>M0.next<=i /\ i < M4.next) M5 M9:=((((Keep.refl _ M5).upd hu (.inl ⟨by omega,by omega⟩)).upd hu7 (.inl ⟨by omega,by omega⟩)).upd hu8 (.inl ⟨by omega,by omega⟩)).unmark hm (fun d' hd'=>by obtain rfl:=List.mem_singleton.1 hd';exact .inl ⟨by omega,by omega⟩)
   exact⟨hk05.trans hkk (fun i hi=>.inr hi.1),hFin M5 M9 hf5 hkk.le (fun i hi=>hkk.old i (by omega) (by omega))⟩
  repeat' first|with_reducible intro _|refine sv ?_|refine ss ?_ ?_<;>(intro h;first|exact sz h|refine sy h ?_)|exact sq|fail
  refine z0m (.inr rfl) (by simp) (fun d' hd'=>by obtain rfl:=List.mem_singleton.1 hd';exact xm) fun M9 hm=>?_
  rename_i M7 hu7 e10 a7 M8 hu8 e11 a8
  obtain⟨q1,q2⟩:=hendd _ _ hu7 hu8 hm
  have b4:At M8 n4 (.cells true [I ((minL items).getD 0)] 3):=xm
  refine⟨_,.cell1 rfl (Rd1.of_at (b4.unmark hm (by simp;omega)) rfl).1 (.cell1 rfl (Rd1.of_at (a8.unmark hm (by simp;omega)) rfl).1 .nil),q1,q2,rfl⟩
theorem zf1:∀ l:List LV,z16 l 0 []=some l
 | []=>rfl
 | x :: l=>rfl
theorem z5b:∀(t:List Int) (k:Nat) (v:Int),k < t.length->z16 (t.flatMap intz) k [I v]=some ((t.set k v).flatMap intz)
 | [],k,v,h=>absurd h (Nat.not_lt_zero _)
 | x :: t,0,v,_=>by
  show ob (z16 (t.flatMap intz) 0 []) (fun l=>some (I v :: l))=_
  rw[zf1];rfl
 | x :: t,k+1,v,h=>by
  show ob (z16 (t.flatMap intz) k [I v]) (fun l=>some (I x :: l))=_
  rw[z5b t k v (by simpa using h)];rfl
theorem zkh:∀ n:Nat,rep n [I 0]=(List.replicate n (0:Int)).flatMap intz
 | 0=>rfl
 | n+1=>by
  show [I 0] ++ rep n [I 0]=_
  rw[zkh n];rfl
theorem zqa(n:Nat):shlZ (2*(n:Int)) (n:Int)=((2*n*2 ^ n:Nat):Int):=by
 unfold shlZ
 rw[Int.natCast_mul];rfl
theorem zt3{M:Mem}{i:Nat}{own:Bool}{t:List Int}{ty:TypeId}(ha:At M i (.cells own (t.flatMap intz) ty)):SlA 1 intz M (some (i,0)) t:=.inr ⟨i,0,rfl,fun k hk=>z3k (enc:=intz) ha (fun _ _=>rfl) hk⟩
abbrev earF(nq nt ne nx:Nat):LV:=.func (.func 162) [] [.ptr (some (nq,0)),.ptr (some (nt,0)),.ptr (some (ne,0)),.ptr (some (nx,0))]
theorem zgy{pc pk set c:Nat}{aT:Option (Nat × Nat)}{n:Nat}{fT:Bool}(M:Mem):ze Tryz.prog 106 [planv pc pk,.slice aT n fT 1,I set,shC c] M (fun v M'=>∃ nq nt ne nx,v=earF nq nt ne nx /\ Grow M M' /\ At M' nq (.cells true [.ptr (some (pc,0)),.map (some pk)] 130) /\ At M' ne (.cells true [I set] 3) /\
  At M' nx (.cells true [I (c / 2:Nat),I (c % 2:Nat)] 47) /\ At M' nt (.cells true [.slice aT n fT 1] 63)):=by
 refine zf k106 rfl ?_
 delta x106;refine un ?_
 repeat' first|with_reducible intro _|refine sv ?_|refine ss ?_ ?_<;>(intro h;first|exact sz h|refine sy h ?_)|exact sq|fail
 refine kf ?_
 exact⟨_,_,_,_,rfl,xg,xm,xm,xm,xm⟩
theorem zp3{A:CrA}{s:Cr}{pc pm pk set c:Nat}{aT:Option (Nat × Nat)}{fT:Bool}{tab:List Int}{M:Mem}(hpl:PlM M A s pc pm pk)(htab:SlA 1 intz M aT tab)(hs:CrOk s)(hc:c < 2*s.lines.length)(hset:set < 2 ^ s.lines.length)(htl:tab.length=2*s.lines.length*2 ^ s.lines.length)(htb:∀ v ∈ tab,-1<=v /\ v<=5000000)
  {nq nt ne nx:Nat} (hq:At M nq (.cells true [.ptr (some (pc,0)),.map (some pk)] 130)) (he:At M ne (.cells true [I set] 3)) (hx:At M nx (.cells true [I (c / 2:Nat),I (c % 2:Nat)] 47)) (ht:At M nt (.cells true [.slice aT tab.length fT 1] 63)) :
  ze Tryz.prog 105 [earF nq nt ne nx,.func (.func 107) [] []] M (fun v M'=>Keep (fun i=>i=pm ∨ i=pk) M M' /\ (KnM M' s pm /\ KcM M' s pk) /\ v=.tup [I ((minL (earL s tab set c)).getD 0),.bool (minL (earL s tab set c)).isSome]):=by
 have h1:=hpl.ch.known.lt
 have h2:=hpl.kc.lt
 refine zdv (gf:=162) (ca:=[.ptr (some (nq,0)),.ptr (some (nt,0)),.ptr (some (ne,0)),.ptr (some (nx,0))]) (items:=earL s tab set c) (Wr:=fun i=>i=pm ∨ i=pk) (Fin:=fun M'=>KnM M' s pm /\ KcM M' s pk) (fun M' hg=>?_) (fun i hi=>by rcases hi with rfl|rfl<;>assumption) (fun M1 M2 hf hle h=>⟨hf.1.at hle (h _ h1),hf.2.at hle (h _ h2)⟩)
 refine YieldsS.weakS (zia hpl htab (hg.to_keep _) (hpl.ch.known.at hg.le (hg.old _ h1)) (hpl.kc.at hg.le (hg.old _ h2)) (hq.grow hg) (he.grow hg) (hx.grow hg) (ht.grow hg) hs hc hset htl htb) ?_
 rintro i (hi|rfl|rfl|rfl|rfl)
 ·exact hi
 ·exact hq.2
 ·exact ht.2
 ·exact he.2
 ·exact hx.2
