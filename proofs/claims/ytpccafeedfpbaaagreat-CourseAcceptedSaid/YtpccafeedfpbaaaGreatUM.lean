/-
 Part of the proof of CourseAccepted: what functions of the program and of the statement come to,walked by the rules. No condition beyond those in each theorem.
-/
import Derived.Test.YtpccafeedfpbaaaGreatUL
import Derived.Test.YtpccafeedfpbaaaGreatUK
import Derived.Test.YtpccafeedfpbaaaGreatUJ
section
open Go PvL Go.Proofs
set_option linter.unusedSimpArgs false
set_option linter.unusedVariables false
namespace Go.Proofs.YtpccafeedfpbaaaGreat.C
theorem zfr {s:Cr} {l:List (Int × Int)}:(TimesF s l).1.length<=1000000:=by
 unfold TimesF
 split
 next hs =>
  split
  next hl =>
   have h5:=zhz hs hl
   split
   next r hr=>have:=zbp _ _ _ hr;rw [List.length_map] at this;show r.length<=_;omega
   ·exact Nat.zero_le _
  ·exact Nat.zero_le _
 ·exact Nat.zero_le _
theorem zp8 {lo:Nat} {ty:TypeId} {M:Mem} {sl:LV} {l:List Bd} (h:Vec lo 2 ty bdc M sl l):∃ ax fx ex,sl=.slice ax l.length fx ex /\ SlA 2 bdc M ax l:=by
 rcases h with ⟨h1,h2⟩|⟨i,h1,h2,_⟩
 ·exact ⟨none,true,0,by rw [h1];exact h2,.inl h1⟩
 ·exact ⟨some (i,0),_,_,h1,.inr ⟨i,0,rfl,fun k hk=>zo h2 (fun _ _=>rfl) hk⟩⟩
noncomputable def srcF (s:Cr) (t:List Int) (set c fr:Nat):Int:=if fr < 2*s.lines.length then (if restN set (c / 2)=0 then -1 else t.getD (plN s (restN set (c / 2)) fr) 0) else (if restN set (c / 2)=0 then 0 else -1)
noncomputable def conF (s:Cr) (t:List Int) (set c fr:Nat):Option Int:=if srcF s t set c fr < 0 then none else (goF s (posR s fr,srcF s t set c fr) c).map (·.2)
noncomputable def conL (s:Cr) (t:List Int) (set c m:Nat):List Int:=(List.range m).filterMap (conF s t set c)
theorem zaj {s:Cr} {t:List Int} {set c m:Nat}:conL s t set c (m+1)=conL s t set c m ++ (conF s t set c m).toList:=by
 unfold conL
 rw [List.range_succ,List.filterMap_append]
 cases h:conF s t set c m<;>simp [h]
theorem zh9 {α β:Type} {f:α->Option β}:∀ {l:List α},(∀ x ∈ l,f x=none)->l.filterMap f=[]
 | [],_=>rfl
 | x :: l,h=>by rw [List.filterMap_cons,h x (List.mem_cons_self ..)];exact zh9 fun y hy=>h y (List.mem_cons_of_mem _ hy)
theorem zml {s:Cr} {t:List Int} {set c:Nat} (hb:∀ fr,fr < 2*s.lines.length->restN set (c / 2) ≠ 0->-1<=t.getD (plN s (restN set (c / 2)) fr) 0):conL s t set c (2*s.lines.length+1)=earL s t set c:=by
 rw [zaj]
 unfold earL befL
 by_cases h0:restN set (c / 2)=0
 ·have h1:conL s t set c (2*s.lines.length)=[]:=zh9 fun fr hfr=>by
   have:=List.mem_range.1 hfr
   unfold conF srcF
   rw [if_pos this,if_pos h0,if_pos (by decide)]
  have h2:conF s t set c (2*s.lines.length)=(goF s (startR s) c).map (·.2):=by
   unfold conF srcF
   rw [if_neg (Nat.lt_irrefl _),if_pos h0,if_neg (by decide)]
   rw [show posR s (2*s.lines.length)=s.start by unfold posR;rw [if_neg (Nat.lt_irrefl _)]]
   rfl
  rw [h1,h2,if_pos h0,List.filterMap_cons]
  cases (goF s (startR s) c).map (·.2)<;>rfl
 ·have h2:conF s t set c (2*s.lines.length)=none:=by
   unfold conF srcF
   rw [if_neg (Nat.lt_irrefl _),if_neg h0,if_pos (by decide)]
  rw [h2,if_neg h0,List.filterMap_filterMap]
  show conL s t set c (2*s.lines.length) ++ []=_
  rw [List.append_nil]
  refine z9f fun fr hfr=>?_
  have hlt:=List.mem_range.1 hfr
  have hv:=hb fr hlt h0
  unfold conF srcF
  rw [if_pos hlt,if_neg h0]
  generalize t.getD (plN s (restN set (c / 2)) fr) 0=v at *
  by_cases hn:v < 0
  ·rw [if_pos hn,if_neg (by omega)];rfl
  ·rw [if_neg hn,if_pos (by omega)]
   unfold rchF posR
   rw [if_pos hlt]
   rfl
noncomputable def lsF (l:List Int):Int:=(minL l).getD (-1)
theorem zk9 {l:List Int} {e:Int} (hl:∀ x ∈ l,0<=x):lsF (l ++ [e])=if lsF l < 0 ∨ e < lsF l then e else lsF l:=by
 unfold lsF minL
 rw [List.foldl_append]
 show (minS (l.foldl minS none) e).getD (-1)=_
 cases h:l.foldl minS none with
 | none=>rfl
 | some y =>
  have hy:=hl y (z2o h).1
  show (if e < y then some e else some y).getD (-1)=if y < 0 ∨ e < y then e else y
  by_cases h1:e < y
  ·rw [if_pos h1,if_pos (.inr h1)];rfl
  ·rw [if_neg h1,if_neg (by omega)];rfl
theorem zgt {s:Cr} (hs:CrOk s) {t:List Int} {set c:Nat} (hc:c < 2*s.lines.length) {m:Nat}:∀ x ∈ conL s t set c m,0<=x /\ x<=1048576:=fun x hx=>by
 obtain ⟨fr,_,h⟩:=List.mem_filterMap.1 hx
 unfold conF at h
 split at h
 ·cases h
 ·obtain ⟨b,h1,rfl⟩:=Option.map_eq_some_iff.1 h
  have:=z6v hs (by omega) h1
  omega
theorem zor {s:Cr} (hs:CrOk s) {t:List Int} {set c:Nat} (hc:c < 2*s.lines.length) {m:Nat}:-1<=lsF (conL s t set c m) /\ lsF (conL s t set c m)<=1048576:=by
 unfold lsF
 cases h:minL (conL s t set c m) with
 | none=>exact ⟨by decide,by decide⟩
 | some y=>have:=zgt hs hc y (z2o h).1;exact ⟨by show -1<=y;omega,this.2⟩
theorem zjo {s:Cr} (hs:CrOk s) {t:List Int} {set c m:Nat} (hc:c < 2*s.lines.length):lsF (conL s t set c (m+1))=if srcF s t set c m < 0 then lsF (conL s t set c m) else if 0<=onR s m (srcF s t set c m) c /\ (lsF (conL s t set c m) < 0 ∨ onR s m (srcF s t set c m) c < lsF (conL s t set c m)) then onR s m (srcF s t set c m) c else lsF (conL s t set c m):=by
 rw [zaj]
 have hcn:conF s t set c m=if srcF s t set c m < 0 then none else (goF s (posR s m,srcF s t set c m) c).map (·.2):=rfl
 rw [hcn]
 split
 ·show lsF (_ ++ [])=_
  rw [List.append_nil]
 ·unfold onR
  cases hg:goF s (posR s m,srcF s t set c m) c with
  | none =>
   show lsF (_ ++ [])=if 0<=(-1:Int) /\ _ then _ else _
   rw [List.append_nil,if_neg (fun h=>absurd h.1 (by decide))]
  | some b =>
   have hb:=z6v hs (by omega) hg
   show lsF (_ ++ [b.2])=if 0<=b.2 /\ _ then b.2 else _
   rw [zk9 fun x hx=>(zgt hs hc x hx).1]
   by_cases h1:lsF (conL s t set c m) < 0 ∨ b.2 < lsF (conL s t set c m)
   ·rw [if_pos h1,if_pos ⟨by omega,h1⟩]
   ·rw [if_neg h1,if_neg (fun h=>h1 h.2)]
theorem zn9 (u k:Nat):(shrZ (u:Int) (k:Int) % 2=1) ↔ u.testBit k=true:=by
 have e:shrZ (u:Int) (k:Int)=((u / 2 ^ k:Nat):Int):=by unfold shrZ;rw [Int.toNat_natCast];exact (Int.natCast_ediv u (2 ^ k)).symm
 rw [e,Nat.testBit_eq_decide_div_mod_eq,decide_eq_true_iff]
 omega
theorem zo1 {set k:Nat} (hset:set<=1000) (hk:k<=20) (M:Mem):CallOk Tryz.prog 68 [I set,I k] M (fun v M'=>v=.bool (set.testBit k) /\ Grow M M'):=by
 have hb:=zn9 set k
 have hd:decide (shrZ (set:Int) (k:Int) % 2=1)=set.testBit k:=by
  cases h:set.testBit k with
  | true=>exact decide_eq_true (hb.2 h)
  | false=>exact decide_eq_false (fun h'=>by rw [hb.1 h'] at h;cases h)
 have hz:0<=shrZ (set:Int) (k:Int) /\ shrZ (set:Int) (k:Int)<=1000:=by
  have e:shrZ (set:Int) (k:Int)=((set / 2 ^ k:Nat):Int):=by unfold shrZ;rw [Int.toNat_natCast];exact (Int.natCast_ediv set (2 ^ k)).symm
  rw [e]
  exact ⟨Int.natCast_nonneg _,Int.ofNat_le.2 (Nat.le_trans (Nat.div_le_self set (2 ^ k)) hset)⟩
 refine z6 kq68 rfl ?_
 dsimp only [xq68,qm,qB,qC,qo,qq,zipE,Nat.reduceAdd]
 (repeat' first|with_reducible intro _|refine sv ?_|refine sc ?_ ?_<;>(intro h;try exact sz h)|refine sg ?_ ?_<;>(intro h;first|exact sz h|refine sy h ?_)|exact sq|fail)
 (refine kf ?_)
 exact ⟨by rw [<-hd];rfl,xg⟩
theorem zlk {s:Cr} (hs:CrOk s) {i:Nat} (h:i < (tabF s).length):-1<=(tabF s)[i] /\ (tabF s)[i]<=1048576:=(TbOk.rows hs _).2 _ (List.getElem_mem h)
theorem zp7 {lo k:Nat} {M:Mem} {ao:Option (Nat × Nat)} {n:Nat} {f:Bool} {e:Nat} {l:List Int} (h:Vec lo 1 3 intz M (.slice ao n f e) l) (hk:k < l.length):∃ i,ao=some (i,0) /\ Rd1 M i (0+k*1) (I l[k]) /\ i < M.next:=by
 rcases h with ⟨h1,_⟩|⟨i,h1,h2,_⟩
 ·rw [h1] at hk;simp at hk
 ·cases h1
  exact ⟨i,rfl,(zo (enc:=intz) h2 (fun _ _=>rfl) hk).nth (j:=0) rfl,h2.2⟩
theorem zkl {set k:Nat} (h:set.testBit k=true):(set:Int) - shlZ 1 (k:Int)=((restN set k:Nat):Int):=by
 have:=zi7 h
 rw [z1c]
 omega
theorem zlf {s:Cr} {set:Nat}:plN s set (2*s.lines.length)=plN s (set+1) 0:=by unfold plN;rw [Nat.mul_add];omega
theorem zov {s:Cr} {set c:Nat}:(2*(s.lines.length:Int)*(set:Int)+(c:Int)).toNat=plN s set c:=by
 have:2*(s.lines.length:Int)*(set:Int)+(c:Int)=((plN s set c:Nat):Int):=by
  unfold plN
  rw [Int.natCast_add,Int.natCast_mul,Int.natCast_mul];rfl
 rw [this,Int.toNat_natCast]
set_option maxHeartbeats 16000000 in
theorem zjb {A:CrA} {s:Cr} {M:Mem} (hM:CrM M A s) :
  CallOk Tryz.prog 22 [crv A s] M (fun v M'=>Grow M M' /\ ∃ sl,v=.tup [sl,I (TableF s).2] /\ Vec M.next 1 3 intz M' sl (TableF s).1):=by
 classical
 have hc:=fun M' (hg:Grow M M')=>z7m (hM.grow hg)
 refine z6 kq22 rfl ?_
 dsimp only [xq22,qm,qf,ql,qL,qi,qb,qc,qa,qn,qB,qC,qg,qS,qo,qq,qZ,qN,zipE,Nat.reduceAdd]
 unfold TableF
 by_cases hok:CrOk s
 rotate_left
 ·have he:eCrB s=40:=if_neg (by rw [z2f hok];decide)
  rw [he] at hc
  rw [if_neg hok]
  (repeat' first|with_reducible intro _|refine sv ?_|refine sc ?_ ?_<;>(intro h;try exact sz h)|(with_reducible first|apply za|apply z8|apply z5);exact gd;exact rfl;exact rfl;exact hc _ (xg)|refine sg ?_ ?_<;>(intro h;first|exact sz h|refine sy h ?_)|exact sq|fail)
  all_goals first
   |(exfalso;omega)
   |((refine kf ?_)
     exact ⟨xg,_,rfl,.nil⟩)
 have he:eCrB s=0:=if_pos (zjs hok)
 rw [he] at hc
 rw [if_pos hok]
 have hcs:=fun M' (hg:Grow M M')=>zjf hok (hM.grow hg)
 have hn5:=hok.n5
 have hn1:=hok.n1
 have hp2:2 ^ s.lines.length<=32:=Nat.pow_le_pow_right (n:=2) (by omega) hn5
 have hsb:=z08 (k:=s.lines.length) (by omega)
 have hso:=z1c s.lines.length
 have htl:=z53 s
 (repeat' first|with_reducible intro _|refine sv ?_|refine sc ?_ ?_<;>(intro h;try exact sz h)|(with_reducible first|apply za|apply z8|apply z5);exact gd;exact rfl;exact rfl;exact hc _ (xg)|(with_reducible first|apply zk|apply zu|apply z00);exact gd;exact rfl;exact rfl;exact hcs _ (xg)|refine sg ?_ ?_<;>(intro h;first|exact sz h|refine sy h ?_)|exact sq|fail)
 all_goals try (exfalso;omega)
 rename_i n1 M1 hn1' e1 e2 M2 hg2 e3 w M3 hq n5 M4 hn5' e4 e5
 obtain ⟨hg3,aC,fC,rfl,hco⟩:=hq
 have le3:=hg3.le
 have b1:At M4 n1 (.cells true (crc A s) 35):=xm
 have hgs4:Grow M M4 /\ True:=⟨xg,trivial⟩
 have hco4:=hco.grow hn5'.grow
 have h15:n1 < n5 /\ M.next<=n1:=by omega
 clear hc hcs hn1' hg2 e3 hg3
 (repeat' first|with_reducible intro _|refine sv ?_|refine sc ?_ ?_<;>(intro h;try exact sz h)|refine sg ?_ ?_<;>(intro h;first|exact sz h|refine sy h ?_)|exact sq|fail)
 rename_i M5 hu5 e6 a5
 have hk45:Keep (fun i=>i=n5) M4 M5:=(Keep.refl (fun i=>i=n5) M4).upd hu5 (.inl rfl)
 have hco5:=hco.grow (Keep.to_grow' hn5'.grow hk45 (fun i hi=>by omega))
 have hgs5:Grow M M5 /\ True:=⟨Keep.to_grow' hgs4.1 hk45 (fun i hi=>by omega),trivial⟩
 have c5:At M5 n5 (.cells true (coc A s aC fC) 121):=a5
 have l5:=c5.2
 have le5:=hgs5.1.le
 clear hk45 hn5' hu5 a5 b1 hco hco4 hgs4
 refine zc (fun n E ms M'=>∃ (k:Nat) (vo:LV),n=2 ^ s.lines.length - k /\ k<=2 ^ s.lines.length /\ ms=[] /\ Has E [(5,.ptr (some (n5,0))),(6,I s.lines.length),(7,vo),(8,I k)] /\ Grow M5 M' /\ Vec M5.next 1 3 intz M' vo ((tabF s).take (plN s k 0))) ?_ (2 ^ s.lines.length) _ _ _
  ⟨0,_,by omega,by omega,rfl,.cons rfl (.cons rfl (.cons rfl (.cons rfl .nil))),Grow.refl _,by rw [show plN s 0 0=0 by unfold plN;omega];exact .nil⟩
 rintro n E ms M6 ⟨k,vo,rfl,hk,rfl,hE,hg6,hvo⟩
 refine zw hE ?_
 have le6:=hg6.le
 by_cases hlast:k=2 ^ s.lines.length
 ·subst hlast
  rw [List.take_of_length_le (by rw [htl];unfold plN;omega)] at hvo
  have hk':shlZ 1 (s.lines.length:Int)=((2 ^ s.lines.length:Nat):Int):=hso
  (repeat' first|with_reducible intro _|refine sv ?_|refine sc ?_ ?_<;>(intro h;try exact sz h)|refine sg ?_ ?_<;>(intro h;first|exact sz h|refine sy h ?_)|exact sq|fail)
  (refine kf ?_)
  exact ⟨hgs5.1.trans hg6,_,rfl,hvo.imp id fun ⟨i,q1,q2,q3⟩=>⟨i,q1,q2,by omega⟩⟩
 have hlt:k < 2 ^ s.lines.length:=by omega
 (repeat' first|with_reducible intro _|refine sv ?_|refine sc ?_ ?_<;>(intro h;try exact sz h)|refine sg ?_ ?_<;>(intro h;first|exact sz h|refine sy h ?_)|exact sq|fail)
 refine zc (fun n E ms M'=>∃ (j:Nat) (vo:LV),n=2*s.lines.length - j /\ j<=2*s.lines.length /\ ms=[] /\ Has E [(5,.ptr (some (n5,0))),(6,I s.lines.length),(7,vo),(8,I k),(9,I j)] /\ Grow M5 M' /\ Vec M5.next 1 3 intz M' vo ((tabF s).take (plN s k j))) ?_ (2*s.lines.length) _ _ _
  ⟨0,_,by omega,by omega,rfl,.cons rfl (.cons rfl (.cons rfl (.cons rfl (.cons rfl .nil)))),hg6,hvo⟩
 clear hvo hE hg6 le6
 rintro n E ms M7 ⟨j,vo,rfl,hj,rfl,hE,hg7,hvo⟩
 refine zw hE ?_
 have le7:=hg7.le
 by_cases hlast:j=2*s.lines.length
 ·subst hlast
  (repeat' first|with_reducible intro _|refine sv ?_|refine sc ?_ ?_<;>(intro h;try exact sz h)|refine sg ?_ ?_<;>(intro h;first|exact sz h|refine sy h ?_)|exact sq|fail)
  refine zg (2 ^ s.lines.length - (k+1)) (by omega) ⟨k+1,vo,rfl,by omega,rfl,.cons rfl (.cons rfl (.cons rfl (.cons rfl .nil))),hg7,by rw [<-zlf];exact hvo⟩
 have hjlt:j < 2*s.lines.length:=by omega
 have hpl:=z7u hlt hjlt
 have hpl':plN s k j < (tabF s).length:=by rw [htl];exact hpl
 have hTT:=znq hlt hjlt
 have hTT':TT s k j=(tabF s)[plN s k j]:=ze hpl'
 have hj2:((j / 2:Nat):Int)=(j:Int) / 2:=by omega
 have hbt:=fun M'=>zo1 (set:=k) (k:=j / 2) (by omega) (by omega) M'
 rw [hj2] at hbt
 have hN:2*s.lines.length*2 ^ s.lines.length<=10*32:=Nat.mul_le_mul (by omega) hp2
 have htake:((tabF s).take (plN s k j)).length=plN s k j:=by rw [List.length_take];omega
 obtain ⟨ao,fo,eo,rfl⟩:=hvo.shape
 cases hb:k.testBit (j / 2) with
 | false =>
  rw [hb] at hbt hTT
  have hv:(tabF s)[plN s k j]=-1:=by rw [<-hTT',hTT];rfl
  (repeat' first|with_reducible intro _|refine sv ?_|refine sc ?_ ?_<;>(intro h;try exact sz h)|(with_reducible first|apply za|apply z8|apply z5);exact gd;exact rfl;exact rfl;exact hbt _|refine sg ?_ ?_<;>(intro h;first|exact sz h|refine sy h ?_)|exact sq|fail)
  rename_i M8 hg8 e8 n90 M9 hn9 e9 e10
  have hgs:Grow M7 M9 /\ True:=⟨hg8.trans hn9.grow,trivial⟩
  have hvo9:=hvo.grow hgs.1
  have hw9:firstL 1 1 (.slice (some (n90,0)) 1 true 1) M9=some ([(-1:Int)].flatMap intz):=zn (enc:=intz) (l:=[(-1:Int)]) (fun _ _=>rfl) (fun k' hk'=>zo (enc:=intz) (l:=[(-1:Int)]) (At.new_same hn9) (fun _ _=>rfl) hk')
  have htk:(tabF s).take (plN s k (j+1))=(tabF s).take (plN s k j) ++ [(-1:Int)]:=by rw [show plN s k (j+1)=plN s k j+1 from rfl,List.take_succ_eq_append_getElem hpl',hv]
  refine z0q (by exact gd) (l':=[(-1:Int)]) hvo9 rfl rfl rfl (by simp) (by rw [List.length_singleton];omega) rfl hw9 (fun _=>rfl) (fun _=>rfl) (by omega) ?_
  intro v10 M10 hv10 e11 hk10
  have hg10:Grow M5 M10:=Keep.to_grow' (hg7.trans hgs.1) hk10 (fun i hi=>hi.1)
  (repeat' first|with_reducible intro _|refine sv ?_|refine sc ?_ ?_<;>(intro h;try exact sz h)|refine sg ?_ ?_<;>(intro h;first|exact sz h|refine sy h ?_)|exact sq|fail)
  refine zg (2*s.lines.length - (j+1)) (by omega) ⟨j+1,v10,rfl,by omega,rfl,.cons rfl (.cons rfl (.cons rfl (.cons rfl (.cons rfl .nil)))),hg10,by rw [htk];exact hv10⟩
 | true =>
  rw [hb] at hbt hTT
  have hv:(tabF s)[plN s k j]=lsF (earL s (tabF s) k j):=by rw [<-hTT',hTT];rfl
  have hri:=zkl hb
  rw [hj2] at hri
  have hrl:=z4y hb
  (repeat' first|with_reducible intro _|refine sv ?_|refine sc ?_ ?_<;>(intro h;try exact sz h)|(with_reducible first|apply za|apply z8|apply z5);exact gd;exact rfl;exact rfl;exact hbt _|refine sg ?_ ?_<;>(intro h;first|exact sz h|refine sy h ?_)|exact sq|fail)
  rename_i M8 hg8 e8
  have htb:∀ fr,fr < 2*s.lines.length->restN k (j / 2) ≠ 0->-1<=(tabF s).getD (plN s (restN k (j / 2)) fr) 0:=fun fr hfr _=>by
   have hl:plN s (restN k (j / 2)) fr < (tabF s).length:=by rw [htl];exact z7u (by omega) hfr
   rw [ze hl];exact (zlk hok hl).1
  rw [<-zml htb] at hv
  refine zc (fun n E ms M'=>∃ m:Nat,n=2*s.lines.length+1 - m /\ m<=2*s.lines.length+1 /\ ms=[] /\ Has E [(5,.ptr (some (n5,0))),(6,I s.lines.length),(7,.slice ao (List.take (plN s k j) (tabF s)).length fo eo),(8,I k),(9,I j),(10,I (lsF (conL s (tabF s) k j m))),(11,I (restN k (j / 2):Nat)),(12,I m)] /\ Grow M7 M') ?_ (2*s.lines.length+1) _ _ _
   ⟨0,by omega,by omega,rfl,.cons rfl (.cons rfl (.cons rfl (.cons rfl (.cons rfl (.cons rfl (.cons (by rw [<-hri];rfl) (.cons rfl .nil))))))),hg8⟩
  clear hE hg8 e8
  rintro n E ms M8 ⟨m,rfl,hm,rfl,hE,hg8⟩
  refine zw hE ?_
  have le8:=hg8.le
  have hlb:=zor hok (t:=tabF s) (set:=k) hjlt (m:=m)
  by_cases hlast:m=2*s.lines.length+1
  ·subst hlast
   (repeat' first|with_reducible intro _|refine sv ?_|refine sc ?_ ?_<;>(intro h;try exact sz h)|refine sg ?_ ?_<;>(intro h;first|exact sz h|refine sy h ?_)|exact sq|fail)
   rename_i n90 M9 hn9 e9 e10
   have hgs:Grow M7 M9 /\ True:=⟨hg8.trans hn9.grow,trivial⟩
   have hvo9:=hvo.grow hgs.1
   have hw9:firstL 1 1 (.slice (some (n90,0)) 1 true 1) M9=some ([lsF (conL s (tabF s) k j (2*s.lines.length+1))].flatMap intz):=zn (enc:=intz) (l:=[lsF (conL s (tabF s) k j (2*s.lines.length+1))]) (fun _ _=>rfl) (fun k' hk'=>zo (enc:=intz) (l:=[lsF (conL s (tabF s) k j (2*s.lines.length+1))]) (At.new_same hn9) (fun _ _=>rfl) hk')
   have htk:(tabF s).take (plN s k (j+1))=(tabF s).take (plN s k j) ++ [lsF (conL s (tabF s) k j (2*s.lines.length+1))]:=by rw [show plN s k (j+1)=plN s k j+1 from rfl,List.take_succ_eq_append_getElem hpl',hv]
   refine z0q (by exact gd) (l':=[lsF (conL s (tabF s) k j (2*s.lines.length+1))]) hvo9 rfl rfl rfl (by simp) (by rw [List.length_singleton];omega) rfl hw9 (fun _=>rfl) (fun _=>rfl) (by omega) ?_
   intro v10 M10 hv10 e11 hk10
   have hg10:Grow M5 M10:=Keep.to_grow' (hg7.trans hgs.1) hk10 (fun i hi=>hi.1)
   (repeat' first|with_reducible intro _|refine sv ?_|refine sc ?_ ?_<;>(intro h;try exact sz h)|refine sg ?_ ?_<;>(intro h;first|exact sz h|refine sy h ?_)|exact sq|fail)
   refine zg (2*s.lines.length - (j+1)) (by omega) ⟨j+1,v10,rfl,by omega,rfl,.cons rfl (.cons rfl (.cons rfl (.cons rfl (.cons rfl .nil)))),hg10,by rw [htk];exact hv10⟩
  have hstep:=zjo hok (t:=tabF s) (set:=k) hjlt (m:=m)
  have hsrc:srcF s (tabF s) k j m=if m < 2*s.lines.length then (if restN k (j / 2)=0 then -1 else (tabF s).getD (plN s (restN k (j / 2)) m) 0) else (if restN k (j / 2)=0 then 0 else -1):=rfl
  by_cases hm2:m < 2*s.lines.length
  ·rw [if_pos hm2] at hsrc
   by_cases hr:restN k (j / 2)=0
   ·rw [if_pos hr] at hsrc
    rw [hsrc,if_pos (by decide)] at hstep
    (repeat' first|with_reducible intro _|refine sv ?_|refine sc ?_ ?_<;>(intro h;try exact sz h)|refine sg ?_ ?_<;>(intro h;first|exact sz h|refine sy h ?_)|exact sq|fail)
    refine zg (2*s.lines.length+1 - (m+1)) (by omega) ⟨m+1,rfl,by omega,rfl,.cons rfl (.cons rfl (.cons rfl (.cons rfl (.cons rfl (.cons (by rw [hstep];rfl) (.cons rfl (.cons rfl .nil))))))),hg8⟩
   ·rw [if_neg hr] at hsrc
    have hrp:0 < restN k (j / 2):=by omega
    have hix:plN s (restN k (j / 2)) m < plN s k j:=by
     have h1:plN s (restN k (j / 2)) (2*s.lines.length)=plN s (restN k (j / 2)+1) 0:=zlf
     have h2:2*s.lines.length*(restN k (j / 2)+1)<=2*s.lines.length*k:=Nat.mul_le_mul_left _ hrl
     unfold plN at *
     omega
    obtain ⟨i,rfl,hR,hi⟩:=zp7 hvo (by rw [htake];exact hix)
    rw [List.getElem_take] at hR
    rw [ze (by omega)] at hsrc
    have hib:=zlk hok (i:=plN s (restN k (j / 2)) m) (by omega)
    have hmb:=z0o (a:=2*(s.lines.length:Int)) (b:=((restN k (j / 2):Nat):Int)) (A:=10) (B:=32) (by omega) (by omega)
    have hidx:0<=2*(s.lines.length:Int)*((restN k (j / 2):Nat):Int)+(m:Int) /\ 2*(s.lines.length:Int)*((restN k (j / 2):Nat):Int)+(m:Int) < ((List.take (plN s k j) (tabF s)).length:Nat):=by
     have e:2*(s.lines.length:Int)*((restN k (j / 2):Nat):Int)+(m:Int)=((plN s (restN k (j / 2)) m:Nat):Int):=by unfold plN;rw [Int.natCast_add,Int.natCast_mul,Int.natCast_mul];rfl
     rw [e,htake];omega
    generalize (tabF s)[plN s (restN k (j / 2)) m]=v at *
    rw [<-zov] at hR
    have rR:=hR.grow hg8
    rw [hsrc] at hstep
    by_cases hv0:v < 0
    ·rw [if_pos hv0] at hstep
     (have hrd0:=rR;repeat' first|with_reducible intro _|refine sv ?_|refine sc ?_ ?_<;>(intro h;try exact sz h)|refine sg ?_ ?_<;>(intro h;first|exact sz h|refine sy h ?_)|exact sq|fail)
     refine zg (2*s.lines.length+1 - (m+1)) (by omega) ⟨m+1,rfl,by omega,rfl,.cons rfl (.cons rfl (.cons rfl (.cons rfl (.cons rfl (.cons (by rw [hstep];rfl) (.cons rfl (.cons rfl .nil))))))),hg8⟩
    ·rw [if_neg hv0] at hstep
     have c8:=c5.grow (hg7.trans hg8)
     have hon:=fun M' (hg:Grow M8 M')=>zo7 (fC:=fC) (fr:=m) (to:=j) (t:=v) hok ((hco5.grow (hg7.trans hg8)).grow hg) (Nat.le_of_lt hm2) hjlt (by omega)
     generalize onR s m v j=q at *
     generalize lsF (conL s (tabF s) k j m)=o at *
     (have hrd0:=rR;repeat' first|with_reducible intro _|refine sv ?_|refine sc ?_ ?_<;>(intro h;try exact sz h)|(with_reducible first|apply za|apply z8|apply z5);exact gd;exact rfl;exact rfl;exact hon _ (xg)|refine sg ?_ ?_<;>(intro h;first|exact sz h|refine sy h ?_)|exact sq|fail)
     all_goals first
      |(exfalso;omega)
      |(refine zg (2*s.lines.length+1 - (m+1)) (by omega) ⟨m+1,rfl,by omega,rfl,.cons rfl (.cons rfl (.cons rfl (.cons rfl (.cons rfl (.cons (by rw [hstep,if_pos (by omega)];rfl) (.cons rfl (.cons rfl .nil))))))),xg⟩)
      |(refine zg (2*s.lines.length+1 - (m+1)) (by omega) ⟨m+1,rfl,by omega,rfl,.cons rfl (.cons rfl (.cons rfl (.cons rfl (.cons rfl (.cons (by rw [hstep,if_neg (by omega)];rfl) (.cons rfl (.cons rfl .nil))))))),xg⟩)
  ·obtain rfl:m=2*s.lines.length:=by omega
   rw [if_neg hm2] at hsrc
   by_cases hr:restN k (j / 2)=0
   ·rw [if_pos hr] at hsrc
    rw [hsrc,if_neg (by decide)] at hstep
    have c8:=c5.grow (hg7.trans hg8)
    have hon:=fun M' (hg:Grow M8 M')=>zo7 (fC:=fC) (fr:=2*s.lines.length) (to:=j) (t:=0) hok ((hco5.grow (hg7.trans hg8)).grow hg) (Nat.le_refl _) hjlt (by omega)
    generalize onR s (2*s.lines.length) 0 j=q at *
    generalize lsF (conL s (tabF s) k j (2*s.lines.length))=o at *
    (repeat' first|with_reducible intro _|refine sv ?_|refine sc ?_ ?_<;>(intro h;try exact sz h)|(with_reducible first|apply za|apply z8|apply z5);exact gd;exact rfl;exact rfl;exact hon _ (xg)|refine sg ?_ ?_<;>(intro h;first|exact sz h|refine sy h ?_)|exact sq|fail)
    all_goals first
     |(exfalso;omega)
     |(refine zg (2*s.lines.length+1 - ((2*s.lines.length)+1)) (by omega) ⟨(2*s.lines.length)+1,rfl,by omega,rfl,.cons rfl (.cons rfl (.cons rfl (.cons rfl (.cons rfl (.cons (by rw [hstep,if_pos (by omega)];rfl) (.cons rfl (.cons rfl .nil))))))),xg⟩)
     |(refine zg (2*s.lines.length+1 - ((2*s.lines.length)+1)) (by omega) ⟨(2*s.lines.length)+1,rfl,by omega,rfl,.cons rfl (.cons rfl (.cons rfl (.cons rfl (.cons rfl (.cons (by rw [hstep,if_neg (by omega)];rfl) (.cons rfl (.cons rfl .nil))))))),xg⟩)
   ·rw [if_neg hr] at hsrc
    rw [hsrc,if_pos (by decide)] at hstep
    (repeat' first|with_reducible intro _|refine sv ?_|refine sc ?_ ?_<;>(intro h;try exact sz h)|refine sg ?_ ?_<;>(intro h;first|exact sz h|refine sy h ?_)|exact sq|fail)
    refine zg (2*s.lines.length+1 - (2*s.lines.length+1)) (by omega) ⟨2*s.lines.length+1,rfl,by omega,rfl,.cons rfl (.cons rfl (.cons rfl (.cons rfl (.cons rfl (.cons (by rw [hstep];rfl) (.cons rfl (.cons rfl .nil))))))),hg8⟩
theorem zfq {s:Cr}:(TableF s).1.length<=1000000:=by
 unfold TableF
 split
 ·next hok =>
  have hp2:2 ^ s.lines.length<=32:=Nat.pow_le_pow_right (n:=2) (by omega) hok.n5
  have hN:2*s.lines.length*2 ^ s.lines.length<=10*32:=Nat.mul_le_mul (by have:=hok.n5;omega) hp2
  show (tabF s).length<=_
  rw [z53];omega
 ·exact Nat.zero_le _
theorem znc {lo:Nat} {M:Mem} {sl:LV} {l:List Int} (h:Vec lo 1 3 intz M sl l):∃ ax fx ex,sl=.slice ax l.length fx ex /\ SlA 1 intz M ax l:=by
 rcases h with ⟨h1,h2⟩|⟨i,h1,h2,_⟩
 ·exact ⟨none,true,0,by rw [h1];exact h2,.inl h1⟩
 ·exact ⟨some (i,0),_,_,h1,ze5 h2⟩
end Go.Proofs.YtpccafeedfpbaaaGreat.C
end
