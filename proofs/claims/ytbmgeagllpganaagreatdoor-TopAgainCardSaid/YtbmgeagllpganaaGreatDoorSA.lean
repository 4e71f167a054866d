/-
 Part of the proof of TopAgain. No condition beyond those in each theorem.
-/
import Derived.Test.YtbmgeagllpganaaGreatDoorPvH
import Derived.Test.YtbmgeagllpganaaGreatDoorPvG
import Derived.Test.YtbmgeagllpganaaGreatDoorTX
import Derived.Test.YtbmgeagllpganaaGreatDoorTW
section
open Go PvL
set_option linter.unusedSimpArgs false
set_option linter.unusedVariables false
namespace Go.Proofs.YtbmgeagllpganaaGreatDoor.C
theorem zd0:∀ l:List LV,setList l 0 []=some l
 | []=>rfl
 | _ :: _=>rfl
theorem z7o:∀ (vs rest ws:List LV),ws.length=vs.length->setList (vs ++ rest) 0 ws=some (ws ++ rest)
 | [],rest,[],_=>by rw [List.nil_append];exact zd0 _
 | v :: vs,rest,w :: ws,h=>by
  show ob (setList (vs ++ rest) 0 ws) (fun l=>some (w :: l))=_
  rw [z7o vs rest ws (by simpa using h)]
  rfl
theorem z7n:∀ (pre l vs:List LV) (k:Nat) (r:List LV),setList l k vs=some r->vs ≠ []->setList (pre ++ l) (pre.length+k) vs=some (pre ++ r)
 | [],l,vs,k,r,h,_=>by rw [List.length_nil,Nat.zero_add];exact h
 | p :: pre,l,[],k,r,h,hv=>absurd rfl hv
 | p :: pre,l,v :: vs,k,r,h,hv=>by
  rw [show (p :: pre).length+k=(pre.length+k)+1 from by rw [List.length_cons];omega]
  show ob (setList (pre ++ l) (pre.length+k) (v :: vs)) (fun l=>some (p :: l))=_
  rw [z7n pre l (v :: vs) k r h hv]
  rfl
theorem z34 {α:Type} {enc:α->List LV} {sz:Nat} (henc:∀ x,(enc x).length=sz) (h0:0 < sz):∀ (l:List α) (k:Nat) (v:α),k < l.length->setList (l.flatMap enc) (k*sz) (enc v)=some ((l.set k v).flatMap enc)
 | [],k,v,h=>absurd h (Nat.not_lt_zero _)
 | x :: l,0,v,h=>by
  rw [Nat.zero_mul,List.set_cons_zero,List.flatMap_cons,List.flatMap_cons]
  exact z7o _ _ _ (by rw [henc,henc])
 | x :: l,k+1,v,h=>by
  rw [List.set_cons_succ,List.flatMap_cons,List.flatMap_cons,show (k+1)*sz=(enc x).length+k*sz from by rw [henc,Nat.add_mul,Nat.one_mul,Nat.add_comm]]
  refine z7n _ _ _ _ _ (z34 henc h0 l k v (by simpa using h)) fun he=>?_
  have:=henc v
  rw [he] at this
  simp at this
  omega
def tabL {α:Type} (enc:α->List LV) (G:Nat->α) (n:Nat):List LV:=((List.range n).map G).flatMap enc
theorem zkl {α:Type} {enc:α->List LV} {sz:Nat} (henc:∀ x,(enc x).length=sz) (h0:0 < sz) {G G':Nat->α} {n k:Nat} (hk:k < n) (h:∀ i,i < n->i ≠ k->G' i=G i):setList (tabL enc G n) (k*sz) (enc (G' k))=some (tabL enc G' n):=by
 unfold tabL
 rw [z34 henc h0 _ _ _ (by simpa using hk)]
 congr 2
 refine List.ext_getElem (by simp) fun i h1 h2=>?_
 rw [List.getElem_set]
 by_cases he:k=i
 ·subst he;simp
 ·rw [if_neg he]
  simp only [List.getElem_map,List.getElem_range]
  exact (h i (by simpa using h2) (fun h=>he h.symm)).symm
theorem znh {α:Type} {enc:α->List LV} {sz:Nat} (henc:∀ x,(enc x).length=sz) {G:Nat->α} {n k:Nat} {M:Mem} {i:Nat} {own:Bool} {ty:TypeId} (ha:At M i (.cells own (tabL enc G n) ty)) (hk:k < n):Rd M i (0+k*sz) sz (enc (G k)):=by
 have:=z1s (enc:=enc) (l:=(List.range n).map G) (sz:=sz) ha (fun x _=>henc x) (k:=k) (by simpa using hk)
 simpa using this
end Go.Proofs.YtbmgeagllpganaaGreatDoor.C
end
section
open PvL Go
set_option linter.unusedSimpArgs false
set_option linter.unusedVariables false
namespace Go.Proofs.YtbmgeagllpganaaGreatDoor.C
def SlI (M:Mem) (a:Option (Nat × Nat)) (l:List Int):Prop:=l=[] ∨ ∃ i o,a=some (i,o) /\ ∀ k (hk:k < l.length),Rd1 M i (o+k*1) (I l[k])
theorem SlI.grow {M M':Mem} {a:Option (Nat × Nat)} {l:List Int} (h:SlI M a l) (hg:Grow M M'):SlI M' a l :=
 h.imp id fun ⟨i,o,h1,h2⟩=>⟨i,o,h1,fun k hk=>(h2 k hk).grow hg⟩
theorem SlI.rd {M:Mem} {a:Option (Nat × Nat)} {l:List Int} (h:SlI M a l) {k:Nat} (hk:k < l.length):∃ i o,a=some (i,o) /\ Rd1 M i (o+k*1) (I l[k]):=by
 rcases h with rfl|⟨i,o,h1,h2⟩
 ·exact absurd hk (Nat.not_lt_zero _)
 ·exact ⟨i,o,h1,h2 k hk⟩
abbrev intc (n:Int):List LV:=[I n]
theorem z7j {M:Mem} {i o:Nat} {v:LV} (h:Rd M i o 1 [v]):Rd1 M i o v:=by
 have:=Rd.nth (j:=0) h (v:=v) rfl
 simpa using this
theorem SlI.vec {M:Mem} {b:Nat} {ty:TypeId} {v:LV} {l:List Int} (h:Vec b 1 ty intc M v l):∃ a f e,v=.slice a l.length f e /\ SlI M a l:=by
 obtain ⟨a,f,e,h1,h2⟩:=h.rd (fun _ _=>rfl)
 refine ⟨a,f,e,h1,h2.imp id fun ⟨i,o,h3,h4⟩=>⟨i,o,h3,fun k hk=>z7j (h4 k hk)⟩⟩
abbrev frSh:Sh:=.pair (.int .i64) (.pair (.int .i64) (.sl (.int .i64) 8))
abbrev Fr:=Int × Int × List Int
theorem z9g {m:Mem} {b:Nat} {l:List Int} {cs:List LV} (h:Enc m (.sl (.int .i64) b) l cs):∃ a f,cs=[.slice a l.length f 1] /\ SlI m a l /\ l.length<=reachBytes /\ ∀ x ∈ l,IntKind.min .i64<=x /\ x<=IntKind.max .i64:=by
 obtain ⟨a,f,h1,h2,h3⟩:=h
 by_cases hl:l=[]
 ·subst hl
  exact ⟨a,f,h1,.inl rfl,h2.1,fun x hx=>nomatch hx⟩
 ·obtain ⟨i,o,g1,g2,_,g3⟩:=h3 hl
  have key:∀ k (hk:k < l.length),Rd1 m i (o+k*1) (I l[k]) /\ IntKind.min .i64<=l[k] /\ l[k]<=IntKind.max .i64:=fun k hk=>by
   obtain ⟨c,g4,g5,g6⟩:=g3 k hk
   rw [g5] at g4
   exact ⟨z7j ⟨g4,g2⟩,g6⟩
  refine ⟨a,f,h1,.inr ⟨i,o,g1,fun k hk=>(key k hk).1⟩,h2.1,fun x hx=>?_⟩
  obtain ⟨k,hk,rfl⟩:=List.getElem_of_mem hx
  exact (key k hk).2
def FrV (M:Mem) (v:LV) (x:Fr):Prop:=∃ a f e,v=.agg [I x.1,I x.2.1,.slice a x.2.2.length f e] /\ SlI M a x.2.2
def I64 (n:Int):Prop:=-9223372036854775808<=n /\ n<=9223372036854775807
def FrIn (x:Fr):Prop:=I64 x.1 /\ I64 x.2.1 /\ x.2.2.length<=1000000000000000 /\ ∀ n ∈ x.2.2,I64 n
theorem zoo {m:Mem} {x:Fr} {cs:List LV} (h:Enc m frSh x cs):FrV m (.agg cs) x /\ FrIn x:=by
 obtain ⟨c1,d1,rfl,⟨rfl,hb1⟩,c2,d2,rfl,⟨rfl,hb2⟩,h3⟩:=h
 obtain ⟨a,f,rfl,h4,h5,h6⟩:=z9g h3
 have h5:x.2.2.length<=140737488351232:=h5
 exact ⟨⟨a,f,1,rfl,h4⟩,hb1,hb2,by omega,h6⟩
theorem FrV.grow {M M':Mem} {v:LV} {x:Fr} (h:FrV M v x) (hg:Grow M M'):FrV M' v x:=by
 obtain ⟨a,f,e,h1,h2⟩:=h
 exact ⟨a,f,e,h1,h2.grow hg⟩
def knB (n:Int):Bool:=decide (-32767<=n /\ n<=32767)
def smB (n:Int):Bool:=knB n || (decide (n=40000) || decide (n=40001))
def btB (n a b:Int):Bool:=decide (a<=n /\ n<=b)
def smsB (l:List Int):Bool:=btB l.length 1 64 && l.all smB
def frB (x:Fr):Bool:=btB x.1 0 60000 && (btB x.2.1 0 23 && smsB x.2.2)
def errF (x:Fr):Int:=if frB x then 0 else 80
end Go.Proofs.YtbmgeagllpganaaGreatDoor.C
end
section
open PvL Go
set_option linter.unusedVariables false
variable {μ:PvL.Md}
namespace Go.Proofs.YtbmgeagllpganaaGreatDoor.C
section
variable {α:Type} {b q:Nat} {ty:TypeId} {enc:α->List LV} {M:Mem} {v:LV} {l l':List α} {P:Program} [Orc P] {sz:Nat} {E:Env} {K:Env->Mem->Prop} {ll:List XG} {d:Nat} {g:Option (Nat × Bool)} {s x:XO} {st:List Mem} {k:Nat} {xs:List (Nat × Nat × (Mem->Prop))} {ld:List (XG × XK)} {by':Nat} {z:List LV} {xv:LV}
theorem z7u (hg:GOn E g) (hv:Vec b q ty enc M v l) (hs:xval E s=some v) (hx:xval E x=some xv) (hn:lenOfL xv=some l'.length) (h0:0 < l'.length) (hb:(2*(l.length+l'.length)+2048)*by'<=140737488355328) (hz:(Nat.ble 1 q && (Nat.ble 1 by' && Nat.beq z.length q))=true) (hw:firstL q l'.length xv M=some (l'.flatMap enc))
  (henc:∀ x,(enc x).length=q) (hfl:∀ x,allFlat (enc x)=true) (hbM:b<=M.next) (hk:∀ v' M',Vec b q ty enc M' v' (l ++ l')->M'.next=M.next+1->Keep (fun i=>b<=i /\ ∃ o n f e,v=.slice (some (i,o)) n f e) M M'->XW μ P sz ll ((d,v') :: E) M' K):XW μ P sz (⟨some d,.app ty q by' z s x,g⟩ :: ll) E M K:=by
 obtain ⟨v',M',h1,h2,h3,h4⟩:=hv.app (P:=P) hs hx hn h0 hb hz hw henc hfl hbM
 exact znr hg h1 (hk v' M' h2 h3 h4)
theorem zaw (hg:GOn E g) (hv:Vec b q ty enc M v l) (hs:xval E s=some v) (hx:xval E x=some xv) (hn:lenOfL xv=some l'.length) (h0:0 < l'.length) (hb:(2*(l.length+l'.length)+2048)*by'<=140737488355328) (hz:(Nat.ble 1 q && (Nat.ble 1 by' && Nat.beq z.length q))=true) (hw:firstL q l'.length xv M=some (l'.flatMap enc))
  (henc:∀ x,(enc x).length=q) (hfl:∀ x,allFlat (enc x)=true) (hbM:b<=M.next) (hk:∀ v' M',Vec b q ty enc M' v' (l ++ l')->M'.next=M.next+1->Keep (fun i=>b<=i /\ ∃ o n f e,v=.slice (some (i,o)) n f e) M M'->XD P sz ld ((d,v') :: E) M' (M' :: st) (k+1) xs K):XD P sz ((⟨some d,.app ty q by' z s x,g⟩,.anchor) :: ld) E M st k xs K:=by
 obtain ⟨v',M',h1,h2,h3,h4⟩:=hv.app (P:=P) hs hx hn h0 hb hz hw henc hfl hbM
 exact zlc hg h1 (hk v' M' h2 h3 h4)
end
theorem zbi {m:Nat} {x:Int} {M M':Mem} {ty:TypeId} (hn:New M m (.cells true [I x] ty) M'):firstL 1 1 (.slice (some (m,0)) 1 true 1) M'=some ([x].flatMap intc) :=
 z4g (enc:=intc) (l:=[x]) (fun _ _=>rfl) (fun k' hk'=>z1s (enc:=intc) (l:=[x]) (At.new_same hn) (fun _ _=>rfl) hk')
def SlB (b:Nat) (M:Mem) (a:Option (Nat × Nat)) (l:List Int):Prop:=l=[] ∨ ∃ i o,a=some (i,o) /\ b<=i /\ ∀ k (hk:k < l.length),Rd1 M i (o+k*1) (I l[k])
theorem SlB.sl {b:Nat} {M:Mem} {a:Option (Nat × Nat)} {l:List Int} (h:SlB b M a l):SlI M a l:=h.imp id fun ⟨i,o,h1,_,h2⟩=>⟨i,o,h1,h2⟩
theorem SlB.keep {b:Nat} {M M':Mem} {F:Nat->Prop} {a:Option (Nat × Nat)} {l:List Int} (h:SlB b M a l) (hk:Keep F M M') (hF:∀ i,F i->i < b):SlB b M' a l :=
 h.imp id fun ⟨i,o,h1,h2,h3⟩=>⟨i,o,h1,h2,fun k hk'=>(h3 k hk').keep hk (fun hf=>by have:=hF i hf;omega)⟩
theorem SlB.weaken {b b':Nat} {M:Mem} {a:Option (Nat × Nat)} {l:List Int} (h:SlB b M a l) (hb:b'<=b):SlB b' M a l:=h.imp id fun ⟨i,o,h1,h2,h3⟩=>⟨i,o,h1,by omega,h3⟩
theorem SlB.grow {b:Nat} {M M':Mem} {a:Option (Nat × Nat)} {l:List Int} (h:SlB b M a l) (hg:Grow M M'):SlB b M' a l :=
 h.imp id fun ⟨i,o,h1,h2,h3⟩=>⟨i,o,h1,h2,fun k hk=>(h3 k hk).grow hg⟩
theorem SlB.vec {M:Mem} {b:Nat} {ty:TypeId} {v:LV} {l:List Int} (h:Vec b 1 ty intc M v l):∃ a f e,v=.slice a l.length f e /\ SlB b M a l:=by
 rcases h with ⟨rfl,rfl⟩|⟨i,rfl,h2,h3⟩
 ·exact ⟨_,_,_,rfl,.inl rfl⟩
 ·exact ⟨_,_,_,rfl,.inr ⟨i,0,rfl,h3,fun k hk=>z7j (z1s (enc:=intc) h2 (fun _ _=>rfl) hk)⟩⟩
def FrB (b:Nat) (M:Mem) (v:LV) (x:Fr):Prop:=∃ a f e,v=.agg [I x.1,I x.2.1,.slice a x.2.2.length f e] /\ SlB b M a x.2.2
theorem FrB.fr {b:Nat} {M:Mem} {v:LV} {x:Fr} (h:FrB b M v x):FrV M v x:=by
 obtain ⟨a,f,e,h1,h2⟩:=h
 exact ⟨a,f,e,h1,h2.sl⟩
def joinI (a b:Int):Int:=if a=b ∨ b=40000 then a else if a=40000 then b else 40001
def getG (l:List Int) (k:Nat):Int:=l.getD k 40000
def bothL (a b:List Int):List Int:=(List.range (max a.length b.length)).map fun k=>joinI (getG a k) (getG b k)
theorem zem {a b:List Int} {k:Nat} (h:k < max a.length b.length):(bothL a b).take (k+1)=(bothL a b).take k ++ [joinI (getG a k) (getG b k)]:=by
 unfold bothL
 rw [List.take_succ_eq_append_getElem (by simpa using h)]
 simp
theorem z0r {a b:List Int}:(bothL a b).length=max a.length b.length:=by unfold bothL;simp
theorem z11 {l:List Int} {k:Nat} (h:k < l.length):getG l k=l[k]:=by unfold getG;rw [List.getD_eq_getElem?_getD,List.getElem?_eq_getElem h];rfl
theorem z2h {l:List Int} {k:Nat} (h:l.length<=k):getG l k=40000:=by unfold getG;rw [List.getD_eq_getElem?_getD,List.getElem?_eq_none h];rfl
theorem zjr (a b:Nat):iMax (a:Int) (b:Int)=((max a b:Nat):Int):=by unfold iMax;omega
end Go.Proofs.YtbmgeagllpganaaGreatDoor.C
end
section
open PvL Go
set_option linter.unusedSimpArgs false
set_option linter.unusedVariables false
namespace Go.Proofs.YtbmgeagllpganaaGreatDoor.C
def ltB (c:Nat):Bool:=decide (97<=c /\ c<=122)
def dgB (c:Nat):Bool:=decide (c=95) || decide (48<=c /\ c<=57)
def nmK (s:ByteArray):Nat->Bool
 | 0=>true
 | k+1=>nmK s k && (ltB (byteAt s k) || (decide (k ≠ 0) && dgB (byteAt s k)))
def nmB (s:ByteArray):Bool:=nmK s s.size && btB s.size 1 16
theorem zp2 (s:ByteArray) (k:Nat):nmK s (k+1)=(nmK s k && (ltB (byteAt s k) || (decide (k ≠ 0) && dgB (byteAt s k)))):=rfl
theorem zlm {s:ByteArray}:∀ {n k:Nat},k<=n->nmK s k=false->nmK s n=false
 | 0,k,h,hk=>by obtain rfl:k=0:=by omega
                exact hk
 | n+1,k,h,hk=>by
  by_cases he:k=n+1
  ·subst he;exact hk
  ·rw [zp2,zlm (n:=n) (by omega) hk];rfl
theorem zp1 {s:ByteArray} {k:Nat} (h:k<=s.size) (hk:nmK s k=false):nmB s=false:=by unfold nmB;rw [zlm h hk];rfl
abbrev Rl:=ByteArray × List Fr
def FsV (M:Mem) (a:Option (Nat × Nat)) (L:List Fr):Prop:=L=[] ∨ ∃ i o,a=some (i,o) /\ ∀ k (hk:k < L.length),∃ b g u,Rd M i (o+k*3) 3 [I L[k].1,I L[k].2.1,.slice b L[k].2.2.length g u] /\ SlI M b L[k].2.2
theorem FsV.grow {M M':Mem} {a:Option (Nat × Nat)} {L:List Fr} (h:FsV M a L) (hg:Grow M M'):FsV M' a L :=
 h.imp id fun ⟨i,o,h1,h2⟩=>⟨i,o,h1,fun k hk=>by
  obtain ⟨b,g,u,h3,h4⟩:=h2 k hk
  exact ⟨b,g,u,h3.grow hg,h4.grow hg⟩⟩
def zFr0:Fr:=(0,0,[])
def fe (L:List Fr) (k:Nat):Fr:=L.getD k zFr0
theorem z1z {L:List Fr} {k:Nat} (h:k < L.length):fe L k=L[k]:=by unfold fe;rw [List.getD_eq_getElem?_getD,List.getElem?_eq_getElem h];rfl
theorem FsV.rd {M:Mem} {a:Option (Nat × Nat)} {L:List Fr} (h:FsV M a L) {k:Nat} (hk:k < L.length):∃ i o b g u,a=some (i,o) /\ Rd M i (o+k*3) 3 [I (fe L k).1,I (fe L k).2.1,.slice b (fe L k).2.2.length g u] /\ FrV M (.agg [I (fe L k).1,I (fe L k).2.1,.slice b (fe L k).2.2.length g u]) (fe L k):=by
 rcases h with rfl|⟨i,o,h1,h2⟩
 ·exact absurd hk (Nat.not_lt_zero _)
 ·obtain ⟨b,g,u,h3,h4⟩:=h2 k hk
  rw [<-z1z hk] at h3 h4
  exact ⟨i,o,b,g,u,h1,h3,b,g,u,rfl,h4⟩
def RlV (M:Mem) (v:LV) (r:Rl):Prop:=∃ a f e,v=.agg [.str r.1,.slice a r.2.length f e] /\ FsV M a r.2
theorem RlV.grow {M M':Mem} {v:LV} {r:Rl} (h:RlV M v r) (hg:Grow M M'):RlV M' v r:=by
 obtain ⟨a,f,e,h1,h2⟩:=h
 exact ⟨a,f,e,h1,h2.grow hg⟩
def RlIn (r:Rl):Prop:=r.1.size<=1000000000000000 /\ r.2.length<=1000000000000000 /\ ∀ x ∈ r.2,FrIn x
theorem RlIn.fr {r:Rl} (h:RlIn r) {k:Nat} (hk:k < r.2.length):FrIn (fe r.2 k):=by rw [z1z hk];exact h.2.2 _ (List.getElem_mem hk)
abbrev rlSh:Sh:=.pair .str (.sl frSh 40)
theorem zop {m:Mem} {r:Rl} {cs:List LV} (h:Enc m rlSh r cs):RlV m (.agg cs) r /\ RlIn r:=by
 obtain ⟨c1,d1,rfl,⟨rfl,hb1⟩,a,f,rfl,h2,h3⟩:=h
 have hb1:r.1.size<=140737488351232:=hb1
 have h2:r.2.length<=140737488351232:=h2.1
 by_cases hl:r.2=[]
 ·refine ⟨⟨a,f,_,rfl,.inl hl⟩,by omega,by omega,fun x hx=>?_⟩
  rw [hl] at hx;cases hx
 ·obtain ⟨i,o,g1,g2,_,g3⟩:=h3 hl
  have key:∀ k (hk:k < r.2.length),(∃ b g u,Rd m i (o+k*3) 3 [I r.2[k].1,I r.2[k].2.1,.slice b r.2[k].2.2.length g u] /\ SlI m b r.2[k].2.2) /\ FrIn r.2[k]:=fun k hk=>by
   obtain ⟨c,g4,g5⟩:=g3 k hk
   obtain ⟨⟨b,g,u,g6,g7⟩,g8⟩:=zoo g5
   injection g6 with g6
   subst g6
   exact ⟨⟨b,g,u,⟨g4,g2⟩,g7⟩,g8⟩
  refine ⟨⟨a,f,_,rfl,.inr ⟨i,o,g1,fun k hk=>(key k hk).1⟩⟩,by omega,by omega,fun x hx=>?_⟩
  obtain ⟨k,hk,rfl⟩:=List.getElem_of_mem hx
  exact (key k hk).2
def keyI (x:Fr):Int:=24*x.1+x.2.1
def rlK (L:List Fr):Nat->Bool
 | 0=>true
 | k+1=>rlK L k && (frB (fe L k) && (decide (k=0) || decide (keyI (fe L (k - 1)) < keyI (fe L k))))
def rlB (r:Rl):Bool:=(nmB r.1 && decide (r.2.length<=128)) && rlK r.2 r.2.length
def errRl (r:Rl):Int:=if rlB r then 0 else 81
theorem zfq (L:List Fr) (k:Nat):rlK L (k+1)=(rlK L k && (frB (fe L k) && (decide (k=0) || decide (keyI (fe L (k - 1)) < keyI (fe L k))))):=rfl
theorem ze9 {L:List Fr}:∀ {n k:Nat},k<=n->rlK L k=false->rlK L n=false
 | 0,k,h,hk=>by obtain rfl:k=0:=by omega
                exact hk
 | n+1,k,h,hk=>by
  by_cases he:k=n+1
  ·subst he;exact hk
  ·rw [zfq,ze9 (n:=n) (by omega) hk];rfl
theorem ze7 {L:List Fr} {k i:Nat} (h:rlK L k=true) (hi:i < k):frB (fe L i)=true:=by
 cases hq:frB (fe L i) with
 | true=>rfl
 | false =>
  rw [ze9 (n:=k) (k:=i+1) (by omega) (by rw [zfq,hq];simp)] at h
  cases h
theorem zjm {r:Rl} {k:Nat} (h:k<=r.2.length) (hk:rlK r.2 k=false):errRl r=81:=by unfold errRl rlB;rw [ze9 h hk,Bool.and_false];rfl
theorem z5u {x:Fr} (h:frB x=true):0<=x.1 /\ x.1<=60000 /\ 0<=x.2.1 /\ x.2.1<=23 /\ smsB x.2.2=true:=by
 unfold frB btB at h
 simp only [Bool.and_eq_true,decide_eq_true_eq] at h
 exact ⟨h.1.1,h.1.2,h.2.1.1,h.2.1.2,h.2.2⟩
def cmpI8 (a b:Int):Int:=if a < b then -1 else if b < a then 1 else 0
def cmpK (a b:Int × Int):Int:=if cmpI8 a.1 b.1 ≠ 0 then cmpI8 a.1 b.1 else cmpI8 a.2 b.2
theorem zmi {x y:Fr} (hx:frB x=true) (hy:frB y=true):decide (cmpK (x.1,x.2.1) (y.1,y.2.1)>=0)=!decide (keyI x < keyI y):=by
 have h1:=z5u hx
 have h2:=z5u hy
 unfold cmpK cmpI8 keyI
 dsimp only
 rw [<-decide_not]
 refine decide_eq_decide.2 ?_
 split<;>split<;>(try split)<;>(try split)<;>omega
end Go.Proofs.YtbmgeagllpganaaGreatDoor.C
end
section
open Go PvL
set_option linter.unusedSimpArgs false
set_option linter.unusedVariables false
namespace Go.Proofs.YtbmgeagllpganaaGreatDoor.C
abbrev Ky:=Int × Int
abbrev kyc (k:Ky):List LV:=[I k.1,I k.2]
def klt (a b:Ky):Prop:=a.1 < b.1 ∨ (a.1=b.1 /\ a.2 < b.2)
instance (a b:Ky):Decidable (klt a b):=by unfold klt;infer_instance
theorem z0a (a b:Ky):cmpK a b < 0 ↔ klt a b:=by
 unfold cmpK cmpI8 klt
 by_cases h1:a.1 < b.1
 ·simp [h1]
 ·by_cases h2:b.1 < a.1
  ·have:¬ a.1=b.1:=by omega
   simp [h1,h2,this]
  ·have:a.1=b.1:=by omega
   simp only [this,Int.lt_irrefl,if_false,ne_eq,not_true,false_or,true_and]
   by_cases h3:a.2 < b.2
   ·simp [h3]
   ·by_cases h4:b.2 < a.2<;>simp [h3,h4]
theorem z0v (a:Ky):¬ klt a a:=by unfold klt;omega
theorem z4j {a b c:Ky} (h:klt a b) (h':klt b c):klt a c:=by unfold klt at *;omega
theorem z6z {a b c:Ky} (h:¬ klt b a) (h':¬ klt c b):¬ klt c a:=by unfold klt at *;omega
theorem z70 {a b:Ky} (h:klt a b):¬ klt b a:=by unfold klt at *;omega
theorem zh6 {a b:Ky} (h:a ≠ b):klt a b ∨ klt b a:=by
 unfold klt
 have:¬ (a.1=b.1 /\ a.2=b.2):=fun ⟨h1,h2⟩=>h (Prod.ext h1 h2)
 omega
def sw (G:Nat->Ky) (i j:Nat):Nat->Ky:=fun t=>if t=j then G i else if t=i then G j else G t
theorem sw_j (G:Nat->Ky) (i j:Nat):sw G i j j=G i:=by unfold sw;rw [if_pos rfl]
theorem sw_i (G:Nat->Ky) (i j:Nat):sw G i j i=G j:=by
 unfold sw
 by_cases h:i=j
 ·subst h;rw [if_pos rfl]
 ·rw [if_neg h,if_pos rfl]
theorem z3j {G:Nat->Ky} {i j t:Nat} (h1:t ≠ i) (h2:t ≠ j):sw G i j t=G t:=by unfold sw;rw [if_neg h2,if_neg h1]
inductive Sw (a b:Nat) (G:Nat->Ky):(Nat->Ky)->Prop
 | refl:Sw a b G G
 | step {G':Nat->Ky} {i j:Nat} (h:Sw a b G G') (h1:a<=i) (h2:i < b) (h3:a<=j) (h4:j < b):Sw a b G (sw G' i j)
theorem Sw.trans {a b:Nat} {G G1 G2:Nat->Ky} (h:Sw a b G G1) (h':Sw a b G1 G2):Sw a b G G2:=by
 induction h' with
 | refl=>exact h
 | step _ h1 h2 h3 h4 ih=>exact .step ih h1 h2 h3 h4
theorem Sw.wider {a b a' b':Nat} {G G1:Nat->Ky} (h:Sw a b G G1) (ha:a'<=a) (hb:b<=b'):Sw a' b' G G1:=by
 induction h with
 | refl=>exact .refl
 | step _ h1 h2 h3 h4 ih=>exact .step ih (by omega) (by omega) (by omega) (by omega)
theorem Sw.one {a b i j:Nat} {G:Nat->Ky} (h1:a<=i) (h2:i < b) (h3:a<=j) (h4:j < b):Sw a b G (sw G i j):=.step .refl h1 h2 h3 h4
theorem Sw.out {a b:Nat} {G G':Nat->Ky} (h:Sw a b G G') {t:Nat} (ht:t < a ∨ b<=t):G' t=G t:=by
 induction h with
 | refl=>rfl
 | step _ h1 h2 h3 h4 ih=>rw [z3j (by omega) (by omega),ih]
theorem Sw.all {a b:Nat} {G G':Nat->Ky} (h:Sw a b G G') {p:Ky->Prop} (hp:∀ t,a<=t->t < b->p (G t)):∀ t,a<=t->t < b->p (G' t):=by
 induction h with
 | refl=>exact hp
 | step _ h1 h2 h3 h4 ih =>
  intro t ht1 ht2
  unfold sw
  split
  ·exact ih _ h1 h2
  ·split
   ·exact ih _ h3 h4
   ·exact ih _ ht1 ht2
def Inj (n:Nat) (G:Nat->Ky):Prop:=∀ i j,i < n->j < n->G i=G j->i=j
theorem Sw.inj {a b n:Nat} {G G':Nat->Ky} (h:Sw a b G G') (hb:b<=n) (hi:Inj n G):Inj n G':=by
 induction h with
 | refl=>exact hi
 | @step G' i j _ h1 h2 h3 h4 ih =>
  intro x y hx hy hxy
  unfold sw at hxy
  by_cases hxj:x=j
  ·by_cases hyj:y=j
   ·omega
   ·rw [if_pos hxj,if_neg hyj] at hxy
    by_cases hyi:y=i
    ·rw [if_pos hyi] at hxy;have:=ih _ _ (by omega) (by omega) hxy;omega
    ·rw [if_neg hyi] at hxy;have:=ih _ _ (by omega) hy hxy;omega
  ·rw [if_neg hxj] at hxy
   by_cases hxi:x=i
   ·rw [if_pos hxi] at hxy
    by_cases hyj:y=j
    ·rw [if_pos hyj] at hxy;have:=ih _ _ (by omega) (by omega) hxy;omega
    ·rw [if_neg hyj] at hxy
     by_cases hyi:y=i
     ·omega
     ·rw [if_neg hyi] at hxy;have:=ih _ _ (by omega) hy hxy;omega
   ·rw [if_neg hxi] at hxy
    by_cases hyj:y=j
    ·rw [if_pos hyj] at hxy;have:=ih _ _ hx (by omega) hxy;omega
    ·rw [if_neg hyj] at hxy
     by_cases hyi:y=i
     ·rw [if_pos hyi] at hxy;have:=ih _ _ hx (by omega) hxy;omega
     ·rw [if_neg hyi] at hxy;exact ih _ _ hx hy hxy
def Srt (a b:Nat) (G:Nat->Ky):Prop:=∀ i j,a<=i->i < j->j < b->¬ klt (G j) (G i)
theorem Srt.short {a b:Nat} {G:Nat->Ky} (h:b<=a+1):Srt a b G:=fun i j h1 h2 h3=>by omega
def Ins (a b j:Nat) (G:Nat->Ky):Prop:=∀ p q,a<=p->p < q->q < b->q ≠ j->¬ klt (G q) (G p)
theorem Ins.start {a i:Nat} {G:Nat->Ky} (h:Srt a i G):Ins a (i+1) i G:=fun p q h1 h2 h3 h4=>h p q h1 h2 (by omega)
theorem Ins.step {a b j:Nat} {G:Nat->Ky} (h:Ins a b (j+1) G) (hj:a<=j) (hlt:klt (G (j+1)) (G j)):Ins a b j (sw G (j+1) j):=by
 intro p q h1 h2 h3 h4
 by_cases hq1:q=j+1
 ·subst hq1
  rw [sw_i]
  by_cases hp:p=j
  ·subst hp;rw [sw_j];exact z70 hlt
  ·rw [z3j (by omega) (by omega)]
   exact h p j h1 (by omega) (by omega) (by omega)
 ·by_cases hq:q<=j
  ·rw [z3j (by omega) (by omega),z3j (by omega) (by omega)]
   exact h p q h1 h2 h3 hq1
  ·rw [show sw G (j+1) j q=G q from z3j (by omega) (by omega)]
   by_cases hp1:p=j+1
   ·subst hp1;rw [sw_i];exact h j q hj (by omega) h3 (by omega)
   ·by_cases hp:p=j
    ·subst hp;rw [sw_j];exact h (p+1) q (by omega) (by omega) h3 (by omega)
    ·rw [z3j hp1 hp];exact h p q h1 h2 h3 (by omega)
theorem Ins.done {a b j:Nat} {G:Nat->Ky} (h:Ins a b j G) (hd:j<=a ∨ ¬ klt (G j) (G (j - 1))):Srt a b G:=by
 intro p q h1 h2 h3
 by_cases hq:q=j
 ·subst hq
  rcases hd with hd|hd
  ·omega
  ·by_cases hp:p=q - 1
   ·subst hp;exact hd
   ·exact z6z (h p (q - 1) h1 (by omega) (by omega) (by omega)) hd
 ·exact h p q h1 h2 h3 hq
end Go.Proofs.YtbmgeagllpganaaGreatDoor.C
end
section

end
section
open PvL
set_option linter.unusedSimpArgs false
set_option linter.unusedVariables false
namespace Go.Proofs.YtbmgeagllpganaaGreatDoor.C
def stepB (c:Int):Int:=if 65535 < shlZ c 1 then xorZ (andZ (shlZ c 1) 65535) 4129 else shlZ c 1
def stepN:Nat->Int->Int
 | 0,c=>c
 | n+1,c=>stepB (stepN n c)
def byteC (c:Int) (b:Nat):Int:=stepN 8 (xorZ c (shlZ (b:Int) 8))
def crcK (s:ByteArray):Nat->Int
 | 0=>65535
 | k+1=>byteC (crcK s k) (byteAt s k)
end Go.Proofs.YtbmgeagllpganaaGreatDoor.C
end
section
open Go PvL Go.Proofs
set_option linter.unusedSimpArgs false
set_option linter.unusedVariables false
namespace Go.Proofs.YtbmgeagllpganaaGreatDoor.C
theorem zg7 (n a b:Int) (M:Mem):CallOk Tryz.prog 22 [I n,I a,I b] M (fun w M'=>w=.bool (decide (a<=n /\ n<=b)) /\ M'=M):=by
 refine zj k22 rfl ?_
 dsimp only [x22,zipE,Nat.reduceAdd]
 (repeat' (first|(with_reducible intro _)|refine sv ?_|(refine sc ?_ ?_<;>(intro h;try first|exact h.elim|exact absurd rfl h|(exfalso;omega)))|(refine sg ?_ ?_<;>(intro h;(fail_if_success (have:True:=h));try first|exact h.elim|exact absurd rfl h|(exfalso;omega)))|assumption|exact xm|exact rfl))
 ·((with_reducible first|apply zi|apply zc);exact rx)
  refine ⟨?_,rfl⟩
  simp [packed];omega
 ·((with_reducible first|apply zi|apply zc);exact rx)
  refine ⟨?_,rfl⟩
  simp [packed];omega
theorem z0e (n a b:Int) (M:Mem):CallOk Tryz.prog 13 [I n,I a,I b] M (fun w M'=>w=.bool (btB n a b) /\ M'=M):=by
 refine zj k13 rfl ?_
 dsimp only [x13,zipE,Nat.reduceAdd]
 (repeat' (first|(with_reducible intro _)|refine sv ?_|(refine sc ?_ ?_<;>(intro h;try first|exact h.elim|exact absurd rfl h|(exfalso;omega)))|(refine sg ?_ ?_<;>(intro h;(fail_if_success (have:True:=h));try first|exact h.elim|exact absurd rfl h|(exfalso;omega)))|assumption|exact xm|exact rfl))
 ·((with_reducible first|apply zi|apply zc);exact rx)
  refine ⟨?_,rfl⟩
  simp [packed,btB];omega
 ·((with_reducible first|apply zi|apply zc);exact rx)
  refine ⟨?_,rfl⟩
  simp [packed,btB];omega
theorem zca (n:Int) (M:Mem):CallOk Tryz.prog 16 [I n] M (fun w M'=>w=.bool (knB n) /\ M'=M):=by
 refine zj k16 rfl ?_
 dsimp only [x16,zipE,Nat.reduceAdd]
 (repeat' (first|(with_reducible intro _)|refine sv ?_|(refine sc ?_ ?_<;>(intro h;try first|exact h.elim|exact absurd rfl h|(exfalso;omega)))|((with_reducible first|apply zx|apply zu|apply zm);exact gd;exact rfl;exact rfl;(first|exact z0e _ _ _ _))|(refine sg ?_ ?_<;>(intro h;(fail_if_success (have:True:=h));try first|exact h.elim|exact absurd rfl h|(exfalso;omega)))|assumption|exact xm|exact rfl))
 ((with_reducible first|apply zi|apply zc);exact rx)
 exact ⟨rfl,rfl⟩
theorem zje (n:Int) (M:Mem):CallOk Tryz.prog 46 [I n] M (fun w M'=>w=.bool (smB n) /\ M'=M):=by
 refine zj k46 rfl ?_
 dsimp only [x46,zipE,Nat.reduceAdd]
 unfold smB
 cases hk:knB n with
 | true =>
  have hc:∀ M,CallOk Tryz.prog 16 [I n] M (fun w M'=>w=.bool true /\ M'=M):=fun M=>by rw [<-hk];exact zca n M
  (repeat' (first|(with_reducible intro _)|refine sv ?_|(refine sc ?_ ?_<;>(intro h;try first|exact h.elim|exact absurd rfl h|(exfalso;omega)))|((with_reducible first|apply zx|apply zu|apply zm);exact gd;exact rfl;exact rfl;(first|exact hc _))|(refine sg ?_ ?_<;>(intro h;(fail_if_success (have:True:=h));try first|exact h.elim|exact absurd rfl h|(exfalso;omega)))|assumption|exact xm|exact rfl))
  ((with_reducible first|apply zi|apply zc);exact rx)
  exact ⟨rfl,rfl⟩
 | false =>
  have hc:∀ M,CallOk Tryz.prog 16 [I n] M (fun w M'=>w=.bool false /\ M'=M):=fun M=>by rw [<-hk];exact zca n M
  (repeat' (first|(with_reducible intro _)|refine sv ?_|(refine sc ?_ ?_<;>(intro h;try first|exact h.elim|exact absurd rfl h|(exfalso;omega)))|((with_reducible first|apply zx|apply zu|apply zm);exact gd;exact rfl;exact rfl;(first|exact hc _))|(refine sg ?_ ?_<;>(intro h;(fail_if_success (have:True:=h));try first|exact h.elim|exact absurd rfl h|(exfalso;omega)))|assumption|exact xm|exact rfl))
  all_goals (((with_reducible first|apply zi|apply zc);exact rx);refine ⟨?_,rfl⟩;simp [packed];try omega)
theorem z48 (n:Int) (M:Mem):CallOk Tryz.prog 45 [I n] M (fun w M'=>w=.bool (!smB n) /\ M'=M):=by
 refine zj k45 rfl ?_
 dsimp only [x45,zipE,Nat.reduceAdd]
 (repeat' (first|(with_reducible intro _)|refine sv ?_|(refine sc ?_ ?_<;>(intro h;try first|exact h.elim|exact absurd rfl h|(exfalso;omega)))|((with_reducible first|apply zx|apply zu|apply zm);exact gd;exact rfl;exact rfl;(first|exact zje _ _))|(refine sg ?_ ?_<;>(intro h;(fail_if_success (have:True:=h));try first|exact h.elim|exact absurd rfl h|(exfalso;omega)))|assumption|exact xm|exact rfl))
 ((with_reducible first|apply zi|apply zc);exact rx)
 exact ⟨rfl,rfl⟩
theorem z97 {n:Nat} {p:Nat->Bool}:(List.range n).any p=true ↔ ∃ j,j < n /\ p j=true:=by
 rw [List.any_eq_true]
 exact ⟨fun ⟨j,h1,h2⟩=>⟨j,List.mem_range.1 h1,h2⟩,fun ⟨j,h1,h2⟩=>⟨j,List.mem_range.2 h1,h2⟩⟩
set_option maxHeartbeats 1000000 in
theorem zc7 {a:Option (Nat × Nat)} {n:Nat} {f:Bool} {e:Nat} {g:FuncId} {fi ca:List LV} {M:Mem} (elem:Nat->LV) (p:Nat->Bool) (hn:n<=1000000000000000)
  (hread:∀ k,k < n->∃ i o,a=some (i,o) /\ Rd1 M i (o+k*1) (elem k)) (hp:∀ k,k < n->∀ M',Grow M M'->CallOk Tryz.prog g (fi ++ [elem k] ++ ca) M' (fun w M''=>w=.bool (p k) /\ M''=M')) :
  CallOk Tryz.prog 30 [.slice a n f e,.func (.func g) fi ca] M (fun w M'=>∃ r:Int,w=I r /\ (0<=r ↔ (List.range n).any p=true) /\ M'=M):=by
 refine zj k30 rfl ?_
 dsimp only [x30,zipE,Nat.reduceAdd]
 (repeat' (first|(with_reducible intro _)|refine sv ?_|(refine sc ?_ ?_<;>(intro h;try first|exact h.elim|exact absurd rfl h|(exfalso;omega)))|(refine sg ?_ ?_<;>(intro h;(fail_if_success (have:True:=h));try first|exact h.elim|exact absurd rfl h|(exfalso;omega)))|assumption|exact xm|exact rfl))
 refine zg (fun m E ms M'=>∃ k:Nat,m=n - k /\ k<=n /\ ms=[] /\ Has E [(0,.slice a n f e),(1,.func (.func g) fi ca),(7,I n),(8,I k)] /\ M'=M /\ ∀ j,j < k->p j=false)
  ?_ n _ _ _ ⟨0,by omega,by omega,rfl,.cons rfl (.cons rfl (.cons rfl (.cons rfl .nil))),rfl,fun j hj=>absurd hj (Nat.not_lt_zero _)⟩
 rintro m E ms M1 ⟨k,rfl,hk,rfl,hE,rfl,hall⟩
 refine z02 hE ?_
 by_cases hlast:k=n
 ·subst hlast
  (repeat' (first|(with_reducible intro _)|refine sv ?_|(refine sc ?_ ?_<;>(intro h;try first|exact h.elim|exact absurd rfl h|(exfalso;omega)))|(refine sg ?_ ?_<;>(intro h;(fail_if_success (have:True:=h));try first|exact h.elim|exact absurd rfl h|(exfalso;omega)))|assumption|exact xm|exact rfl))
  ((with_reducible first|apply zi|apply zc);exact rx)
  refine ⟨-1,rfl,?_,rfl⟩
  rw [z97]
  exact ⟨fun h=>by omega,fun ⟨j,h1,h2⟩=>by rw [hall j h1] at h2;cases h2⟩
 have hlt:k < n:=by omega
 obtain ⟨i,o,rfl,hr⟩:=hread k hlt
 have hc:=hp k hlt M1 (Grow.refl _)
 cases hpk:p k with
 | true =>
  rw [hpk] at hc
  (have hrd0:=hr;repeat' (first|(with_reducible intro _)|refine sv ?_|(refine sc ?_ ?_<;>(intro h;try first|exact h.elim|exact absurd rfl h|(exfalso;omega)))|((with_reducible first|apply zx|apply zu|apply zm);exact gd;exact rfl;exact rfl;(first|exact hc))|(refine sg ?_ ?_<;>(intro h;(fail_if_success (have:True:=h));try first|exact h.elim|exact absurd rfl h|(exfalso;omega)))|assumption|exact xm|exact rfl))
  ((with_reducible first|apply zi|apply zc);exact rx)
  refine ⟨k,rfl,?_,rfl⟩
  rw [z97]
  exact ⟨fun _=>⟨k,hlt,hpk⟩,fun _=>by omega⟩
 | false =>
  rw [hpk] at hc
  (have hrd0:=hr;repeat' (first|(with_reducible intro _)|refine sv ?_|(refine sc ?_ ?_<;>(intro h;try first|exact h.elim|exact absurd rfl h|(exfalso;omega)))|((with_reducible first|apply zx|apply zu|apply zm);exact gd;exact rfl;exact rfl;(first|exact hc))|(refine sg ?_ ?_<;>(intro h;(fail_if_success (have:True:=h));try first|exact h.elim|exact absurd rfl h|(exfalso;omega)))|assumption|exact xm|exact rfl))
  refine zk (n - (k+1)) (by omega) ⟨k+1,rfl,by omega,rfl,.cons rfl (.cons rfl (.cons rfl (.cons rfl .nil))),rfl,fun j hj=>?_⟩
  by_cases hjk:j=k
  ·subst hjk;exact hpk
  ·exact hall j (by omega)
theorem z7z {a:Option (Nat × Nat)} {n:Nat} {f:Bool} {e:Nat} {g:FuncId} {fi ca:List LV} {M:Mem} (elem:Nat->LV) (p:Nat->Bool) (hn:n<=1000000000000000)
  (hread:∀ k,k < n->∃ i o,a=some (i,o) /\ Rd1 M i (o+k*1) (elem k)) (hp:∀ k,k < n->∀ M',Grow M M'->CallOk Tryz.prog g (fi ++ [elem k] ++ ca) M' (fun w M''=>w=.bool (p k) /\ M''=M')) :
  CallOk Tryz.prog 14 [.slice a n f e,.func (.func g) fi ca] M (fun w M'=>w=.bool ((List.range n).any p) /\ M'=M):=by
 refine zj k14 rfl ?_
 dsimp only [x14,zipE,Nat.reduceAdd]
 have hc:=zc7 (f:=f) (e:=e) elem p hn hread hp
 (repeat' (first|(with_reducible intro _)|refine sv ?_|(refine sc ?_ ?_<;>(intro h;try first|exact h.elim|exact absurd rfl h|(exfalso;omega)))|((with_reducible first|apply zw|apply zy|apply zn);exact gd;exact rfl;exact rfl;(first|exact hc))|(refine sg ?_ ?_<;>(intro h;(fail_if_success (have:True:=h));try first|exact h.elim|exact absurd rfl h|(exfalso;omega)))|assumption|exact xm|exact rfl))
 rename_i hq
 obtain ⟨r,rfl,hr,rfl⟩:=hq
 (repeat' (first|(with_reducible intro _)|refine sv ?_|(refine sc ?_ ?_<;>(intro h;try first|exact h.elim|exact absurd rfl h|(exfalso;omega)))|(refine sg ?_ ?_<;>(intro h;(fail_if_success (have:True:=h));try first|exact h.elim|exact absurd rfl h|(exfalso;omega)))|assumption|exact xm|exact rfl))
 ((with_reducible first|apply zi|apply zc);exact rx)
 refine ⟨?_,rfl⟩
 exact congrArg LV.bool (by rw [Bool.eq_iff_iff,decide_eq_true_iff];exact hr)
theorem z8b {a:Option (Nat × Nat)} {l:List Int} {f:Bool} {e:Nat} {g:FuncId} {fi ca:List LV} {M:Mem} (p:Int->Bool) (hn:l.length<=1000000000000000) (hs:SlI M a l)
  (hp:∀ n ∈ l,CallOk Tryz.prog g (fi ++ [I n] ++ ca) M (fun w M''=>w=.bool (p n) /\ M''=M)) (hp':∀ n ∈ l,∀ M',Grow M M'->CallOk Tryz.prog g (fi ++ [I n] ++ ca) M' (fun w M''=>w=.bool (p n) /\ M''=M')) :
  CallOk Tryz.prog 14 [.slice a l.length f e,.func (.func g) fi ca] M (fun w M'=>w=.bool (l.any p) /\ M'=M):=by
 have:=z7z (f:=f) (e:=e) (g:=g) (fi:=fi) (ca:=ca) (M:=M) (a:=a) (n:=l.length) (fun k=>I (l.getD k 0)) (fun k=>p (l.getD k 0)) hn (fun k hk=>by
  obtain ⟨i,o,h1,h2⟩:=hs.rd hk
  exact ⟨i,o,h1,by rw [List.getD_eq_getElem?_getD,List.getElem?_eq_getElem hk];exact h2⟩) (fun k hk M' hg=>hp' _ (by rw [List.getD_eq_getElem?_getD,List.getElem?_eq_getElem hk];exact List.getElem_mem hk) M' hg)
 have e1:(List.range l.length).any (fun k=>p (l.getD k 0))=l.any p:=by
  rw [Bool.eq_iff_iff,z97,List.any_eq_true]
  constructor
  ·rintro ⟨j,h1,h2⟩
   refine ⟨l[j],List.getElem_mem h1,?_⟩
   rw [List.getD_eq_getElem?_getD,List.getElem?_eq_getElem h1] at h2;exact h2
  ·rintro ⟨x,h1,h2⟩
   obtain ⟨j,h3,rfl⟩:=List.getElem_of_mem h1
   exact ⟨j,h3,by rw [List.getD_eq_getElem?_getD,List.getElem?_eq_getElem h3];exact h2⟩
 rw [e1] at this;exact this
theorem zg2 {l:List Int} {p:Int->Bool}:l.any (fun n=>!p n)=!l.all p:=by
 induction l with
 | nil=>rfl
 | cons x xs ih=>simp only [List.any_cons,List.all_cons,ih];cases p x<;>simp
set_option maxHeartbeats 1000000 in
theorem zao {M:Mem} {v:LV} {x:Fr} (hv:FrV M v x) (hin:FrIn x):CallOk Tryz.prog 27 [v] M (fun w M'=>w=I (errF x) /\ Grow M M'):=by
 obtain ⟨a,f,e,rfl,hs⟩:=hv
 refine zj k27 rfl ?_
 dsimp only [x27,zipE,Nat.reduceAdd]
 have hc:∀ M',Grow M M'->CallOk Tryz.prog 14 [.slice a x.2.2.length f e,.func (.func 45) [] []] M' (fun w M''=>w=.bool (!x.2.2.all smB) /\ M''=M'):=fun M' hg=>by
  have:=z8b (f:=f) (e:=e) (g:=45) (fi:=[]) (ca:=[]) (M:=M') (fun n=>!smB n) hin.2.2.1 (hs.grow hg) (fun n _=>z48 n M') (fun n _ M2 _=>z48 n M2)
  rw [zg2] at this;exact this
 (repeat' (first|(with_reducible intro _)|refine sv ?_|(refine sc ?_ ?_<;>(intro h;try first|exact h.elim|exact absurd rfl h|(exfalso;omega)))|((with_reducible first|apply zx|apply zu|apply zm);exact gd;exact rfl;exact rfl;(first|exact z0e _ _ _ _|exact hc _ (xg)))|(refine sg ?_ ?_<;>(intro h;(fail_if_success (have:True:=h));try first|exact h.elim|exact absurd rfl h|(exfalso;omega)))|assumption|exact xm|exact rfl))
 all_goals (((with_reducible first|apply zi|apply zc);exact rx);refine ⟨?_,xg⟩;simp_all [packed,errF,frB,smsB])
theorem zoe {M:Mem} {a:Option (Nat × Nat)} {l:List Int} {f:Bool} {e k:Nat} (hs:SlI M a l):CallOk Tryz.prog 72 [.slice a l.length f e,I k] M (fun w M'=>w=I (getG l k) /\ M'=M):=by
 refine zj k72 rfl ?_
 dsimp only [x72,zipE,Nat.reduceAdd]
 by_cases hk:k < l.length
 ·obtain ⟨i,o,rfl,hr⟩:=hs.rd hk
  rw [z11 hk]
  (have hrd0:=hr;repeat' (first|(with_reducible intro _)|refine sv ?_|(refine sc ?_ ?_<;>(intro h;try first|exact h.elim|exact absurd rfl h|(exfalso;omega)))|(refine sg ?_ ?_<;>(intro h;(fail_if_success (have:True:=h));try first|exact h.elim|exact absurd rfl h|(exfalso;omega)))|assumption|exact xm|exact rfl))
  ((with_reducible first|apply zi|apply zc);exact rx)
  exact ⟨rfl,rfl⟩
 ·rw [z2h (by omega)]
  (repeat' (first|(with_reducible intro _)|refine sv ?_|(refine sc ?_ ?_<;>(intro h;try first|exact h.elim|exact absurd rfl h|(exfalso;omega)))|(refine sg ?_ ?_<;>(intro h;(fail_if_success (have:True:=h));try first|exact h.elim|exact absurd rfl h|(exfalso;omega)))|assumption|exact xm|exact rfl))
  ((with_reducible first|apply zi|apply zc);exact rx)
  exact ⟨rfl,rfl⟩
theorem zjd {M:Mem} (a b:Int):CallOk Tryz.prog 73 [I a,I b,I 40000,I 40001] M (fun w M'=>w=I (joinI a b) /\ M'=M):=by
 refine zj k73 rfl ?_
 dsimp only [x73,zipE,Nat.reduceAdd]
 (repeat' (first|(with_reducible intro _)|refine sv ?_|(refine sc ?_ ?_<;>(intro h;try first|exact h.elim|exact absurd rfl h|(exfalso;omega)))|(refine sg ?_ ?_<;>(intro h;(fail_if_success (have:True:=h));try first|exact h.elim|exact absurd rfl h|(exfalso;omega)))|assumption|exact xm|exact rfl))
 all_goals (((with_reducible first|apply zi|apply zc);exact rx);refine ⟨?_,rfl⟩;simp_all [packed,joinI])
set_option maxHeartbeats 2000000 in
theorem zoc {M:Mem} {a b:Option (Nat × Nat)} {la lb:List Int} {fa fb:Bool} {ea eb:Nat} (ha:SlI M a la) (hb:SlI M b lb) (hla:la.length<=1000000) (hlb:lb.length<=1000000) :
  CallOk Tryz.prog 41 [.slice a la.length fa ea,.slice b lb.length fb eb] M (fun w M'=>Vec M.next 1 3 intc M' w (bothL la lb) /\ Grow M M'):=by
 refine zj k41 rfl ?_
 dsimp only [x41,zipE,Nat.reduceAdd]
 (repeat' (first|(with_reducible intro _)|refine sv ?_|(refine sc ?_ ?_<;>(intro h;try first|exact h.elim|exact absurd rfl h|(exfalso;omega)))|(refine sg ?_ ?_<;>(intro h;(fail_if_success (have:True:=h));try first|exact h.elim|exact absurd rfl h|(exfalso;omega)))|assumption|exact xm|exact rfl))
 have hN:iMax (la.length:Int) (lb.length:Int)=((max la.length lb.length:Nat):Int):=zjr _ _
 generalize hNN:max la.length lb.length=N at hN
 have hlen:(bothL la lb).length=N:=by rw [z0r,hNN]
 refine zg (fun m E ms M'=>∃ (k:Nat) (v:LV),m=N - k /\ k<=N /\ ms=[] /\ Has E [(0,.slice a la.length fa ea),(1,.slice b lb.length fb eb),(5,.func (.func 72) [] []),(6,v),(12,I N),(13,I k)] /\ Vec M.next 1 3 intc M' v ((bothL la lb).take k) /\ Grow M M' /\ M.next<=M'.next)
  ?_ N _ _ _ ⟨0,_,by omega,by omega,rfl,.cons rfl (.cons rfl (.cons rfl (.cons rfl (.cons (by rw [<-hN];rfl) (.cons rfl .nil))))),by rw [List.take_zero];exact Vec.nil,xg,Nat.le_refl _⟩
 rintro n E ms M' ⟨k,v,rfl,hk,rfl,hE,hv,hg,hle⟩
 refine z02 hE ?_
 by_cases hlast:k=N
 ·subst hlast
  (repeat' (first|(with_reducible intro _)|refine sv ?_|(refine sc ?_ ?_<;>(intro h;try first|exact h.elim|exact absurd rfl h|(exfalso;omega)))|(refine sg ?_ ?_<;>(intro h;(fail_if_success (have:True:=h));try first|exact h.elim|exact absurd rfl h|(exfalso;omega)))|assumption|exact xm|exact rfl))
  ((with_reducible first|apply zi|apply zc);exact rx)
  rw [List.take_of_length_le (by omega)] at hv
  exact ⟨hv,hg⟩
 ·have hlt:k < N:=by omega
  have ha':=ha.grow hg
  have hb':=hb.grow hg
  (repeat' (first|(with_reducible intro _)|refine sv ?_|(refine sc ?_ ?_<;>(intro h;try first|exact h.elim|exact absurd rfl h|(exfalso;omega)))|((with_reducible first|apply zx|apply zu|apply zm);exact gd;exact rfl;exact rfl;(first|exact zoe ha' | exact zoe hb' | exact zjd _ _))|(refine sg ?_ ?_<;>(intro h;(fail_if_success (have:True:=h));try first|exact h.elim|exact absurd rfl h|(exfalso;omega)))|assumption|exact xm|exact rfl))
  rename_i m M2 hn e1 e2
  have hv2:=hv.grow hn.grow
  have htl:((bothL la lb).take k).length=k:=by rw [List.length_take];omega
  refine z7u (by exact gd) (l':=[joinI (getG la k) (getG lb k)]) hv2 rfl rfl rfl (by simp) (by rw [htl,List.length_singleton];omega) rfl (zbi hn) (fun _=>rfl) (fun _=>rfl) (by omega) ?_
  intro v' M3 hv3 e3 hk3
  have hg3:Grow M M3:=Keep.to_grow' (hg.trans hn.grow) hk3 (fun i hi=>hi.1)
  (repeat' (first|(with_reducible intro _)|refine sv ?_|(refine sc ?_ ?_<;>(intro h;try first|exact h.elim|exact absurd rfl h|(exfalso;omega)))|(refine sg ?_ ?_<;>(intro h;(fail_if_success (have:True:=h));try first|exact h.elim|exact absurd rfl h|(exfalso;omega)))|assumption|exact xm|exact rfl))
  refine zk (N - (k+1)) (by omega) ⟨k+1,v',rfl,by omega,rfl,.cons rfl (.cons rfl (.cons rfl (.cons rfl (.cons rfl (.cons rfl .nil))))),?_,hg3,by omega⟩
  rw [zem (by omega)];exact hv3
theorem zc9 {M:Mem} {v:LV} {x:Fr} (hv:FrV M v x):CallOk Tryz.prog 29 [v] M (fun w M'=>w=.agg [I x.1,I x.2.1] /\ Grow M M'):=by
 obtain ⟨a,f,e,rfl,hs⟩:=hv
 refine zj k29 rfl ?_
 dsimp only [x29,zipE,Nat.reduceAdd]
 (repeat' (first|(with_reducible intro _)|refine sv ?_|(refine sc ?_ ?_<;>(intro h;try first|exact h.elim|exact absurd rfl h|(exfalso;omega)))|(refine sg ?_ ?_<;>(intro h;(fail_if_success (have:True:=h));try first|exact h.elim|exact absurd rfl h|(exfalso;omega)))|assumption|exact xm|exact rfl))
 ((with_reducible first|apply zi|apply zc);exact rx)
 exact ⟨rfl,xg⟩
abbrev zFr:Fr:=(0,0,[])
def joinF (x y:Fr):Fr × Int :=
 if errF x=0 then (if errF y=0 then (if x.1=y.1 /\ x.2.1=y.2.1 then ((x.1,x.2.1,bothL x.2.2 y.2.2),0) else (zFr,2)) else (zFr,errF y)) else (zFr,errF x)
theorem zgq {x:Fr} (h:errF x=0):0<=x.1 /\ x.1<=60000 /\ 0<=x.2.1 /\ x.2.1<=23 /\ 1<=x.2.2.length /\ x.2.2.length<=64 /\ x.2.2.all smB=true:=by
 unfold errF at h
 cases hb:frB x with
 | false=>rw [hb] at h;simp at h
 | true =>
  unfold frB smsB btB at hb
  simp only [Bool.and_eq_true,decide_eq_true_eq] at hb
  obtain ⟨⟨h1,h2⟩,⟨h3,h4⟩,⟨h5,h6⟩,h7⟩:=hb
  exact ⟨h1,h2,h3,h4,by omega,by omega,h7⟩
theorem zf5 (a:Int):joinI a a=a:=by unfold joinI;simp
theorem zf4 (a b:Int):joinI a b=joinI b a:=by unfold joinI;split<;>split<;>(try split)<;>omega
theorem zck (a b c:Int):joinI (joinI a b) c=joinI a (joinI b c):=by
 unfold joinI
 by_cases h1:a=b<;>by_cases h2:b=40000<;>by_cases h3:a=40000<;>by_cases h4:c=40000<;>by_cases h5:b=c<;>by_cases h6:a=c<;>simp_all<;>(split<;>simp_all)
theorem z1k (a b:List Int) (k:Nat):getG (bothL a b) k=joinI (getG a k) (getG b k):=by
 by_cases hk:k < max a.length b.length
 ·rw [z11 (by rw [z0r];exact hk)]
  unfold bothL
  simp
 ·rw [z2h (by rw [z0r];omega),z2h (l:=a) (by omega),z2h (l:=b) (by omega)];rfl
theorem z67 {a b:List Int} (hl:a.length=b.length) (h:∀ k,getG a k=getG b k):a=b:=by
 refine List.ext_getElem hl fun k h1 h2=>?_
 have:=h k
 rw [z11 h1,z11 h2] at this;exact this
theorem z87 (a b:List Int):bothL a b=bothL b a :=
 z67 (by rw [z0r,z0r];omega) fun k=>by rw [z1k,z1k,zf4]
theorem z88 (a:List Int):bothL a a=a :=
 z67 (by rw [z0r];omega) fun k=>by rw [z1k,zf5]
theorem zc5 (a b c:List Int):bothL (bothL a b) c=bothL a (bothL b c) :=
 z67 (by simp only [z0r];omega) fun k=>by simp only [z1k];exact zck _ _ _
theorem zlv {l:List Int} (h:l.all smB=true) (k:Nat):smB (getG l k)=true:=by
 by_cases hk:k < l.length
 ·rw [z11 hk];exact List.all_eq_true.1 h _ (List.getElem_mem hk)
 ·rw [z2h (by omega)];rfl
theorem zng {a b:Int} (ha:smB a=true) (hb:smB b=true):smB (joinI a b)=true:=by
 unfold joinI
 split
 ·exact ha
 ·split
  ·exact hb
  ·rfl
theorem znf {a b:List Int} (ha:a.all smB=true) (hb:b.all smB=true):(bothL a b).all smB=true:=by
 rw [List.all_eq_true]
 intro x hx
 unfold bothL at hx
 obtain ⟨k,_,rfl⟩:=List.mem_map.1 hx
 exact zng (zlv ha k) (zlv hb k)
theorem zpl {n:Int} (h:smB n=true):-32767<=n /\ n<=40001:=by
 unfold smB knB at h
 simp only [Bool.or_eq_true,decide_eq_true_eq] at h
 omega
theorem zqz {x:Fr} (h:errF x=0):FrIn x:=by
 obtain ⟨h1,h2,h3,h4,h5,h6,h7⟩:=zgq h
 refine ⟨⟨by omega,by omega⟩,⟨by omega,by omega⟩,by omega,fun n hn=>?_⟩
 have:=zpl (List.all_eq_true.1 h7 n hn)
 exact ⟨by omega,by omega⟩
def joinOk (x y:Fr):Prop:=errF x=0 /\ errF y=0 /\ x.1=y.1 /\ x.2.1=y.2.1
abbrev jo (x y:Fr):Fr:=(x.1,x.2.1,bothL x.2.2 y.2.2)
end Go.Proofs.YtbmgeagllpganaaGreatDoor.C
end
section
open Go PvL
set_option linter.unusedSimpArgs false
set_option linter.unusedVariables false
namespace Go.Proofs.YtbmgeagllpganaaGreatDoor.C
abbrev Rk:=List (Ky × List Int)
abbrev fky (x:Fr):Ky:=(x.1,x.2.1)
def lkK:Rk->Ky->Option (List Int)
 | [],_=>none
 |(a,b) :: L,k=>if k=a then some b else lkK L k
def stK:Rk->Ky->List Int->Rk
 | [],k,v=>[(k,v)]
 |(a,b) :: L,k,v=>if k=a then (k,v) :: L else (a,b) :: stK L k v
theorem zh9:∀ (L:Rk) (k:Ky) (v:List Int) (k':Ky),lkK (stK L k v) k'=if k'=k then some v else lkK L k'
 | [],k,v,k'=>rfl
 |(a,b) :: L,k,v,k'=>by
  unfold stK
  by_cases h:k=a
  ·subst h
   rw [if_pos rfl]
   show (if k'=k then some v else lkK L k')=if k'=k then some v else (if k'=k then some b else lkK L k')
   by_cases h2:k'=k
   ·rw [if_pos h2,if_pos h2]
   ·rw [if_neg h2,if_neg h2,if_neg h2]
  ·rw [if_neg h]
   show (if k'=a then some b else lkK (stK L k v) k')=if k'=k then some v else (if k'=a then some b else lkK L k')
   rw [zh9 L k v k']
   by_cases h2:k'=a
   ·subst h2
    rw [if_pos rfl,if_neg (fun h3=>h h3.symm),if_pos rfl]
   ·rw [if_neg h2,if_neg h2]
theorem zd6:∀ (L:Rk) (k:Ky) (v:List Int),(stK L k v).map (·.1)=if (lkK L k).isSome then L.map (·.1) else L.map (·.1) ++ [k]
 | [],k,v=>rfl
 |(a,b) :: L,k,v=>by
  unfold stK
  by_cases h:k=a
  ·subst h
   rw [if_pos rfl]
   have:lkK ((k,b) :: L) k=some b:=by show (if k=k then some b else lkK L k)=_;rw [if_pos rfl]
   rw [this];rfl
  ·have e:lkK ((a,b) :: L) k=lkK L k:=by show (if k=a then some b else lkK L k)=_;rw [if_neg h]
   rw [if_neg h,e,List.map_cons,zd6 L k v]
   split<;>rfl
theorem zha:∀ (L:Rk) (k:Ky),(lkK L k).isSome=true ↔ k ∈ L.map (·.1)
 | [],k=>by simp [lkK]
 |(a,b) :: L,k=>by
  by_cases h:k=a
  ·subst h
   have:lkK ((k,b) :: L) k=some b:=by show (if k=k then some b else lkK L k)=_;rw [if_pos rfl]
   rw [this];simp
  ·have e:lkK ((a,b) :: L) k=lkK L k:=by show (if k=a then some b else lkK L k)=_;rw [if_neg h]
   rw [e,zha L k];simp [h]
def RkN (L:Rk):Prop:=(L.map (·.1)).Nodup
theorem RkN.st {L:Rk} (h:RkN L) (k:Ky) (v:List Int):RkN (stK L k v):=by
 unfold RkN at *
 rw [zd6]
 split
 ·exact h
 ·rename_i hn
  have:k ∉ L.map (·.1):=fun hk=>hn ((zha L k).2 hk)
  rw [List.nodup_append]
  exact ⟨h,by simp,fun a ha b hb=>by
   obtain rfl:b=k:=by simpa using hb
   rintro rfl;exact this ha⟩
def rkA (R:Rk) (f:Fr):Rk:=stK R (fky f) (bothL ((lkK R (fky f)).getD []) f.2.2)
def addR:List Fr->Fr->List Fr
 | [],f=>[f]
 | g :: l,f=>if keyI g=keyI f then (g.1,g.2.1,bothL g.2.2 f.2.2) :: l else if keyI g > keyI f then f :: g :: l else g :: addR l f
def joinedR (l:List Fr):List Fr:=l.foldl addR []
def rackF (l:List Fr):Rk:=l.foldl rkA []
theorem z6f (l:List Int):bothL [] l=l:=by
 refine z67 ?_ fun k=>?_
 ·rw [z0r];simp
 ·rw [z1k]
  have:getG [] k=40000:=rfl
  rw [this]
  unfold joinI
  split
  ·rename_i h;rcases h with h|h
   ·exact h
   ·exact h.symm
  ·rw [if_pos rfl]
def FrK (x:Fr):Prop:=0<=x.1 /\ x.1<=60000 /\ 0<=x.2.1 /\ x.2.1<=23
theorem z9m {x y:Fr} (hx:FrK x) (hy:FrK y):keyI x < keyI y ↔ klt (fky x) (fky y):=by unfold FrK keyI klt at *;dsimp only;omega
theorem zh2 {x y:Fr} (hx:FrK x) (hy:FrK y):keyI x=keyI y ↔ fky x=fky y:=by
 unfold FrK keyI at *
 constructor
 ·intro h;exact Prod.ext (by dsimp only;omega) (by dsimp only;omega)
 ·intro h
  have h1:(fky x).1=(fky y).1:=congrArg Prod.fst h
  have h2:(fky x).2=(fky y).2:=congrArg Prod.snd h
  dsimp only at h1 h2
  omega
def lkJ:List Fr->Ky->Option (List Int)
 | [],_=>none
 | x :: l,k=>if k=fky x then some x.2.2 else lkJ l k
theorem z72 (x:Fr) (l:List Fr) (k:Ky):lkJ (x :: l) k=if k=fky x then some x.2.2 else lkJ l k:=rfl
theorem z73:∀ (J:List Fr) (k:Ky),(lkJ J k).isSome=true ↔ k ∈ J.map fky
 | [],k=>by simp [lkJ]
 | x :: J,k=>by
  rw [z72]
  by_cases h:k=fky x
  ·rw [if_pos h];simp [h]
  ·rw [if_neg h,z73 J k];simp [h]
def SrtJ (J:List Fr):Prop:=J.Pairwise fun x y=>klt (fky x) (fky y)
theorem zh8 {J:List Fr} {k:Ky} (h:∀ x ∈ J,klt k (fky x)):lkJ J k=none:=by
 induction J with
 | nil=>rfl
 | cons x J ih =>
  rw [z72,if_neg (fun e=>z0v (fky x) (by have:=h x (by simp);rw [e] at this;exact this))]
  exact ih fun y hy=>h y (by simp [hy])
theorem zc2:∀ {J:List Fr} {f:Fr},SrtJ J->(∀ x ∈ J,FrK x)->FrK f->SrtJ (addR J f) /\ (∀ x ∈ addR J f,FrK x) /\ (∀ k,lkJ (addR J f) k=if k=fky f then some (bothL ((lkJ J (fky f)).getD []) f.2.2) else lkJ J k) /\ (∀ x ∈ addR J f,fky x=fky f ∨ ∃ y ∈ J,fky y=fky x)
 | [],f,_,_,hf=>by
  have hm:∀ {x},x ∈ addR [] f->x=f:=fun {x} hx=>by
   have hx:x ∈ [f]:=hx
   simpa using hx
  refine ⟨?_,fun x hx=>?_,fun k=>?_,fun x hx=>?_⟩
  ·show List.Pairwise _ [f]
   simp
  ·rw [hm hx];exact hf
  ·show lkJ [f] k=if k=fky f then some (bothL [] f.2.2) else none
   rw [z6f];rfl
  ·rw [hm hx];exact .inl rfl
 | g :: l,f,hs,hk,hf=>by
  have hg:=hk g (by simp)
  have hs':SrtJ l:=(List.pairwise_cons.1 hs).2
  have hgl:=(List.pairwise_cons.1 hs).1
  unfold addR
  by_cases he:keyI g=keyI f
  ·rw [if_pos he]
   have hke:=(zh2 hg hf).1 he
   refine ⟨List.pairwise_cons.2 ⟨hgl,hs'⟩,fun x hx=>?_,fun k=>?_,fun x hx=>?_⟩
   ·rcases List.mem_cons.1 hx with rfl|hx
    ·exact hg
    ·exact hk x (by simp [hx])
   ·rw [z72,z72,z72,if_pos hke.symm,Option.getD_some]
    by_cases h:k=fky f
    ·rw [if_pos h,if_pos (show k=(g.1,g.2.1) by rw [h];exact hke.symm)]
    ·rw [if_neg h,if_neg (show ¬ k=(g.1,g.2.1) from fun e=>h (by rw [e];exact hke)),if_neg (fun e=>h (by rw [e];exact hke))]
   ·rcases List.mem_cons.1 hx with rfl|hx
    ·exact .inl hke
    ·exact .inr ⟨x,by simp [hx],rfl⟩
  ·rw [if_neg he]
   by_cases hgt:keyI g > keyI f
   ·rw [if_pos hgt]
    have hlt:=(z9m hf hg).1 hgt
    have hall:∀ x ∈ g :: l,klt (fky f) (fky x):=fun x hx=>by
     rcases List.mem_cons.1 hx with rfl|hx
     ·exact hlt
     ·exact z4j hlt (hgl x hx)
    refine ⟨List.pairwise_cons.2 ⟨hall,hs⟩,fun x hx=>?_,fun k=>?_,fun x hx=>?_⟩
    ·rcases List.mem_cons.1 hx with rfl|hx
     ·exact hf
     ·exact hk x hx
    ·rw [zh8 hall,Option.getD_none,z6f];rfl
    ·rcases List.mem_cons.1 hx with rfl|hx
     ·exact .inl rfl
     ·exact .inr ⟨x,hx,rfl⟩
   ·rw [if_neg hgt]
    have hlt:=(z9m hg hf).1 (by omega)
    have hne:¬ fky f=fky g:=fun e=>he ((zh2 hg hf).2 e.symm)
    obtain ⟨i1,i2,i3,i4⟩:=zc2 (J:=l) (f:=f) hs' (fun x hx=>hk x (by simp [hx])) hf
    refine ⟨List.pairwise_cons.2 ⟨fun x hx=>?_,i1⟩,fun x hx=>?_,fun k=>?_,fun x hx=>?_⟩
    ·rcases i4 x hx with h|⟨y,hy,h⟩
     ·rw [h];exact hlt
     ·rw [<-h];exact hgl y hy
    ·rcases List.mem_cons.1 hx with rfl|hx
     ·exact hg
     ·exact i2 x hx
    ·rw [z72,i3,z72,z72,if_neg hne]
     by_cases h:k=fky g
     ·rw [if_pos h,if_neg (fun e=>hne (by rw [<-e];exact h)),if_pos h]
     ·rw [if_neg h,if_neg h]
    ·rcases List.mem_cons.1 hx with rfl|hx
     ·exact .inr ⟨x,by simp,rfl⟩
     ·rcases i4 x hx with h|⟨y,hy,h⟩
      ·exact .inl h
      ·exact .inr ⟨y,by simp [hy],h⟩
structure RJ (R:Rk) (J:List Fr):Prop where
 n:RkN R
 s:SrtJ J
 k:∀ x ∈ J,FrK x
 e:∀ k,lkK R k=lkJ J k
theorem RJ.nil:RJ [] []:={ n:=List.nodup_nil,s:=List.Pairwise.nil,k:=fun _ h=>(nomatch h),e:=fun _=>rfl }
theorem RJ.add {R:Rk} {J:List Fr} (h:RJ R J) {f:Fr} (hf:FrK f):RJ (rkA R f) (addR J f):=by
 obtain ⟨h1,h2,h3,h4⟩:=zc2 h.s h.k hf
 refine ⟨h.n.st _ _,h1,h2,fun k=>?_⟩
 unfold rkA
 rw [zh9,h3 k,h.e,h.e]
theorem RJ.all {l:List Fr}:∀ {R:Rk} {J:List Fr},RJ R J->(∀ x ∈ l,FrK x)->RJ (l.foldl rkA R) (l.foldl addR J):=by
 induction l with
 | nil=>intro R J h _;exact h
 | cons f l ih=>intro R J h hl;exact ih (h.add (hl f (by simp))) fun x hx=>hl x (by simp [hx])
theorem zr3 {l:List Fr} (hl:∀ x ∈ l,FrK x):RJ (rackF l) (joinedR l):=RJ.nil.all hl
theorem pig:∀ (n:Nat) (l:List Nat),l.Nodup->(∀ x ∈ l,x < n)->l.length<=n
 | 0,l,_,h=>by
  cases l with
  | nil=>exact Nat.le_refl _
  | cons x l=>exact absurd (h x (by simp)) (Nat.not_lt_zero _)
 | n+1,l,hn,h=>by
  by_cases hm:n ∈ l
  ·have h1:=pig n (l.erase n) (hn.erase n) fun x hx=>by
    have h2:=(hn.mem_erase_iff).1 hx
    have h3:=h x h2.2
    have h4:=h2.1
    omega
   rw [List.length_erase_of_mem hm] at h1
   omega
  ·exact Nat.le_succ_of_le (pig n l hn fun x hx=>by
    have h1:=h x hx
    have h2:x ≠ n:=fun e=>hm (e ▸ hx)
    omega)
theorem zd4:∀ {a b:List Ky},a.Pairwise klt->b.Pairwise klt->(∀ k,k ∈ a ↔ k ∈ b)->a=b
 | [],[],_,_,_=>rfl
 | [],y :: b,_,_,h=>by have:=(h y).2 (by simp);simp at this
 | x :: a,[],_,_,h=>by have:=(h x).1 (by simp);simp at this
 | x :: a,y :: b,ha,hb,h=>by
  have ha':=List.pairwise_cons.1 ha
  have hb':=List.pairwise_cons.1 hb
  have hxy:x=y:=by
   rcases List.mem_cons.1 ((h x).1 (by simp)) with e|hx
   ·exact e
   rcases List.mem_cons.1 ((h y).2 (by simp)) with e|hy
   ·exact e.symm
   ·exact absurd (z4j (ha'.1 y hy) (hb'.1 x hx)) (z0v x)
  subst hxy
  rw [zd4 ha'.2 hb'.2 fun k=>?_]
  have h1:=h k
  simp only [List.mem_cons] at h1
  constructor
  ·intro hk
   rcases h1.1 (.inr hk) with e|e
   ·subst e;exact absurd (ha'.1 k hk) (z0v k)
   ·exact e
  ·intro hk
   rcases h1.2 (.inr hk) with e|e
   ·subst e;exact absurd (hb'.1 k hk) (z0v k)
   ·exact e
theorem RJ.keys {R:Rk} {J:List Fr} (h:RJ R J) (k:Ky):k ∈ R.map (·.1) ↔ k ∈ J.map fky:=by rw [<-zha,<- z73,h.e]
theorem SrtJ.keys {J:List Fr} (h:SrtJ J):(J.map fky).Pairwise klt:=by unfold SrtJ at h;rw [List.pairwise_map];exact h
def frK (R:Rk) (k:Ky):Fr:=(k.1,k.2,(lkK R k).getD [])
theorem z8l:∀ {J:List Fr},SrtJ J->∀ x ∈ J,lkJ J (fky x)=some x.2.2
 | y :: J,hs,x,hx=>by
  have hs':=List.pairwise_cons.1 hs
  rw [z72]
  rcases List.mem_cons.1 hx with rfl|hx
  ·rw [if_pos rfl]
  ·rw [if_neg (fun e=>z0v (fky y) (by have:=hs'.1 x hx;rw [e] at this;exact this))]
   exact z8l hs'.2 x hx
theorem RJ.frames {R:Rk} {J:List Fr} (h:RJ R J) {ks:List Ky} (hs:ks.Pairwise klt) (hm:∀ k,k ∈ ks ↔ k ∈ R.map (·.1)):ks.map (frK R)=J:=by
 have e:ks=J.map fky:=zd4 hs h.s.keys fun k=>by rw [hm,h.keys]
 subst e
 rw [List.map_map]
 conv=>rhs;rw [<-List.map_id J]
 refine List.map_congr_left fun x hx=>?_
 show frK R (fky x)=x
 unfold frK
 rw [h.e,z8l h.s x hx];rfl
theorem RJ.len {R:Rk} {J:List Fr} (h:RJ R J):R.length=J.length:=by
 have h1:(J.map fky).Nodup:=h.s.keys.imp fun hk e=>by subst e;exact z0v _ hk
 have hle:∀ {a b:List Ky},a.Nodup->(∀ k ∈ a,k ∈ b)->a.length<=b.length:=by
  intro a
  induction a with
  | nil=>intro b _ _;exact Nat.zero_le _
  | cons x a ih =>
   intro b hn hs
   have hn':=List.nodup_cons.1 hn
   have:=ih (b:=b.erase x) hn'.2 fun k hk=>(List.mem_erase_of_ne (fun e=>hn'.1 (by rw [<-e];exact hk))).2 (hs k (by simp [hk]))
   rw [List.length_erase_of_mem (hs x (by simp))] at this
   have h2:0 < b.length:=List.length_pos_of_mem (hs x (by simp))
   rw [List.length_cons];omega
 have h2:=hle h.n fun k hk=>(h.keys k).1 hk
 have h3:=hle h1 fun k hk=>(h.keys k).2 hk
 simp only [List.length_map] at h2 h3
 omega
end Go.Proofs.YtbmgeagllpganaaGreatDoor.C
end
section
open Go PvL Go.Proofs
variable {μ:Md}
set_option linter.unusedVariables false
set_option linter.unusedSimpArgs false
namespace Go.Proofs.YtbmgeagllpganaaGreatDoor.C
abbrev kyv (k:Ky):LV:=.agg [I k.1,I k.2]
abbrev zsl:LV:=.slice none 0 true 0
abbrev Mk:=List (Ky × LV)
def encK (L:Mk):List (LV × LV):=L.map fun p=>(kyv p.1,p.2)
def lkM:Mk->Ky->Option LV
 | [],_=>none
 |(a,b) :: L,k=>if k=a then some b else lkM L k
def stV:Mk->Ky->LV->Mk
 | [],k,v=>[(k,v)]
 |(a,b) :: L,k,v=>if k=a then (k,v) :: L else (a,b) :: stV L k v
theorem zjw (a:Ky) (b:LV) (L:Mk) (k:Ky):lkM ((a,b) :: L) k=if k=a then some b else lkM L k:=rfl
theorem zic (a:Ky) (b:LV) (L:Mk) (k:Ky) (v:LV):stV ((a,b) :: L) k v=if k=a then (k,v) :: L else (a,b) :: stV L k v:=rfl
theorem zjk {P:Program} {t e:TypeId} (hu:P.underlying t=some (.array 2 e)) (hi:P.underlying e=some (.int .i64)) (hs:szOf P e=some 1) (ha:aggSz P e=some none) (a b c d:Int) :
  eqL P Op.maxDepth t (.agg [I a,I b]) (.agg [I c,I d])=some (decide (a=c) && decide (b=d)):=by
 have he:∀ x y:Int,eqL P (Op.maxDepth - 1) e (I x) (I y)=some (decide (x=y)):=fun x y=>by
  show eqL P (Op.maxDepth - 2+1) e (I x) (I y)=_
  unfold eqL
  rw [hi]
  show guard' (kEq .i64 .i64) (some (ieq x y))=_
  rw [z1l.2 rfl,ze,z24]
  rfl
 have hp:∀ (i:Nat) (xs ys:List LV) (x y:Int),nth xs i=some (I x)->nth ys i=some (I y)->eqPart P (eqL P (Op.maxDepth - 1)) e i xs ys=some (decide (x=y)):=fun i xs ys x y h1 h2=>by
  unfold eqPart
  rw [ha,za,z3z,h1,za,h2,za];exact he x y
 show eqL P (Op.maxDepth - 1+1) t _ _=_
 unfold eqL
 rw [hu]
 show ob (szOf P e) _=_
 rw [hs,za]
 show andO (eqPart P (eqL P (Op.maxDepth - 1)) e 0 [I a,I b] [I c,I d]) (andO (eqPart P (eqL P (Op.maxDepth - 1)) e 1 [I a,I b] [I c,I d]) (some true))=_
 rw [hp 0 _ _ a c rfl rfl,hp 1 _ _ b d rfl rfl]
 unfold andO
 rw [za,za]
 by_cases h1:a=c<;>by_cases h2:b=d<;>simp [h1,h2,ifb]
theorem zmo (a b c d:Int):eqL Tryz.prog Op.maxDepth 88 (.agg [I a,I b]) (.agg [I c,I d])=some (decide (a=c) && decide (b=d)) :=
 zjk (e:=3) (by kernel_rfl) (by kernel_rfl) (by kernel_rfl) (by kernel_rfl) a b c d
theorem zlg (a b:Ky):eqL Tryz.prog Op.maxDepth 88 (kyv a) (kyv b)=some (decide (a=b)):=by
 refine (zmo a.1 a.2 b.1 b.2).trans ?_
 by_cases h:a=b
 ·subst h;simp
 ·rw [decide_eq_false h]
  have:¬ (a.1=b.1 /\ a.2=b.2):=fun ⟨h1,h2⟩=>h (Prod.ext h1 h2)
  by_cases h1:a.1=b.1
  ·have h2:¬ a.2=b.2:=fun h2=>this ⟨h1,h2⟩
   simp [h2]
  ·simp [h1]
theorem zon (a:Ky) (b:LV) (L:Mk):encK ((a,b) :: L)=(kyv a,b) :: encK L:=rfl
theorem z5b {P:Program} {kt:TypeId} (heq:∀ a b:Ky,eqL P Op.maxDepth kt (kyv a) (kyv b)=some (decide (a=b))) (k a:Ky) (b:LV) (L:Mk) (i:Nat):findL P kt (kyv k) (encK ((a,b) :: L)) i=if k=a then some (some (i,kyv a,b)) else findL P kt (kyv k) (encK L) (i+1):=by
 rw [zon]
 generalize encK L=es
 have hk:=heq k a
 generalize kyv k=kv at *
 generalize kyv a=av at *
 show ob (eqL P Op.maxDepth kt kv av) (fun b'=>ifb b' (some (some (i,av,b))) (findL P kt kv es (i+1)))=_
 rw [hk,za]
 by_cases hab:k=a
 ·rw [decide_eq_true hab,zq,if_pos hab]
 ·rw [decide_eq_false hab,zf,if_neg hab]
theorem z6t {P:Program} {kt:TypeId} (heq:∀ a b:Ky,eqL P Op.maxDepth kt (kyv a) (kyv b)=some (decide (a=b))) (k:Ky):∀ (L:Mk) (i:Nat),lkM L k=none->findL P kt (kyv k) (encK L) i=some none /\ ∀ v,encK L ++ [(kyv k,v)]=encK (stV L k v)
 | [],i,_=>⟨rfl,fun v=>rfl⟩
 |(a,b) :: L,i,h=>by
  rw [zjw] at h
  by_cases hka:k=a
  ·rw [if_pos hka] at h;cases h
  ·rw [if_neg hka] at h
   obtain ⟨h1,h2⟩:=z6t heq k L (i+1) h
   constructor
   ·rw [z5b heq,if_neg hka,h1]
   ·intro v
    rw [zic,if_neg hka]
    show (kyv a,b) :: (encK L ++ [(kyv k,v)])=(kyv a,b) :: encK (stV L k v)
    rw [h2 v]
theorem z6u {P:Program} {kt:TypeId} (heq:∀ a b:Ky,eqL P Op.maxDepth kt (kyv a) (kyv b)=some (decide (a=b))) (k:Ky):∀ (L:Mk) (i:Nat) (b:LV),lkM L k=some b->∃ j,findL P kt (kyv k) (encK L) i=some (some (i+j,kyv k,b)) /\ ∀ v,setVal (encK L) j (kyv k) v=encK (stV L k v)
 | [],i,b,h=>by cases h
 |(a,c) :: L,i,b,h=>by
  rw [zjw] at h
  by_cases hka:k=a
  ·rw [if_pos hka] at h
   obtain rfl:=Option.some.inj h
   subst hka
   refine ⟨0,?_,fun v=>?_⟩
   ·rw [z5b heq,if_pos rfl,Nat.add_zero]
   ·rw [zic,if_pos rfl];rfl
  ·rw [if_neg hka] at h
   obtain ⟨j,h1,h2⟩:=z6u heq k L (i+1) b h
   refine ⟨j+1,?_,fun v=>?_⟩
   ·rw [z5b heq,if_neg hka,h1,Nat.add_assoc,Nat.add_comm 1 j]
   ·rw [zic,if_neg hka]
    show (kyv a,c) :: setVal (encK L) j (kyv k) v=(kyv a,c) :: encK (stV L k v)
    rw [h2 v]
theorem z8d (k:Ky) (L:Mk) (i:Nat) (h:lkM L k=none):findL Tryz.prog 88 (kyv k) (encK L) i=some none /\ ∀ v,encK L ++ [(kyv k,v)]=encK (stV L k v):=z6t zlg k L i h
theorem z8e (k:Ky) (L:Mk) (i:Nat) (b:LV) (h:lkM L k=some b):∃ j,findL Tryz.prog 88 (kyv k) (encK L) i=some (some (i+j,kyv k,b)) /\ ∀ v,setVal (encK L) j (kyv k) v=encK (stV L k v):=z6u zlg k L i b h
theorem zh3 (k:Ky):keyOk Tryz.prog 10000 88 (kyv k)=true:=by kernel_rfl
structure StOk (bs:List Nat) (clk n:Nat):Prop where
 len:bs.length=n
 nodup:bs.Nodup
 lt:∀ b ∈ bs,b < clk
def SlV (M:Mem) (v:LV) (l:List Int):Prop:=∃ a f e,v=.slice a l.length f e /\ (l ≠ []->e=1) /\ SlI M a l
inductive RkL (M:Mem):Mk->Rk->Prop
 | nil:RkL M [] []
 | cons {k:Ky} {v:LV} {l:List Int} {L:Mk} {R:Rk} (h:SlV M v l) (h':RkL M L R):RkL M ((k,v) :: L) ((k,l) :: R)
def RkM (M:Mem) (r:Nat) (R:Rk):Prop:=∃ L bs clk,At M r (.map (encK L) bs clk) /\ StOk bs clk L.length /\ RkL M L R
variable {M M':Mem} {L:Mk} {R:Rk} {r:Nat} {k:Ky}
theorem SlV.grow {v:LV} {l:List Int} (h:SlV M v l) (hg:Grow M M'):SlV M' v l:=by
 obtain ⟨a,f,e,h1,h0,h2⟩:=h
 exact ⟨a,f,e,h1,h0,h2.grow hg⟩
theorem SlV.nil:SlV M zsl []:=⟨none,true,0,rfl,fun h=>absurd rfl h,.inl rfl⟩
theorem SlV.vec {b:Nat} {ty:TypeId} {v:LV} {l:List Int} (h:Vec b 1 ty intc M v l):SlV M v l:=by
 rcases h with ⟨rfl,rfl⟩|⟨i,rfl,h2,h3⟩
 ·exact SlV.nil
 ·exact ⟨_,_,_,rfl,fun _=>rfl,.inr ⟨i,0,rfl,fun k hk=>z7j (z1s (enc:=intc) h2 (fun _ _=>rfl) hk)⟩⟩
theorem RkL.grow (h:RkL M L R) (hg:Grow M M'):RkL M' L R:=by
 induction h with
 | nil=>exact .nil
 | cons h _ ih=>exact .cons (h.grow hg) ih
theorem RkL.len (h:RkL M L R):L.length=R.length:=by
 induction h with
 | nil=>rfl
 | cons h _ ih=>simp [ih]
theorem RkL.keys (h:RkL M L R):L.map (·.1)=R.map (·.1):=by
 induction h with
 | nil=>rfl
 | cons h _ ih=>simp [ih]
theorem RkL.look (h:RkL M L R) (k:Ky):SlV M ((lkM L k).getD zsl) ((lkK R k).getD []):=by
 induction h with
 | nil=>exact SlV.nil
 | @cons k' v l L R h _ ih =>
  rw [zjw]
  show SlV M _ ((if k=k' then some l else lkK R k).getD [])
  by_cases hk:k=k'
  ·rw [if_pos hk,if_pos hk];exact h
  ·rw [if_neg hk,if_neg hk];exact ih
theorem RkL.put (h:RkL M L R) (k:Ky) {v:LV} {l:List Int} (hv:SlV M v l):RkL M (stV L k v) (stK R k l):=by
 induction h with
 | nil=>exact .cons hv .nil
 | @cons k' v' l' L R h hL ih =>
  rw [zic]
  show RkL M _ (if k=k' then (k,l) :: R else (k',l') :: stK R k l)
  by_cases hk:k=k'
  ·rw [if_pos hk,if_pos hk];exact .cons hv hL
  ·rw [if_neg hk,if_neg hk];exact .cons h ih
theorem RkM.grow (h:RkM M r R) (hg:Grow M M'):RkM M' r R:=by
 obtain ⟨L,bs,clk,h1,h2,h3⟩:=h
 exact ⟨L,bs,clk,h1.grow hg,h2,h3.grow hg⟩
theorem RkM.lt (h:RkM M r R):r < M.next:=by
 obtain ⟨L,bs,clk,h1,h2,h3⟩:=h
 exact h1.2
theorem Rd1.updm {i o:Nat} {v:LV} {es es':List (LV × LV)} {bs bs':List Nat} {c c':Nat} (h:Rd1 M i o v) (hm:At M r (.map es bs c)) (hu:Upd M r (.map es' bs' c') M'):Rd1 M' i o v:=by
 refine Rd1.upd_ne hu (fun e=>?_) h
 subst e
 have h1:=h.1
 unfold load1 atCells at h1
 rw [hm.1] at h1
 cases h1
theorem SlV.updm {v:LV} {l:List Int} {es es':List (LV × LV)} {bs bs':List Nat} {c c':Nat} (h:SlV M v l) (hm:At M r (.map es bs c)) (hu:Upd M r (.map es' bs' c') M'):SlV M' v l:=by
 obtain ⟨a,f,e,h1,h0,h2⟩:=h
 exact ⟨a,f,e,h1,h0,h2.imp id fun ⟨i,o,h3,h4⟩=>⟨i,o,h3,fun k hk=>Rd1.updm (h4 k hk) hm hu⟩⟩
theorem RkL.updm {es es':List (LV × LV)} {bs bs':List Nat} {c c':Nat} (h:RkL M L R) (hm:At M r (.map es bs c)) (hu:Upd M r (.map es' bs' c') M'):RkL M' L R:=by
 induction h with
 | nil=>exact .nil
 | cons h _ ih=>exact .cons (h.updm hm hu) ih
variable {E:Env} {x y z':XO}
theorem zhc {bs:List Nat} {clk:Nat} (hm:At M r (.map (encK L) bs clk)) (hx:xval E x=some (.map (some r))) (hy:xval E y=some (kyv k)):xstep Tryz.prog (.lkp 88 zsl false x y) E M=some (.val ((lkM L k).getD zsl) M):=by
 show ob (xval E x) _=_
 rw [hx,za,hy,za,zh3,ze]
 show atMap M r _=_
 unfold atMap
 rw [hm.1,za]
 show ob (findL Tryz.prog 88 (kyv k) (encK L) 0) _=_
 cases hl:lkM L k with
 | none=>rw [(z8d k L 0 hl).1];rfl
 | some b =>
  obtain ⟨j,h1,_⟩:=z8e k L 0 b hl
  rw [h1];rfl
theorem zid (L:Mk) (k:Ky) (v:LV):(stV L k v).length=if (lkM L k).isSome then L.length else L.length+1:=by
 induction L with
 | nil=>rfl
 | cons p L ih =>
  obtain ⟨a,b⟩:=p
  rw [zic,zjw]
  by_cases h:k=a
  ·rw [if_pos h,if_pos h];rfl
  ·rw [if_neg h,if_neg h,List.length_cons,ih]
   split<;>simp
theorem zpf {v:LV} {l:List Int} (h:RkM M r R) (hv:SlV M v l) (hx:xval E x=some (.map (some r))) (hy:xval E y=some (kyv k)) (hz:xval E z'=some v):∃ lb M',xstep Tryz.prog (.mset 88 x y z') E M=some (.skip M') /\ Upd M r lb M' /\ RkM M' r (stK R k l):=by
 obtain ⟨L,bs,clk,hm,hok,hL⟩:=h
 have key:∀ R,(ob (findL Tryz.prog 88 (kyv k) (encK L) 0) fun p=>oe p
   (some (R1.skip (M.upd r (some (.map (encK L ++ [(kyv k,v)]) (bs ++ [clk]) (clk+1))))))
   (fun p=>pr p fun i q=>pr q fun k' _=>guard' (lvEq (kyv k) k') (some (.skip (M.upd r (some (.map (setVal (encK L) i (kyv k) v) bs clk)))))))=some R->xstep Tryz.prog (.mset 88 x y z') E M=some R:=fun R hR=>by
  show ob (xval E x) _=_
  rw [hx,za,hy,za,hz,za,zh3,ze]
  show atMap M r _=_
  unfold atMap
  rw [hm.1,za]
  exact hR
 cases hl:lkM L k with
 | none =>
  obtain ⟨h1,h2⟩:=z8d k L 0 hl
  refine ⟨_,_,key _ (by rw [h1,za];rfl),⟨rfl⟩,stV L k v,bs ++ [clk],clk+1,?_,?_,(hL.updm hm ⟨rfl⟩).put k (hv.updm hm ⟨rfl⟩)⟩
  ·rw [<-h2 v]
   exact At.upd_same ⟨rfl⟩ hm
  ·refine ⟨by rw [List.length_append,hok.len,zid,hl];rfl,?_,fun b hb=>?_⟩
   ·rw [List.nodup_append]
    exact ⟨hok.nodup,by simp,fun a ha b hb=>by
     obtain rfl:b=clk:=by simpa using hb
     have:=hok.lt a ha;omega⟩
   ·rcases List.mem_append.1 hb with hb|hb
    ·have:=hok.lt b hb;omega
    ·obtain rfl:b=clk:=by simpa using hb
     omega
 | some b =>
  obtain ⟨j,h1,h2⟩:=z8e k L 0 b hl
  refine ⟨_,_,key (.skip (M.upd r (some (.map (setVal (encK L) j (kyv k) v) bs clk)))) (by
   rw [h1,za,Nat.zero_add]
   show guard' (lvEq (kyv k) (kyv k)) _=_
   rw [z4m,ze]),⟨rfl⟩,stV L k v,bs,clk,?_,⟨by rw [hok.len,zid,hl];rfl,hok.nodup,hok.lt⟩,(hL.updm hm ⟨rfl⟩).put k (hv.updm hm ⟨rfl⟩)⟩
  rw [<-h2 v]
  exact At.upd_same ⟨rfl⟩ hm
theorem ziw {P:Program} {es:List (LV × LV)} {bs:List Nat} {clk:Nat} (hx:xval E x=some (.map (some r))) (hm:At M r (.map es bs clk)):xstep P (.len .map x) E M=some (.val (I es.length) M):=by
 show ob (xval E x) _=_
 rw [hx,za]
 show ob (atMap M r fun es _ _=>mkN es.length) _=_
 unfold atMap
 rw [hm.1]
 show ob (mkN es.length) (rv M)=_
 unfold mkN
 rw [z0p];rfl
theorem z9n {seen:List Nat}:∀ {bs:List Nat} {es:List (LV × LV)} {b:Nat} {kk v:LV},(b,kk,v) ∈ leftL seen bs es->∃ i:Nat,bs[i]?=some b /\ es[i]?=some (kk,v) /\ b ∉ seen
 | [],_,_,_,_,h=>nomatch h
 | c :: bs,[],_,_,_,h=>nomatch h
 | c :: bs,e :: es,b,kk,v,h=>by
  have h:(b,kk,v) ∈ ifb (memN c seen) (leftL seen bs es) ((c,e) :: leftL seen bs es):=h
  cases hm:memN c seen with
  | true =>
   rw [hm,zq] at h
   obtain ⟨i,h1,h2,h3⟩:=z9n h
   exact ⟨i+1,h1,h2,h3⟩
  | false =>
   rw [hm,zf] at h
   rcases List.mem_cons.1 h with h|h
   ·cases h
    exact ⟨0,rfl,rfl,fun hh=>by rw [z78.2 hh] at hm;cases hm⟩
   ·obtain ⟨i,h1,h2,h3⟩:=z9n h
    exact ⟨i+1,h1,h2,h3⟩
theorem zds {seen:List Nat}:∀ {bs:List Nat} {es:List (LV × LV)},leftL seen bs es=[]->bs.length=es.length->∀ b ∈ bs,b ∈ seen
 | [],_,_,_,b,hb=>nomatch hb
 | c :: bs,[],_,hl,_,_=>by simp at hl
 | c :: bs,e :: es,h,hl,b,hb=>by
  have h:ifb (memN c seen) (leftL seen bs es) ((c,e) :: leftL seen bs es)=[]:=h
  cases hm:memN c seen with
  | false=>rw [hm,zf] at h;cases h
  | true =>
   rw [hm,zq] at h
   rcases List.mem_cons.1 hb with rfl|hb
   ·exact z78.1 hm
   ·exact zds h (by simpa using hl) b hb
theorem zby {n:Nat}:∀ {bs:List Nat} {es:List (LV × LV)} {i:Nat} {e:LV × LV},bs.Nodup->bs[i]?=some n->es[i]?=some e->stampL n bs es=some e
 | [],_,i,_,_,h,_=>by simp at h
 | c :: bs,[],i,_,_,_,h=>by simp at h
 | c :: bs,f :: es,0,e,hn,h1,h2=>by
  obtain rfl:c=n:=by simpa using h1
  obtain rfl:f=e:=by simpa using h2
  show ifb (Nat.beq c c) (some f) _=_
  rw [show Nat.beq c c=true by simp];rfl
 | c :: bs,f :: es,i+1,e,hn,h1,h2=>by
  have hn':=List.nodup_cons.1 hn
  have hne:¬ c=n:=by
   rintro rfl
   exact hn'.1 (List.mem_of_getElem? (i:=i) (by simpa using h1))
  show ifb (Nat.beq c n) (some f) (stampL n bs es)=_
  rw [show Nat.beq c n=false by cases hb:Nat.beq c n;rfl;exact absurd (Nat.eq_of_beq_eq_true hb) hne,zf]
  exact zby hn'.2 (by simpa using h1) (by simpa using h2)
theorem zda {n:Nat}:∀ {l:List Nat},(∀ x ∈ l,x < n)->allLt n l=true
 | [],_=>rfl
 | x :: l,h=>by
  show ifb (Nat.ble (Nat.succ x) n) (allLt n l) false=true
  rw [Nat.ble_eq_true_of_le (h x (by simp)),zq]
  exact zda fun y hy=>h y (by simp [hy])
theorem z96 {n x:Nat}:∀ {l:List Nat},x ∈ l->x < n->anyLt n l=true
 | [],h,_=>nomatch h
 | y :: l,h,hx=>by
  show ifb (Nat.ble (Nat.succ y) n) true (anyLt n l)=true
  cases hb:Nat.ble (Nat.succ y) n with
  | true=>rfl
  | false =>
   rw [zf]
   rcases List.mem_cons.1 h with rfl|h
   ·rw [Nat.ble_eq_true_of_le hx] at hb;cases hb
   ·exact z96 h hx
end Go.Proofs.YtbmgeagllpganaaGreatDoor.C
end
section
open Go PvL
set_option linter.unusedSimpArgs false
set_option linter.unusedVariables false
namespace Go.Proofs.YtbmgeagllpganaaGreatDoor.C
def PL (a b i j:Nat) (G:Nat->Ky):Prop:=a < i /\ i<=j+1 /\ j < b /\ (∀ p,a < p->p < i->klt (G p) (G a)) /\ ∀ p,j < p->p < b->¬ klt (G p) (G a)
theorem PL.start {a b:Nat} {G:Nat->Ky} (h:a < b):PL a b (a+1) (b - 1) G:=⟨by omega,by omega,by omega,fun p h1 h2=>by omega,fun p h1 h2=>by omega⟩
theorem PL.up {a b i j:Nat} {G:Nat->Ky} (h:PL a b i j G) (hij:i<=j) (hl:klt (G i) (G a)):PL a b (i+1) j G :=
 ⟨by have:=h.1;omega,by omega,h.2.2.1,fun p h1 h2=>by
  by_cases hp:p=i
  ·subst hp;exact hl
  ·exact h.2.2.2.1 p h1 (by omega),h.2.2.2.2⟩
theorem PL.down {a b i j:Nat} {G:Nat->Ky} (h:PL a b i (j+1) G) (hij:i<=j+1) (hl:¬ klt (G (j+1)) (G a)):PL a b i j G :=
 ⟨h.1,hij,by have:=h.2.2.1;omega,h.2.2.2.1,fun p h1 h2=>by
  by_cases hp:p=j+1
  ·subst hp;exact hl
  ·exact h.2.2.2.2 p (by omega) h2⟩
theorem PL.swap {a b i j:Nat} {G:Nat->Ky} (h:PL a b i j G) (hij:i<=j) (h1:¬ klt (G i) (G a)) (h2:klt (G j) (G a)):i < j /\ PL a b (i+1) (j - 1) (sw G i j):=by
 have hne:i ≠ j:=by rintro rfl;exact h1 h2
 have hai:=h.1
 have ha:sw G i j a=G a:=z3j (by omega) (by omega)
 refine ⟨by omega,by omega,by omega,by have:=h.2.2.1;omega,fun p h3 h4=>?_,fun p h3 h4=>?_⟩
 ·rw [ha]
  by_cases hp:p=i
  ·subst hp;rw [sw_i];exact h2
  ·rw [z3j hp (by omega)];exact h.2.2.2.1 p h3 (by omega)
 ·rw [ha]
  by_cases hp:p=j
  ·subst hp;rw [sw_j];exact h1
  ·rw [z3j (by omega) hp];exact h.2.2.2.2 p (by omega) h4
def Parted (a b m:Nat) (G:Nat->Ky):Prop:=a<=m /\ m < b /\ (∀ p,a<=p->p < m->klt (G p) (G m)) /\ ∀ p,m < p->p < b->¬ klt (G p) (G m)
theorem PL.done {a b i j:Nat} {G:Nat->Ky} (h:PL a b i j G) (hij:j < i):Parted a b j (sw G j a):=by
 obtain ⟨h1,h2,h3,h4,h5⟩:=h
 refine ⟨by omega,h3,fun p g1 g2=>?_,fun p g1 g2=>?_⟩
 ·rw [sw_i]
  by_cases hp:p=a
  ·subst hp;rw [sw_j];exact h4 j (by omega) (by omega)
  ·rw [z3j (by omega) hp];exact h4 p (by omega) (by omega)
 ·rw [sw_i,z3j (by omega) (by omega)]
  exact h5 p g1 g2
def Lo (a b:Nat) (G:Nat->Ky):Prop:=a=0 ∨ ∀ t,a<=t->t < b->klt (G (a - 1)) (G t)
theorem Lo.sub {a b b':Nat} {G:Nat->Ky} (h:Lo a b G) (hb:b'<=b):Lo a b' G:=h.elim .inl fun h=>.inr fun t h1 h2=>h t h1 (by omega)
theorem Lo.sw {a b a' b':Nat} {G G':Nat->Ky} (h:Lo a b G) (hw:Sw a' b' G G') (ha:a<=a') (hb:b'<=b):Lo a b G':=by
 rcases h with h|h
 ·exact .inl h
 by_cases ha0:a=0
 ·exact .inl ha0
 refine .inr ?_
 rw [hw.out (t:=a - 1) (by omega)]
 exact (hw.wider ha hb).all (p:=fun k=>klt (G (a - 1)) k) h
def Out (a b a' b':Nat) (G:Nat->Ky):Prop:=∀ x y,a<=x->x < y->y < b->(x < a' ∨ b'<=y)->¬ klt (G y) (G x)
theorem Out.start {a b:Nat} {G:Nat->Ky}:Out a b a b G:=fun x y h1 h2 h3 h4=>by omega
theorem Out.sw {a b a' b':Nat} {G G':Nat->Ky} (h:Out a b a' b' G) (hw:Sw a' b' G G') (ha:a<=a') (hb:b'<=b):Out a b a' b' G':=by
 intro x y h1 h2 h3 h4
 by_cases hx:x < a' ∨ b'<=x
 ·rw [hw.out hx]
  by_cases hy:y < a' ∨ b'<=y
  ·rw [hw.out hy];exact h x y h1 h2 h3 h4
  ·exact hw.all (p:=fun k=>¬ klt k (G x)) (fun t h5 h6=>h x t h1 (by omega) (by omega) (by omega)) y (by omega) (by omega)
 ·rw [hw.out (t:=y) (by omega)]
  exact hw.all (p:=fun k=>¬ klt (G y) k) (fun t h5 h6=>h t y (by omega) (by omega) h3 (by omega)) x (by omega) (by omega)
theorem Out.fin {a b a' b':Nat} {G:Nat->Ky} (h:Out a b a' b' G) (hs:Srt a' b' G):Srt a b G:=fun x y h1 h2 h3=>by
 by_cases hx:x < a' ∨ b'<=y
 ·exact h x y h1 h2 h3 hx
 ·exact hs x y (by omega) h2 (by omega)
theorem Parted.sw {a b m:Nat} {G G':Nat->Ky} (h:Parted a b m G) {a' b':Nat} (hw:Sw a' b' G G') (hr:(a<=a' /\ b'<=m) ∨ (m+1<=a' /\ b'<=b)):Parted a b m G':=by
 obtain ⟨h1,h2,h3,h4⟩:=h
 refine ⟨h1,h2,?_,?_⟩
 ·intro p g1 g2
  rw [hw.out (t:=m) (by omega)]
  rcases hr with hr|hr
  ·exact (hw.wider hr.1 hr.2).all (p:=fun k=>klt k (G m)) h3 p g1 g2
  ·rw [hw.out (t:=p) (by omega)];exact h3 p g1 g2
 ·intro p g1 g2
  rw [hw.out (t:=m) (by omega)]
  rcases hr with hr|hr
  ·rw [hw.out (t:=p) (by omega)];exact h4 p g1 g2
  ·exact (hw.wider hr.1 hr.2).all (p:=fun k=>¬ klt k (G m)) (fun t g1 g2=>h4 t (by omega) g2) p (by omega) g2
theorem Out.left {a b a' b' m:Nat} {G G':Nat->Ky} (h:Out a b a' b' G) (hp:Parted a' b' m G) (hw:Sw a' m G G') (hs:Srt a' m G') (ha:a<=a') (hb:b'<=b):Out a b (m+1) b' G':=by
 have hm:=hp.1
 have hm2:=hp.2.1
 have hp':=hp.sw hw (.inl ⟨Nat.le_refl _,Nat.le_refl _⟩)
 have h':=h.sw (hw.wider (Nat.le_refl _) (by omega)) ha hb
 obtain ⟨-,-,q3,q4⟩:=hp'
 intro x y h1 h2 h3 h4
 by_cases hx:x < a' ∨ b'<=y
 ·exact h' x y h1 h2 h3 hx
 have hxm:x<=m:=by omega
 by_cases hxe:x=m
 ·subst hxe;exact q4 y h2 (by omega)
 by_cases hy:y < m
 ·exact hs x y (by omega) h2 hy
 by_cases hye:y=m
 ·subst hye;exact z70 (q3 x (by omega) (by omega))
 ·exact fun hk=>q4 y (by omega) (by omega) (z4j hk (q3 x (by omega) (by omega)))
theorem Out.right {a b a' b' m:Nat} {G G':Nat->Ky} (h:Out a b a' b' G) (hp:Parted a' b' m G) (hw:Sw (m+1) b' G G') (hs:Srt (m+1) b' G') (ha:a<=a') (hb:b'<=b):Out a b a' m G':=by
 have hm:=hp.1
 have hm2:=hp.2.1
 have hp':=hp.sw hw (.inr ⟨Nat.le_refl _,Nat.le_refl _⟩)
 have h':=h.sw (hw.wider (by omega) (Nat.le_refl _)) ha hb
 obtain ⟨-,-,q3,q4⟩:=hp'
 intro x y h1 h2 h3 h4
 by_cases hx:x < a' ∨ b'<=y
 ·exact h' x y h1 h2 h3 hx
 have hym:m<=y:=by omega
 by_cases hxe:x=m
 ·subst hxe;exact q4 y h2 (by omega)
 by_cases hx2:m < x
 ·exact hs x y (by omega) h2 (by omega)
 by_cases hye:y=m
 ·subst hye;exact z70 (q3 x (by omega) (by omega))
 ·exact fun hk=>q4 y (by omega) (by omega) (z4j hk (q3 x (by omega) (by omega)))
theorem Parted.lo {a b m n:Nat} {G:Nat->Ky} (h:Parted a b m G) (hi:Inj n G) (hb:b<=n):Lo (m+1) b G:=.inr fun t h1 h2=>by
 rw [show m+1 - 1=m by omega]
 have h3:=h.2.2.2 t (by omega) h2
 have hm2:=h.2.1
 rcases zh6 (a:=G m) (b:=G t) (fun e=>absurd (hi m t (by omega) (by omega) e) (by omega)) with h4|h4
 ·exact h4
 ·exact absurd h4 h3
theorem Srt.pre {a i:Nat} {G:Nat->Ky} (h:Srt a i G) {j:Nat} (hj:j<=i):Srt a j G:=fun x y h1 h2 h3=>h x y h1 h2 (by omega)
theorem Srt.swr {a i b:Nat} {G G':Nat->Ky} (h:Srt a i G) {a':Nat} (hw:Sw a' b G G') (ha:i<=a'):Srt a i G':=fun x y h1 h2 h3=>by
 rw [hw.out (t:=x) (by omega),hw.out (t:=y) (by omega)]
 exact h x y h1 h2 h3
end Go.Proofs.YtbmgeagllpganaaGreatDoor.C
end
section

end
section
open Go PvL Go.Proofs
set_option linter.unusedSimpArgs false
set_option linter.unusedVariables false
namespace Go.Proofs.YtbmgeagllpganaaGreatDoor.C
theorem zge (n a b:Int) (M:Mem):CallOk Tryz.prog 44 [I n,I a,I b] M (fun w M'=>w=.bool (btB n a b) /\ M'=M):=by
 refine zj k44 rfl ?_
 dsimp only [x44,zipE,Nat.reduceAdd]
 unfold btB
 (repeat' (first|(with_reducible intro _)|refine sv ?_|(refine sc ?_ ?_<;>(intro h;try first|exact h.elim|exact absurd rfl h|(exfalso;omega)))|(refine sg ?_ ?_<;>(intro h;(fail_if_success (have:True:=h));try first|exact h.elim|exact absurd rfl h|(exfalso;omega)))|assumption|exact xm|exact rfl))
 all_goals (((with_reducible first|apply zi|apply zc);exact rx);refine ⟨?_,rfl⟩;show LV.bool _=LV.bool _;congr 1;simp;omega)
set_option maxHeartbeats 4000000 in
theorem zj9 (s:ByteArray) (hs:s.size<=1000000000000000) (M:Mem):CallOk Tryz.prog 26 [.str s] M (fun w M'=>w=.bool (nmB s) /\ M'=M):=by
 refine zj k26 rfl ?_
 dsimp only [x26,zipE,Nat.reduceAdd]
 (repeat' (first|(with_reducible intro _)|refine sv ?_|(refine sc ?_ ?_<;>(intro h;try first|exact h.elim|exact absurd rfl h|(exfalso;omega)))|(refine sg ?_ ?_<;>(intro h;(fail_if_success (have:True:=h));try first|exact h.elim|exact absurd rfl h|(exfalso;omega)))|assumption|exact xm|exact rfl))
 refine zg (fun z E ms M'=>∃ k:Nat,z=s.size - k /\ k<=s.size /\ ms=[] /\ Has E [(0,.str s),(7,I s.size),(8,I k)] /\ M'=M /\ nmK s k=true)
  ?_ s.size _ _ _ ⟨0,by omega,by omega,rfl,.cons rfl (.cons rfl (.cons rfl .nil)),rfl,rfl⟩
 rintro z E ms M1 ⟨k,rfl,hk,rfl,hE,rfl,hok⟩
 refine z02 hE ?_
 by_cases hlast:k=s.size
 ·subst hlast
  have hn:nmB s=btB s.size 1 16:=by unfold nmB;rw [hok];rfl
  rw [hn]
  (repeat' (first|(with_reducible intro _)|refine sv ?_|(refine sc ?_ ?_<;>(intro h;try first|exact h.elim|exact absurd rfl h|(exfalso;omega)))|((with_reducible first|apply zx|apply zu|apply zm);exact gd;exact rfl;exact rfl;(first|exact zge _ _ _ _))|(refine sg ?_ ?_<;>(intro h;(fail_if_success (have:True:=h));try first|exact h.elim|exact absurd rfl h|(exfalso;omega)))|assumption|exact xm|exact rfl))
  ((with_reducible first|apply zi|apply zc);exact rx)
  exact ⟨rfl,rfl⟩
 have hlt:k < s.size:=by omega
 have hst:=zp2 s k
 rw [hok,Bool.true_and] at hst
 have hno:=zp1 (s:=s) (k:=k+1) (by omega)
 have hF:¬ (97<=byteAt s k /\ byteAt s k<=122 ∨ k ≠ 0 /\ (byteAt s k=95 ∨ 48<=byteAt s k /\ byteAt s k<=57))->nmB s=false:=fun hh=>hno (by
  rw [hst,Bool.eq_false_iff]
  unfold ltB dgB
  simp only [ne_eq,Bool.or_eq_true,Bool.and_eq_true,decide_eq_true_eq]
  exact hh)
 have hT:(97<=byteAt s k /\ byteAt s k<=122 ∨ k ≠ 0 /\ (byteAt s k=95 ∨ 48<=byteAt s k /\ byteAt s k<=57))->nmK s (k+1)=true:=fun hh=>by
  rw [hst]
  unfold ltB dgB
  simp only [ne_eq,Bool.or_eq_true,Bool.and_eq_true,decide_eq_true_eq]
  exact hh
 clear hst hno
 (repeat' (first|(with_reducible intro _)|refine sv ?_|(refine sc ?_ ?_<;>(intro h;try first|exact h.elim|exact absurd rfl h|(exfalso;omega)))|(refine sg ?_ ?_<;>(intro h;(fail_if_success (have:True:=h));try first|exact h.elim|exact absurd rfl h|(exfalso;omega)))|assumption|exact xm|exact rfl))
 all_goals first
  | exact zk (s.size - (k+1)) (by omega) ⟨k+1,rfl,by omega,rfl,.cons rfl (.cons rfl (.cons rfl .nil)),rfl,hT (by omega)⟩
  |(rw [hF (by omega)];((with_reducible first|apply zi|apply zc);exact rx);exact ⟨rfl,rfl⟩)
  |(exfalso;omega)
theorem za7 {E:Env} {M:Mem} {x:XO} {i:Nat} {own:Bool} {p q:LV} {ty:TypeId} (hx:xval E x=some (.ptr (some (i,0)))) (hm:At M i (.cells own [p,q] ty)):xstep Tryz.prog (.slA 2 1 x none none none) E M=some (.val (.slice (some (i,0)) 2 true 1) M):=by
 show ob (xval E x) _=_
 rw [hx,za]
 show guard' true (atCells M i _)=_
 rw [ze]
 unfold atCells
 rw [hm.1]
 rfl
theorem zod (a b:Int) (M:Mem):CallOk Tryz.prog 77 [I a,I b] M (fun w M'=>w=I (cmpI8 a b) /\ M'=M):=by
 have cn:∀ n M,CallOk Tryz.prog 106 [I n] M (fun w M'=>w=.bool false /\ M'=M):=fun n M=>by
  refine zj k106 rfl ?_
  dsimp only [x106,zipE,Nat.reduceAdd]
  (repeat' (first|(with_reducible intro _)|refine sv ?_|(refine sc ?_ ?_<;>(intro h;try first|exact h.elim|exact absurd rfl h|(exfalso;omega)))|(refine sg ?_ ?_<;>(intro h;(fail_if_success (have:True:=h));try first|exact h.elim|exact absurd rfl h|(exfalso;omega)))|assumption|exact xm|exact rfl))
  ((with_reducible first|apply zi|apply zc);exact rx)
  refine ⟨?_,rfl⟩
  show LV.bool _=LV.bool _
  simp
 refine zj k77 rfl ?_
 dsimp only [x77,zipE,Nat.reduceAdd]
 unfold cmpI8
 (repeat' (first|(with_reducible intro _)|refine sv ?_|(refine sc ?_ ?_<;>(intro h;try first|exact h.elim|exact absurd rfl h|(exfalso;omega)))|((with_reducible first|apply zx|apply zu|apply zm);exact gd;exact rfl;exact rfl;(first|exact cn _ _))|(refine sg ?_ ?_<;>(intro h;(fail_if_success (have:True:=h));try first|exact h.elim|exact absurd rfl h|(exfalso;omega)))|assumption|exact xm|exact rfl))
 ·((with_reducible first|apply zi|apply zc);exact rx)
  rw [if_pos (by omega)]
  exact ⟨rfl,rfl⟩
 ·((with_reducible first|apply zi|apply zc);exact rx)
  rw [if_neg (by omega),if_pos (by omega)]
  exact ⟨rfl,rfl⟩
 ·((with_reducible first|apply zi|apply zc);exact rx)
  rw [if_neg (by omega),if_neg (by omega)]
  exact ⟨rfl,rfl⟩
set_option maxHeartbeats 4000000 in
theorem zg9 {M:Mem} {i j:Nat} {a1 a2 b1 b2:Int} {t u:TypeId} {f g:Bool} (ha:At M i (.cells true [I a1,I a2] t)) (hb:At M j (.cells true [I b1,I b2] u)) :
  CallOk Tryz.prog 47 [.slice (some (i,0)) 2 f 1,.slice (some (j,0)) 2 g 1] M (fun w M'=>w=I (cmpK (a1,a2) (b1,b2)) /\ M'=M):=by
 refine zj k47 rfl ?_
 dsimp only [x47,zipE,Nat.reduceAdd]
 have r0:Rd1 M i (0+0*1) (I a1):=Rd1.of_at ha rfl
 have r1:Rd1 M i (0+1*1) (I a2):=Rd1.of_at ha rfl
 have s0:Rd1 M j (0+0*1) (I b1):=Rd1.of_at hb rfl
 have s1:Rd1 M j (0+1*1) (I b2):=Rd1.of_at hb rfl
 have hA:cmpI8 a1 b1 ≠ 0->cmpK (a1,a2) (b1,b2)=cmpI8 a1 b1:=fun h=>by unfold cmpK;rw [if_pos h]
 have hB:cmpI8 a1 b1=0->cmpK (a1,a2) (b1,b2)=cmpI8 a2 b2:=fun h=>by unfold cmpK;rw [if_neg (by dsimp only;omega)]
 have cA:=zod a1 b1
 have cB:=zod a2 b2
 generalize cmpI8 a1 b1=A at *
 generalize cmpI8 a2 b2=B at *
 generalize cmpK (a1,a2) (b1,b2)=C at *
 (repeat' (first|(with_reducible intro _)|refine sv ?_|(refine sc ?_ ?_<;>(intro h;try first|exact h.elim|exact absurd rfl h|(exfalso;omega)))|(refine sg ?_ ?_<;>(intro h;(fail_if_success (have:True:=h));try first|exact h.elim|exact absurd rfl h|(exfalso;omega)))|assumption|exact xm|exact rfl))
 refine zg (fun z E ms M'=>∃ k:Nat,z=2 - k /\ k<=2 /\ ms=[] /\ Has E [(0,.slice (some (i,0)) 2 f 1),(1,.slice (some (j,0)) 2 g 1),(9,.slice (some (i,0)) 2 f 1),(10,I 2),(11,I k)] /\ M'=M /\ (1<=k->A=0) /\ (2<=k->B=0))
  ?_ 2 _ _ _ ⟨0,rfl,by omega,rfl,.cons rfl (.cons rfl (.cons rfl (.cons rfl (.cons rfl .nil)))),rfl,fun h=>by omega,fun h=>by omega⟩
 rintro z E ms M1 ⟨k,rfl,hk,rfl,hE,rfl,h1,h2⟩
 refine z02 hE ?_
 match k,hk with
 | 0,_ =>
  (have hrd0:=r0;have hrd1:=s0;repeat' (first|(with_reducible intro _)|refine sv ?_|(refine sc ?_ ?_<;>(intro h;try first|exact h.elim|exact absurd rfl h|(exfalso;omega)))|((with_reducible first|apply zx|apply zu|apply zm);exact gd;exact rfl;exact rfl;(first|exact cA _))|(refine sg ?_ ?_<;>(intro h;(fail_if_success (have:True:=h));try first|exact h.elim|exact absurd rfl h|(exfalso;omega)))|assumption|exact xm|exact rfl))
  ·((with_reducible first|apply zi|apply zc);exact rx)
   rw [hA (by omega)]
   exact ⟨rfl,rfl⟩
  ·exact zk 1 (by omega) ⟨1,rfl,by omega,rfl,.cons rfl (.cons rfl (.cons rfl (.cons rfl (.cons rfl .nil)))),rfl,fun _=>by omega,fun h=>by omega⟩
 | 1,_ =>
  have h1:=h1 (Nat.le_refl _)
  (have hrd0:=r1;have hrd1:=s1;repeat' (first|(with_reducible intro _)|refine sv ?_|(refine sc ?_ ?_<;>(intro h;try first|exact h.elim|exact absurd rfl h|(exfalso;omega)))|((with_reducible first|apply zx|apply zu|apply zm);exact gd;exact rfl;exact rfl;(first|exact cB _))|(refine sg ?_ ?_<;>(intro h;(fail_if_success (have:True:=h));try first|exact h.elim|exact absurd rfl h|(exfalso;omega)))|assumption|exact xm|exact rfl))
  ·((with_reducible first|apply zi|apply zc);exact rx)
   rw [hB h1]
   exact ⟨rfl,rfl⟩
  ·exact zk 0 (by omega) ⟨2,rfl,by omega,rfl,.cons rfl (.cons rfl (.cons rfl (.cons rfl (.cons rfl .nil)))),rfl,fun _=>h1,fun _=>by omega⟩
 | 2,_ =>
  have h1:=h1 (by omega)
  have h2:=h2 (by omega)
  (repeat' (first|(with_reducible intro _)|refine sv ?_|(refine sc ?_ ?_<;>(intro h;try first|exact h.elim|exact absurd rfl h|(exfalso;omega)))|(refine sg ?_ ?_<;>(intro h;(fail_if_success (have:True:=h));try first|exact h.elim|exact absurd rfl h|(exfalso;omega)))|assumption|exact xm|exact rfl))
  ((with_reducible first|apply zi|apply zc);exact rx)
  rw [hB h1,h2]
  exact ⟨rfl,rfl⟩
theorem z0u (a1 a2 b1 b2:Int) (M:Mem):CallOk Tryz.prog 28 [.agg [I a1,I a2],.agg [I b1,I b2]] M (fun w M'=>w=I (cmpK (a1,a2) (b1,b2)) /\ Grow M M'):=by
 refine zj k28 rfl ?_
 dsimp only [x28,zipE,Nat.reduceAdd]
 (repeat' (first|(with_reducible intro _)|refine sv ?_|(refine sc ?_ ?_<;>(intro h;try first|exact h.elim|exact absurd rfl h|(exfalso;omega)))|(refine sg ?_ ?_<;>(intro h;(fail_if_success (have:True:=h));try first|exact h.elim|exact absurd rfl h|(exfalso;omega)))|assumption|exact xm|exact rfl))
 rename_i m1 M1 hN1 q1 q2 m2 M2 hN2 q3 q4
 have h1:At M2 m1 (.cells true [I a1,I a2] 88):=xm
 have h2:At M2 m2 (.cells true [I b1,I b2] 88):=xm
 refine z5l (by exact gd) (za7 rfl h1) (fun m=>At m m1 (.cells true [I a1,I a2] 88)) (fun m hm=>za7 rfl hm) ?_
 refine z5l (by exact gd) (za7 rfl h2) (fun m=>At m m2 (.cells true [I b1,I b2] 88)) (fun m hm=>za7 rfl hm) ?_
 (repeat' (first|(with_reducible intro _)|refine sv ?_|(refine sc ?_ ?_<;>(intro h;try first|exact h.elim|exact absurd rfl h|(exfalso;omega)))|((with_reducible first|apply zx|apply zu|apply zm);exact gd;exact rfl;exact rfl;(first|exact zg9 h1 h2))|(refine sg ?_ ?_<;>(intro h;(fail_if_success (have:True:=h));try first|exact h.elim|exact absurd rfl h|(exfalso;omega)))|assumption|exact xm|exact rfl))
 ((with_reducible first|apply zi|apply zc);exact rx)
 exact ⟨rfl,xg⟩
end Go.Proofs.YtbmgeagllpganaaGreatDoor.C
end
