/-
 Part of the proof of TopVoyage. No condition beyond those in each theorem.
-/
import Derived.Test.YtpgalhbplcanhaaGreatDoorSC
import Derived.Test.YtpgalhbplcanhaaGreatDoorPvG
section
open Go PvL Go.Proofs
set_option linter.unusedSimpArgs false
set_option linter.unusedVariables false
namespace Go.Proofs.YtpgalhbplcanhaaGreatDoor.C
theorem zp1(r:Rg)(hr:Sm 500000 r){p:Nat}{own:Bool}{ty:TypeId}{s:Nat}{f:Bool}{e:Nat}{M0:Mem}(hp:At M0 p (.cells own (rgc r) ty))(hs:Rd1 M0 s 0 (endsV p)) :
  ze Tryz.prog 87 [.slice (some (s,0)) 1 f e] M0 (fun w M'=>w=.tup [rgv ((tightO r).getD zRg),.bool (tightO r).isSome] /\ Grow M0 M'):=by
 have h:=znv [⟨199,[.ptr (some (p,0))],(fun i=>i=p),endsL r⟩] (s:=s) (o:=0) (f:=f) (e:=e) (M0:=M0)
  (fun k hk=>by obtain rfl:k=0:=by simpa using hk
                exact hs) (by simp)
  (fun g hg M' hM=>by obtain rfl:=List.mem_singleton.1 hg;exact zln r (hr.mono (by omega)) (At.grow hM hp))
  (fun g hg i hi=>by obtain rfl:=List.mem_singleton.1 hg;obtain rfl:i=p:=hi;exact hp.2)
  (fun g hg q hq=>by obtain rfl:=List.mem_singleton.1 hg;exact(zb9 hr hq).mono (by omega))
 rw[show List.flatMap (fun x:Gv=>x.pts) [⟨199,[.ptr (some (p,0))],(fun i=>i=p),endsL r⟩]=endsL r by simp] at h
 exact h
theorem zdy(r:Rg)(hr:Sm 500000 r)(M:Mem):ze Tryz.prog 93 [rgv r] M (fun w M'=>w=.tup [rgv ((tightO r).getD zRg),I (eTi r)] /\ Grow M M'):=by
 refine zf k93 rfl ?_
 delta x93;refine un ?_
 repeat' first|with_reducible intro _|refine sv ?_|((with_reducible first|apply zj|apply zi|apply d_pure0);exact gd;exact rfl;exact rfl;(first|exact zp1 r hr (xm) (Rd1.of_at (At.new_same (by assumption)) rfl)))|((with_reducible first|apply z7i|apply z72);exact gd;exact rfl;exact rfl;(first|exact ziu r _))|refine ss ?_ ?_<;>(intro h;first|exact sz h|refine sy h ?_)|exact sq|fail
 all_goals (refine kf ?_)
 all_goals refine⟨?_,xg⟩
 all_goals (unfold eTi;cases ht:tightO r<;>first|rfl|(simp[ht] at *;done))
theorem zrq(r:Rg)(e:Int)(M:Mem):ze Tryz.prog 96 [rgv r,I e] M (fun w M'=>w=resv (if e=0 then(r,0) else(zRg,e)) /\ Grow M M'):=by
 refine zf k96 rfl ?_
 delta x96;refine un ?_
 repeat' first|with_reducible intro _|refine sv ?_|((with_reducible first|apply zj|apply zi|apply d_pure0);exact gd;exact rfl;exact rfl;(first|exact zaz r _))|refine ss ?_ ?_<;>(intro h;first|exact sz h|refine sy h ?_)|exact sq|fail
 all_goals (refine kf ?_)
 all_goals refine⟨?_,xg⟩
 ·rw[if_neg (by omega)];rfl
 ·rw[if_pos (by omega)];rfl
theorem zlw(r:Rg)(M:Mem):ze Tryz.prog 322 [rgv r] M (fun w M'=>w=resv (insideF r) /\ Grow M M'):=by
 refine zf k322 rfl ?_
 delta x322;refine un ?_
 repeat' first|with_reducible intro _|refine sv ?_|((with_reducible first|apply zj|apply zi|apply d_pure0);exact gd;exact rfl;exact rfl;(first|exact zaz r _|exact znu _ _ _ (by omega) _))|refine ss ?_ ?_<;>(intro h;first|exact sz h|refine sy h ?_)|exact sq|fail
 all_goals (refine kf ?_)
 all_goals refine⟨?_,xg⟩
 all_goals (unfold insideF;first|(rw[if_neg (by omega)];rfl)|(rw[if_pos (by omega)];rfl))
theorem z81(r:Rg)(M:Mem):ze Tryz.prog 264 [rgv r] M (fun w M'=>w=resv (tightF r) /\ Grow M M'):=by
 refine zf k264 rfl ?_
 delta x264;refine un ?_
 by_cases hok:RgOk r
 ·have hc:eRg r=0:=if_pos hok
  repeat' first|with_reducible intro _|refine sv ?_|((with_reducible first|apply zj|apply zi|apply d_pure0);exact gd;exact rfl;exact rfl;(first|exact z22 r _|exact z3b r _|exact zdy r (hok.sm.mono (by omega)) _|exact zrq ((tightO r).getD zRg) (eTi r) _))|refine ss ?_ ?_<;>(intro h;first|exact sz h|refine sy h ?_)|exact sq|fail
  all_goals (refine kf ?_)
  all_goals refine⟨?_,xg⟩
  all_goals (unfold tightF eTi;rw[if_pos hok];cases tightO r<;>rfl)
 ·have hc:eRg r=11:=if_neg hok
  repeat' first|with_reducible intro _|refine sv ?_|((with_reducible first|apply zj|apply zi|apply d_pure0);exact gd;exact rfl;exact rfl;(first|exact z22 r _))|refine ss ?_ ?_<;>(intro h;first|exact sz h|refine sy h ?_)|exact sq|fail
  all_goals (refine kf ?_)
  all_goals refine⟨?_,xg⟩
  all_goals (unfold tightF;rw[if_neg hok,hc];rfl)
end Go.Proofs.YtpgalhbplcanhaaGreatDoor.C
end
section
open Go PvL Go.Proofs
set_option linter.unusedSimpArgs false
set_option linter.unusedVariables false
set_option maxHeartbeats 4000000
namespace Go.Proofs.YtpgalhbplcanhaaGreatDoor.C
theorem z7k(a b:Int){s:Nat}{f:Bool}{e:Nat}{M:Mem}(h0:Rd1 M s 0 (I a))(h1:Rd1 M s 1 (I b)):ze Tryz.prog 269 [.slice (some (s,0)) 2 f e] M (fun w M'=>w=I (if a=0 then b else a) /\ M'=M):=by
 refine zf k269 rfl ?_
 delta x269;refine un ?_
 repeat' first|with_reducible intro _|refine sv ?_|refine su ?_|refine ss ?_ ?_<;>(intro h;first|exact sz h|refine sy h ?_)|exact sq|fail
 all_goals (refine kf ?_)
 all_goals refine⟨?_,rfl⟩
 ·rw[if_neg (by omega)];rfl
 ·rw[if_pos (by omega)];rfl
 ·rw[if_pos (by omega)];exact congrArg I (by omega)
theorem zed{l n:Int}(h:-l<=n /\ n<=l):iMax (-l) (iMin n l)=n:=by unfold iMax iMin;omega
theorem zg2{l n:Int}(hl:0<=l)(h:¬(-l<=n /\ n<=l)):iMax (-l) (iMin n l) ≠ n:=by unfold iMax iMin;omega
theorem zcc(r:Rg)(p:Int × Int)(M:Mem):ze Tryz.prog 266 [rgv r,ptv p] M (fun w M'=>w=resv (moveF r p) /\ Grow M M'):=by
 refine zf k266 rfl ?_
 delta x266;refine un ?_
 by_cases hok:RgOk r
 ·have hc:eRg r=0:=if_pos hok
  by_cases hp:SmP 65536 p
  ·have hsof:Sm 1000000 (ofP p):=by unfold Sm ofP;dsimp only;omega
   have h1:=zed hp.1
   have h2:=zed hp.2
   cases ht:tightO r with
   | none =>
    have he:eTi r=4:=by unfold eTi;rw[ht];rfl
    repeat' first|with_reducible intro _|refine sv ?_|((with_reducible first|apply zu|apply zt|apply zn);exact gd;exact rfl;exact rfl;(first|exact z83 _ _ (by omega) _))|((with_reducible first|apply zj|apply zi|apply d_pure0);exact gd;exact rfl;exact rfl;(first|exact z22 r _|exact z3b r _|exact zdy r (hok.sm.mono (by omega)) _))|refine ss ?_ ?_<;>(intro h;first|exact sz h|refine sy h ?_)|exact sq|fail
    all_goals (refine kf ?_)
    all_goals refine⟨?_,xg⟩
    all_goals (unfold moveF;rw[if_pos hok,if_pos hp,ht,he];rfl)
   | some t =>
    have he:eTi r=0:=by unfold eTi;rw[ht];rfl
    have hs:=znc hok.sm
    repeat' first|with_reducible intro _|refine sv ?_|((with_reducible first|apply zu|apply zt|apply zn);exact gd;exact rfl;exact rfl;(first|exact z83 _ _ (by omega) _))|((with_reducible first|apply zj|apply zi|apply d_pure0);exact gd;exact rfl;exact rfl;(first|exact z22 r _|exact z3b r _|exact zdy r (hok.sm.mono (by omega)) _|exact c_of p (by omega) _|exact z82 ((tightO r).getD zRg) (ofP p) (hs.mono (by omega)) hsof _|exact zlw (map4 plusB ((tightO r).getD zRg) (ofP p)) _))|refine ss ?_ ?_<;>(intro h;first|exact sz h|refine sy h ?_)|exact sq|fail
    all_goals (refine kf ?_)
    all_goals refine⟨?_,xg⟩
    all_goals (unfold moveF;rw[if_pos hok,if_pos hp,ht];rfl)
  ·have hz:moveF r p=(zRg,7):=by unfold moveF;rw[if_pos hok,if_neg hp]
   by_cases hx:-65536<=p.1 /\ p.1<=65536
   ·have h1:=zed hx
    have h2:=zg2 (l:=65536) (n:=p.2) (by omega) (fun h=>hp ⟨hx,h⟩)
    repeat' first|with_reducible intro _|refine sv ?_|((with_reducible first|apply zu|apply zt|apply zn);exact gd;exact rfl;exact rfl;(first|exact z83 _ _ (by omega) _))|((with_reducible first|apply zj|apply zi|apply d_pure0);exact gd;exact rfl;exact rfl;(first|exact z22 r _))|refine ss ?_ ?_<;>(intro h;first|exact sz h|refine sy h ?_)|exact sq|fail
    all_goals (refine kf ?_)
    all_goals refine⟨?_,xg⟩
    all_goals (rw[hz];rfl)
   ·have h1:=zg2 (l:=65536) (n:=p.1) (by omega) hx
    repeat' first|with_reducible intro _|refine sv ?_|((with_reducible first|apply zu|apply zt|apply zn);exact gd;exact rfl;exact rfl;(first|exact z83 _ _ (by omega) _))|((with_reducible first|apply zj|apply zi|apply d_pure0);exact gd;exact rfl;exact rfl;(first|exact z22 r _))|refine ss ?_ ?_<;>(intro h;first|exact sz h|refine sy h ?_)|exact sq|fail
    all_goals (refine kf ?_)
    all_goals refine⟨?_,xg⟩
    all_goals (rw[hz];rfl)
 ·have hc:eRg r=11:=if_neg hok
  repeat' first|with_reducible intro _|refine sv ?_|((with_reducible first|apply zj|apply zi|apply d_pure0);exact gd;exact rfl;exact rfl;(first|exact z22 r _))|refine ss ?_ ?_<;>(intro h;first|exact sz h|refine sy h ?_)|exact sq|fail
  all_goals (refine kf ?_)
  all_goals refine⟨?_,xg⟩
  all_goals (unfold moveF;rw[if_neg hok,hc];rfl)
theorem zp2(a b:Rg)(ha:Sm 500000 a)(hb:Sm 500000 b){p q:Nat}{own own':Bool}{ty ty':TypeId}{s:Nat}{f:Bool}{e:Nat}{M0:Mem}(hp:At M0 p (.cells own (rgc a) ty))(hq:At M0 q (.cells own' (rgc b) ty'))(h0:Rd1 M0 s 0 (endsV p))(h1:Rd1 M0 s 1 (endsV q)) :
  ze Tryz.prog 87 [.slice (some (s,0)) 2 f e] M0 (fun w M'=>w=.tup [rgv ((hullO none (endsL a ++ endsL b)).getD zRg),.bool (hullO none (endsL a ++ endsL b)).isSome] /\ Grow M0 M'):=by
 have h:=znv [⟨199,[.ptr (some (p,0))],(fun i=>i=p),endsL a⟩,⟨199,[.ptr (some (q,0))],(fun i=>i=q),endsL b⟩] (s:=s) (o:=0) (f:=f) (e:=e) (M0:=M0)
  (fun k hk=>by
   match k,hk with
   | 0,_=>exact h0
   | 1,_=>exact h1
   | k+2,hk=>exact absurd hk (by simp)) (by simp)
  (fun g hg M' hM=>by
   rcases List.mem_cons.1 hg with rfl|hg
   ·exact zln a (ha.mono (by omega)) (At.grow hM hp)
   ·obtain rfl:=List.mem_singleton.1 hg;exact zln b (hb.mono (by omega)) (At.grow hM hq))
  (fun g hg i hi=>by
   rcases List.mem_cons.1 hg with rfl|hg
   ·obtain rfl:i=p:=hi;exact hp.2
   ·obtain rfl:=List.mem_singleton.1 hg;obtain rfl:i=q:=hi;exact hq.2)
  (fun g hg r hr=>by
   rcases List.mem_cons.1 hg with rfl|hg
   ·exact(zb9 ha hr).mono (by omega)
   ·obtain rfl:=List.mem_singleton.1 hg;exact(zb9 hb hr).mono (by omega))
 rw[show List.flatMap (fun x:Gv=>x.pts) [⟨199,[.ptr (some (p,0))],(fun i=>i=p),endsL a⟩,⟨199,[.ptr (some (q,0))],(fun i=>i=q),endsL b⟩]=endsL a ++ endsL b by simp] at h
 exact h
theorem zrh(a b:Rg)(M:Mem):ze Tryz.prog 267 [rgv a,rgv b] M (fun w M'=>w=resv (joinF a b) /\ Grow M M'):=by
 refine zf k267 rfl ?_
 delta x267;refine un ?_
 by_cases hok:RgOk a /\ RgOk b
 ·have hc:eRg a=0:=if_pos hok.1
  have hc':eRg b=0:=if_pos hok.2
  have h0:(if eRg a=0 then eRg b else eRg a)=0:=by rw[hc,hc'];rfl
  repeat' first|with_reducible intro _|refine sv ?_|((with_reducible first|apply zu|apply zt|apply zn);exact gd;exact rfl;exact rfl;(first|exact z7k _ _ (Rd1.of_at (At.new_same (by assumption)) rfl) (Rd1.of_at (At.new_same (by assumption)) rfl)))|((with_reducible first|apply zj|apply zi|apply d_pure0);exact gd;exact rfl;exact rfl;(first|exact z22 a _|exact z22 b _|exact z3b a _|exact z3b b _|exact zp2 a b (hok.1.sm.mono (by omega)) (hok.2.sm.mono (by omega)) (xm) (xm) (Rd1.of_at (At.new_same (by assumption)) rfl) (Rd1.of_at (At.new_same (by assumption)) rfl)|exact zaz ((hullO none (endsL a ++ endsL b)).getD zRg) _))|((with_reducible first|apply z7i|apply z72);exact gd;exact rfl;exact rfl;(first|exact ziu a _|exact ziu b _))|refine ss ?_ ?_<;>(intro h;first|exact sz h|refine sy h ?_)|exact sq|fail
  all_goals (refine kf ?_)
  all_goals refine⟨?_,xg⟩
  all_goals first|(rw[zhg hok (by assumption)];rfl)|(rw[zhf hok (by assumption)];rfl)
 ·have h0:(if eRg a=0 then eRg b else eRg a)=11:=by
   unfold eRg
   by_cases h1:RgOk a
   ·rw[if_pos h1,if_pos rfl,if_neg (fun h2=>hok ⟨h1,h2⟩)]
   ·rw[if_neg h1];rfl
  repeat' first|with_reducible intro _|refine sv ?_|((with_reducible first|apply zu|apply zt|apply zn);exact gd;exact rfl;exact rfl;(first|exact z7k _ _ (Rd1.of_at (At.new_same (by assumption)) rfl) (Rd1.of_at (At.new_same (by assumption)) rfl)))|((with_reducible first|apply zj|apply zi|apply d_pure0);exact gd;exact rfl;exact rfl;(first|exact z22 a _|exact z22 b _))|refine ss ?_ ?_<;>(intro h;first|exact sz h|refine sy h ?_)|exact sq|fail
  all_goals (refine kf ?_)
  all_goals refine⟨?_,xg⟩
  all_goals (unfold joinF;rw[if_neg hok,h0];rfl)
theorem zim(r:Rg)(p q:Int × Int)(M:Mem):ze Tryz.prog 215 [rgv r,ptv p,ptv q] M (fun w M'=>w=resv (sweptF r p q) /\ Grow M M'):=by
 refine zf k215 rfl ?_
 delta x215;refine un ?_
 by_cases h1:(moveF r p).2=0
 ·by_cases h2:(moveF r q).2=0
  ·repeat' first|with_reducible intro _|refine sv ?_|((with_reducible first|apply zj|apply zi|apply d_pure0);exact gd;exact rfl;exact rfl;(first|exact zcc r p _|exact zcc r q _|exact zrh (moveF r p).1 (moveF r q).1 _))|refine ss ?_ ?_<;>(intro h;first|exact sz h|refine sy h ?_)|exact sq|fail
   all_goals (refine kf ?_)
   all_goals refine⟨?_,xg⟩
   all_goals (unfold sweptF;rw[if_pos h1,if_pos h2];rfl)
  ·repeat' first|with_reducible intro _|refine sv ?_|((with_reducible first|apply zj|apply zi|apply d_pure0);exact gd;exact rfl;exact rfl;(first|exact zcc r p _|exact zcc r q _))|refine ss ?_ ?_<;>(intro h;first|exact sz h|refine sy h ?_)|exact sq|fail
   all_goals (refine kf ?_)
   all_goals refine⟨?_,xg⟩
   all_goals (unfold sweptF;rw[if_pos h1,if_neg h2];rfl)
 ·repeat' first|with_reducible intro _|refine sv ?_|((with_reducible first|apply zj|apply zi|apply d_pure0);exact gd;exact rfl;exact rfl;(first|exact zcc r p _))|refine ss ?_ ?_<;>(intro h;first|exact sz h|refine sy h ?_)|exact sq|fail
  all_goals (refine kf ?_)
  all_goals refine⟨?_,xg⟩
  all_goals (unfold sweptF;rw[if_neg h1];rfl)
end Go.Proofs.YtpgalhbplcanhaaGreatDoor.C
end
section
open Go PvL Go.Proofs
set_option linter.unusedSimpArgs false
set_option linter.unusedVariables false
namespace Go.Proofs.YtpgalhbplcanhaaGreatDoor.C
theorem zrv(a b c:Pt)(ha:PlP a)(hb:PlP b)(hc:PlP c)(M:Mem):ze Tryz.prog 321 [ptv a,ptv b,ptv c] M (fun w M'=>w=I (turnP a b c) /\ Grow M M'):=by
 have ht:=zqf ha hb hc
 dsimp only[PlP,Pl] at ha hb hc
 refine zf k321 rfl ?_
 delta x321;refine un ?_
 repeat' first|with_reducible intro _|refine sv ?_|refine ss ?_ ?_<;>(intro h;first|exact sz h|refine sy h ?_)|exact sq|fail
 refine kf ?_
 exact⟨rfl,xg⟩
set_option maxHeartbeats 4000000 in
theorem z6z{a:Option (Nat × Nat)}{f:Bool}{l:List Pt}{M:Mem}(hl:SlA 2 ptc M a l)(hlen:l.length<=1000000000000000):ze Tryz.prog 262 [.slice a l.length f 2] M (fun w M'=>w=I (eFd l) /\ Grow M M'):=by
 refine zf k262 rfl ?_
 delta x262;refine un ?_
 by_cases hn:3<=l.length /\ l.length<=8
 rotate_left
 ·have hno:eFd l=12:=if_neg fun h=>hn ⟨h.1,h.2.1⟩
  have hw:¬(3<=(l.length:Int) /\ (l.length:Int)<=8):=by omega
  repeat' first|with_reducible intro _|refine sv ?_|((with_reducible first|apply zu|apply zt|apply zn);exact gd;exact rfl;exact rfl;(first|exact z85 _ _ _ _))|refine ss ?_ ?_<;>(intro h;first|exact sz h|refine sy h ?_)|exact sq|fail
  all_goals (refine kf ?_)
  all_goals exact⟨by rw[hno];rfl,xg⟩
 obtain⟨i,o,rfl,hr⟩:=hl.resolve_left (fun h=>by subst h;simp at hn)
 have hw:(3<=(l.length:Int) /\ (l.length:Int)<=8):=by omega
 repeat' first|with_reducible intro _|refine sv ?_|((with_reducible first|apply zu|apply zt|apply zn);exact gd;exact rfl;exact rfl;(first|exact z85 _ _ _ _))|refine ss ?_ ?_<;>(intro h;first|exact sz h|refine sy h ?_)|exact sq|fail
 refine zk (fun n E ms M'=>∃ k:Nat,n=l.length - k /\ k<=l.length /\ ms=[] /\ Has E [(0,.slice (some (i,o)) l.length f 2),(14,.slice (some (i,o)) l.length f 2),(15,I l.length),(16,I k)] /\ Grow M M' /\ ∀ p ∈ l.take k,PlP p)
  ?_ l.length _ _ _ ⟨0,by omega,by omega,rfl,.cons rfl (.cons rfl (.cons rfl (.cons rfl .nil))),xg,by simp⟩
 rintro n E ms M1 ⟨k,rfl,hk,rfl,hE,hg,hpl⟩
 have hle:=hg.le
 refine z1h hE ?_
 have hr1:∀ k (hk:k < l.length),Rd M1 i (o+k*2) 2 (ptc l[k]):=fun k hk=>(hr k hk).grow hg
 by_cases hlast:k=l.length
 rotate_left
 ·have hlt:k < l.length:=by omega
  have htake:l.take (k+1)=l.take k ++ [l[k]]:=List.take_succ_eq_append_getElem hlt
  by_cases hp:PlP l[k]
  ·have he:ePt l[k].1 l[k].2=0:=if_pos hp
   (have hrd0:=hr1 k hlt;repeat' (first|(with_reducible intro _)|refine sv ?_|((with_reducible first|apply zj|apply zi|apply d_pure0);exact gd;exact rfl;exact rfl;(first|exact z0j _ _ _))|refine ss ?_ ?_<;>(intro h;first|exact sz h|refine sy h ?_)|exact sq|fail))
   refine z0d (l.length - (k+1)) (by omega) ⟨k+1,rfl,by omega,rfl,.cons rfl (.cons rfl (.cons rfl (.cons rfl .nil))),xg,?_⟩
   rw[htake]
   intro p hp'
   rcases List.mem_append.1 hp' with h|h
   ·exact hpl p h
   ·obtain rfl:=List.mem_singleton.1 h;exact hp
  ·have he:ePt l[k].1 l[k].2=10:=if_neg hp
   have hno:eFd l=12:=if_neg fun h=>hp (h.2.2.1 _ (List.getElem_mem hlt))
   (have hrd0:=hr1 k hlt;repeat' (first|(with_reducible intro _)|refine sv ?_|((with_reducible first|apply zj|apply zi|apply d_pure0);exact gd;exact rfl;exact rfl;(first|exact z0j _ _ _))|refine ss ?_ ?_<;>(intro h;first|exact sz h|refine sy h ?_)|exact sq|fail))
   all_goals (refine kf ?_)
   all_goals exact⟨by rw[hno];rfl,xg⟩
 subst hlast
 rw[List.take_length] at hpl
 repeat' first|with_reducible intro _|refine sv ?_|refine ss ?_ ?_<;>(intro h;first|exact sz h|refine sy h ?_)|exact sq|fail
 have hpl':∀(i:Nat) (h:i < l.length),PlP l[i]:=fun i h=>hpl _ (List.getElem_mem h)
 have hmod:∀ i:Nat,((i:Int)+1) % (l.length:Int)=(((i+1) % l.length:Nat):Int):=fun i=>by rw[Int.natCast_emod];rfl
 have hml:∀ i:Nat,(i+1) % l.length < l.length:=fun i=>zbf (by omega)
 refine zk (fun n E ms M'=>∃ k:Nat,n=l.length - k /\ k<=l.length /\ ms=[] /\ Has E [(0,.slice (some (i,o)) l.length f 2),(24,.slice (some (i,o)) l.length f 2),(25,I l.length),(26,I k)] /\ Grow M M' /\
   ∀(i j:Nat) (hi:i < k) (hi':i < l.length) (hj:j < l.length),j ≠ i->j ≠(i+1) % l.length->0 < turnP l[i] (l[(i+1) % l.length]'(hml i)) l[j])
  ?_ l.length _ _ _ ⟨0,by omega,by omega,rfl,.cons rfl (.cons rfl (.cons rfl (.cons rfl .nil))),xg,fun i j hi=>absurd hi (Nat.not_lt_zero _)⟩
 clear hE hr1 hg hle
 clear M1
 rintro n E ms M1 ⟨k,rfl,hk,rfl,hE,hg,hall⟩
 have hle:=hg.le
 refine z1h hE ?_
 have hr1:∀ k (hk:k < l.length),Rd M1 i (o+k*2) 2 (ptc l[k]):=fun k hk=>(hr k hk).grow hg
 by_cases hlast:k=l.length
 ·subst hlast
  have hyes:eFd l=0:=if_pos ⟨hn.1,hn.2,hpl,fun i j hi hj=>hall i j hi hi hj⟩
  repeat' first|with_reducible intro _|refine sv ?_|refine ss ?_ ?_<;>(intro h;first|exact sz h|refine sy h ?_)|exact sq|fail
  all_goals (refine kf ?_)
  all_goals exact⟨by rw[hyes];rfl,xg⟩
 have hlt:k < l.length:=by omega
 have hk1:=hmod k
 have hk1':=hml k
 (have hrd0:=hr1 k hlt;repeat' (first|(with_reducible intro _)|refine sv ?_|refine ss ?_ ?_<;>(intro h;first|exact sz h|refine sy h ?_)|exact sq|fail))
 rename_i n6 M2 hn6 e6 e6' M3 hu3 e7 a3
 refine zk (fun n E ms M'=>∃ kk:Nat,n=l.length - kk /\ kk<=l.length /\ ms=[] /\ Has E [(0,.slice (some (i,o)) l.length f 2),(24,.slice (some (i,o)) l.length f 2),(25,I l.length),(26,I k),(5,I k),(7,I ((k+1) % l.length:Nat)),(6,.ptr (some (n6,0))),(36,.slice (some (i,o)) l.length f 2),(37,I l.length),(38,I kk)] /\
   Grow M3 M' /\ ∀(j:Nat) (hi:j < kk) (hj:j < l.length),j ≠ k->j ≠(k+1) % l.length->0 < turnP l[k] (l[(k+1) % l.length]'(hml k)) l[j])
  ?_ l.length _ _ _ ⟨0,by omega,by omega,rfl,.cons rfl (.cons rfl (.cons rfl (.cons rfl (.cons rfl (.cons (by rw[<-hk1];rfl) (.cons rfl (.cons rfl (.cons rfl (.cons rfl .nil))))))))),xg,fun j hi=>absurd hi (Nat.not_lt_zero _)⟩
 rintro n E ms M4 ⟨kk,rfl,hkk,rfl,hE4,hg4,hall4⟩
 have hle4:=hg4.le
 refine z1h hE4 ?_
 have hr4:∀ k (hk:k < l.length),Rd M4 i (o+k*2) 2 (ptc l[k]):=fun k hk=>(((hr1 k hk).new_old hn6).upd_ne hu3 (by have:=(hr1 k hk).2;omega)).grow hg4
 have a4:=At.grow hg4 a3
 by_cases hlast4:kk=l.length
 ·subst hlast4
  repeat' first|with_reducible intro _|refine sv ?_|refine ss ?_ ?_<;>(intro h;first|exact sz h|refine sy h ?_)|exact sq|fail
  refine z0d (l.length - (k+1)) (by omega) ⟨k+1,rfl,by omega,rfl,.cons rfl (.cons rfl (.cons rfl (.cons rfl .nil))),xg,fun i' j hi hi' hj h1 h2=>?_⟩
  by_cases hik:i'=k
  ·subst hik;exact hall4 j hj hj h1 h2
  ·exact hall i' j (by omega) hi' hj h1 h2
 have hlt4:kk < l.length:=by omega
 have hstep:(kk=k ∨ kk=(k+1) % l.length ∨ 0 < turnP l[k] (l[(k+1) % l.length]'(hml k)) l[kk])->∀(j:Nat) (hi:j < kk+1) (hj:j < l.length),j ≠ k->j ≠(k+1) % l.length->0 < turnP l[k] (l[(k+1) % l.length]'(hml k)) l[j]:=fun hc j hi hj h1 h2=>by
  by_cases hjk:j=kk
  ·subst hjk
   rcases hc with hc|hc|hc
   ·exact absurd hc h1
   ·exact absurd hc h2
   ·exact hc
  ·exact hall4 j (by omega) hj h1 h2
 have hi4:i < M4.next:=(hr4 kk hlt4).2
 have hpa:=hpl' k hlt
 have hpb:=hpl' _ (hml k)
 have hpc:=hpl' kk hlt4
 have cl:=zrv l[k] (l[(k+1) % l.length]'(hml k)) l[kk] hpa hpb hpc
 (have hrd0:=hr4 kk hlt4;have hrd1:=hr4 _ (hml k);repeat' (first|(with_reducible intro _)|refine sv ?_|((with_reducible first|apply zj|apply zi|apply d_pure0);exact gd;exact rfl;exact rfl;(first|exact cl _))|refine ss ?_ ?_<;>(intro h;first|exact sz h|refine sy h ?_)|exact sq|fail))
 rotate_left
 all_goals first
  |(refine z0d (l.length - (kk+1)) (by omega) ⟨kk+1,rfl,by omega,rfl,.cons rfl (.cons rfl (.cons rfl (.cons rfl (.cons rfl (.cons rfl (.cons rfl (.cons rfl (.cons rfl (.cons rfl .nil))))))))),xg,hstep (by omega)⟩;done)
  |((refine kf ?_)
    refine⟨?_,xg⟩
    rw[show eFd l=12 from if_neg fun hF=>by have:=hF.2.2.2 k kk hlt hlt4 (by omega) (by omega);omega];rfl)
theorem SlL.elems{α:Type}{sz:Nat}{enc:α->List LV}{M:Mem}{a:Option (Nat × Nat)}{ll:List (List α)}(h:SlL sz enc M a ll) :
  ∃(ea:Nat->Option (Nat × Nat)) (ef:Nat->Bool),∀ k (hk:k < ll.length),(∃ i o,a=some (i,o) /\ Rd1 M i (o+k*1) (.slice (ea k) ll[k].length (ef k) sz)) /\ SlA sz enc M (ea k) ll[k] /\ ll[k].length<=1000000000000000:=by
 have key:∀ k:Nat,∃(x:Option (Nat × Nat) × Bool),∀ hk:k < ll.length,(∃ i o,a=some (i,o) /\ Rd1 M i (o+k*1) (.slice x.1 ll[k].length x.2 sz)) /\ SlA sz enc M x.1 ll[k] /\ ll[k].length<=1000000000000000:=fun k=>by
  by_cases hk:k < ll.length
  ·obtain⟨i,o,h1,h2⟩:=h.resolve_left (fun e=>by subst e;simp at hk)
   obtain⟨a',f',g1,g2,g3⟩:=h2 k hk
   exact⟨(a',f'),fun _=>⟨⟨i,o,h1,g1⟩,g2,g3⟩⟩
  ·exact⟨(none,true),fun hk'=>absurd hk' hk⟩
 have⟨g,hg⟩:=Classical.axiomOfChoice key
 exact⟨fun k=>(g k).1,fun k=>(g k).2,fun k hk=>hg k hk⟩
theorem zis{a:Option (Nat × Nat)}{f:Bool}{l:List Pt}{M:Mem}(hl:SlA 2 ptc M a l)(hlen:l.length<=1000000000000000):ze Tryz.prog 261 [.slice a l.length f 2] M (fun w M'=>w=.bool (decide (eFd l ≠ 0)) /\ Grow M M'):=by
 refine zf k261 rfl ?_
 delta x261;refine un ?_
 have hcf:=fun M' (hg:Grow M M')=>z6z (f:=f) (hl.grow hg) hlen
 repeat' first|with_reducible intro _|refine sv ?_|((with_reducible first|apply zj|apply zi|apply d_pure0);exact gd;exact rfl;exact rfl;(first|exact hcf _ (xg)))|refine ss ?_ ?_<;>(intro h;first|exact sz h|refine sy h ?_)|exact sq|fail
 refine kf ?_
 exact⟨rfl,xg⟩
theorem zit(p:Pt)(M:Mem):ze Tryz.prog 263 [ptv p] M (fun w M'=>w=.bool (decide (ePt p.1 p.2 ≠ 0)) /\ Grow M M'):=by
 refine zf k263 rfl ?_
 delta x263;refine un ?_
 repeat' first|with_reducible intro _|refine sv ?_|((with_reducible first|apply zj|apply zi|apply d_pure0);exact gd;exact rfl;exact rfl;(first|exact z0j _ _ _))|refine ss ?_ ?_<;>(intro h;first|exact sz h|refine sy h ?_)|exact sq|fail
 refine kf ?_
 exact⟨rfl,xg⟩
theorem zb2(p:Pt × Int)(M:Mem):ze Tryz.prog 110 [.agg [I p.1.1,I p.1.2,I p.2]] M (fun w M'=>w=.bool (decide (PlP p.1 /\ 0<=p.2 /\ p.2<=7)) /\ Grow M M'):=by
 refine zf k110 rfl ?_
 delta x110;refine un ?_
 by_cases hp:PlP p.1
 ·have he:ePt p.1.1 p.1.2=0:=if_pos hp
  repeat' first|with_reducible intro _|refine sv ?_|((with_reducible first|apply zu|apply zt|apply zn);exact gd;exact rfl;exact rfl;(first|exact z1r _ _ _ _))|((with_reducible first|apply zj|apply zi|apply d_pure0);exact gd;exact rfl;exact rfl;(first|exact z0j _ _ _))|refine ss ?_ ?_<;>(intro h;first|exact sz h|refine sy h ?_)|exact sq|fail
  all_goals (refine kf ?_)
  all_goals refine⟨?_,xg⟩
  all_goals exact zd0 ⟨fun h=>⟨hp,h⟩,fun h=>h.2⟩
 ·have he:ePt p.1.1 p.1.2=10:=if_neg hp
  repeat' first|with_reducible intro _|refine sv ?_|((with_reducible first|apply zj|apply zi|apply d_pure0);exact gd;exact rfl;exact rfl;(first|exact z0j _ _ _))|refine ss ?_ ?_<;>(intro h;first|exact sz h|refine sy h ?_)|exact sq|fail
  all_goals (refine kf ?_)
  all_goals refine⟨?_,xg⟩
  all_goals exact lb_f (fun h=>hp h.1)
theorem zkz{r:Rg}(h:RgOk r /\ (tightO r).isSome=true):(tightF r).2=0:=by
 unfold tightF
 rw[if_pos h.1]
 obtain⟨t,ht⟩:=Option.isSome_iff_exists.1 h.2
 rw[ht]
theorem zky{r:Rg}(h:¬(RgOk r /\ (tightO r).isSome=true)):(tightF r).2 ≠ 0:=by
 unfold tightF
 by_cases h1:RgOk r
 ·rw[if_pos h1]
  cases ht:tightO r with
  | none=>decide
  | some t=>exact absurd ⟨h1,by rw[ht];rfl⟩ h
 ·rw[if_neg h1];decide
set_option maxHeartbeats 8000000 in
theorem zlv{A:CrA}{s:Cr}{M:Mem}(hM:CrM M A s):ze Tryz.prog 206 [crv A s] M (fun w M'=>w=.bool (crB s) /\ Grow M M'):=by
 refine zf k206 rfl ?_
 delta x206;refine un ?_
 obtain⟨aL,fL,aF,fF,aB,fB,aO,fO,eF⟩:=A
 have hnl:=hM.nl
 have hnf:=hM.nf
 have hnb:=hM.nb
 have hno:=hM.no
 by_cases h0:(1<=s.lines.length /\ s.lines.length<=5) /\ s.fields.length<=4 /\ s.buoys.length<=4 /\ s.opn.length=s.lines.length
 rotate_left
 ·have hb:crB s=false:=zb8 fun hc=>h0 ⟨⟨hc.n1,hc.n5⟩,hc.nf,hc.nb,hc.no⟩
  have h1:¬((1<=(s.lines.length:Int) /\ (s.lines.length:Int)<=5) /\ (s.fields.length:Int)<=4 /\ (s.buoys.length:Int)<=4 /\ (s.opn.length:Int)=s.lines.length):=by omega
  repeat' first|with_reducible intro _|refine sv ?_|((with_reducible first|apply zu|apply zt|apply zn);exact gd;exact rfl;exact rfl;(first|exact z1r _ _ _ _))|refine ss ?_ ?_<;>(intro h;first|exact sz h|refine sy h ?_)|exact sq|fail
  all_goals first
   |(exfalso;omega)
   |((refine kf ?_)
     exact⟨by rw[hb];rfl,xg⟩)
 have h1:(1<=(s.lines.length:Int) /\ (s.lines.length:Int)<=5) /\ (s.fields.length:Int)<=4 /\ (s.buoys.length:Int)<=4 /\ (s.opn.length:Int)=s.lines.length:=by omega
 repeat' first|with_reducible intro _|refine sv ?_|((with_reducible first|apply zu|apply zt|apply zn);exact gd;exact rfl;exact rfl;(first|exact z1r _ _ _ _))|refine ss ?_ ?_<;>(intro h;first|exact sz h|refine sy h ?_)|exact sq|fail
 rename_i n1 M1 hn1 e1 e2 _ _ _
 refine zk (fun n E ms M'=>∃ k:Nat,n=s.lines.length - k /\ k<=s.lines.length /\ ms=[] /\ Has E [(1,.ptr (some (n1,0))),(34,.slice aL s.lines.length fL 4),(35,I s.lines.length),(36,I k)] /\ Grow M M' /\ M1.next<=M'.next /\ At M' n1 (.cells true (crc ⟨aL,fL,aF,fF,aB,fB,aO,fO,eF⟩ s) 35) /\
   ∀ j (hj:j < s.lines.length),j < k->LineOk s.lines[j] /\ WinOk (s.opn[j]'(by omega))) ?_ s.lines.length _ _ _
  ⟨0,by omega,by omega,rfl,.cons rfl (.cons rfl (.cons rfl (.cons rfl .nil))),xg,by omega,xm,fun j hj h=>absurd h (Nat.not_lt_zero _)⟩
 rintro n E ms M2 ⟨k,rfl,hk,rfl,hE,hG,hle1,a1,hall⟩
 have hle:=hG.le
 refine z1h hE ?_
 by_cases hlast:k=s.lines.length
 rotate_left
 ·have hlt:k < s.lines.length:=by omega
  have hlt2:k < s.opn.length:=by omega
  obtain⟨i,o,rfl,hr⟩:=(show SlA 4 legc M aL s.lines from hM.lines).resolve_left (fun e=>by rw[e] at hlt;simp at hlt)
  obtain⟨i2,o2,rfl,hr2⟩:=(show SlL 2 bdc M aO s.opn from hM.opn).resolve_left (fun e=>by rw[e] at hlt2;simp at hlt2)
  obtain⟨a',f',g1,g2,g3⟩:=hr2 k hlt2
  have r1:Rd M2 i (o+k*4) 4 (legc s.lines[k]):=(hr k hlt).grow hG
  have r2:Rd1 M2 i2 (o2+k*1) (.slice a' s.opn[k].length f' 2):=g1.grow hG
  have hw:=fun M' (hg:Grow M M')=>zix (f:=f') (g2.grow hg) g3
  have hi1:=r1.2
  have hi2:=r2.2
  have hbad:¬(LineOk s.lines[k] /\ WinOk s.opn[k])->crB s=false:=fun hn=>zb8 fun hc=>hn ⟨hc.lines _ (List.getElem_mem hlt),hc.opn _ (List.getElem_mem hlt2)⟩
  have hgood:LineOk s.lines[k] /\ WinOk s.opn[k]->∀ j (hj:j < s.lines.length),j < k+1->LineOk s.lines[j] /\ WinOk (s.opn[j]'(by omega)):=fun hg j hj h=>by
   by_cases hjk:j=k
   ·subst hjk;exact hg
   ·exact hall j hj (by omega)
  clear hall
  by_cases q1:PlP s.lines[k].1
  ·have e1:ePt s.lines[k].1.1 s.lines[k].1.2=0:=if_pos q1
   by_cases q2:PlP s.lines[k].2
   ·have e2:ePt s.lines[k].2.1 s.lines[k].2.2=0:=if_pos q2
    by_cases q3:s.lines[k].1.1=s.lines[k].2.1 /\ s.lines[k].1.2=s.lines[k].2.2
    ·have hb:=hbad fun hh=>hh.1.2.2 (Prod.ext q3.1 q3.2)
     (have hrd0:=r1;have hrd1:=r2;repeat' (first|(with_reducible intro _)|refine sv ?_|((with_reducible first|apply zj|apply zi|apply d_pure0);exact gd;exact rfl;exact rfl;(first|exact z0j _ _ _))|refine ss ?_ ?_<;>(intro h;first|exact sz h|refine sy h ?_)|exact sq|fail))
     all_goals (refine kf ?_)
     all_goals exact⟨by rw[hb];rfl,xg⟩
    ·by_cases q4:WinOk s.opn[k]
     ·rw[zog q4] at hw
      have hg:=hgood ⟨⟨q1,q2,fun e=>q3 (by rw[e];exact⟨rfl,rfl⟩)⟩,q4⟩
      (have hrd0:=r1;have hrd1:=r2;repeat' (first|(with_reducible intro _)|refine sv ?_|((with_reducible first|apply zj|apply zi|apply d_pure0);exact gd;exact rfl;exact rfl;(first|exact z0j _ _ _|exact hw _ (xg)))|refine ss ?_ ?_<;>(intro h;first|exact sz h|refine sy h ?_)|exact sq|fail))
      refine z0d (s.lines.length - (k+1)) (by omega) ⟨k+1,rfl,by omega,rfl,.cons rfl (.cons rfl (.cons rfl (.cons rfl .nil))),xg,by omega,xm,hg⟩
     ·have hb:=hbad fun hh=>q4 hh.2
      rw[zl9 q4] at hw
      (have hrd0:=r1;have hrd1:=r2;repeat' (first|(with_reducible intro _)|refine sv ?_|((with_reducible first|apply zj|apply zi|apply d_pure0);exact gd;exact rfl;exact rfl;(first|exact z0j _ _ _|exact hw _ (xg)))|refine ss ?_ ?_<;>(intro h;first|exact sz h|refine sy h ?_)|exact sq|fail))
      all_goals (refine kf ?_)
      all_goals exact⟨by rw[hb];rfl,xg⟩
   ·have e2:ePt s.lines[k].2.1 s.lines[k].2.2=10:=if_neg q2
    have hb:=hbad fun hh=>q2 hh.1.2.1
    (have hrd0:=r1;have hrd1:=r2;repeat' (first|(with_reducible intro _)|refine sv ?_|((with_reducible first|apply zj|apply zi|apply d_pure0);exact gd;exact rfl;exact rfl;(first|exact z0j _ _ _))|refine ss ?_ ?_<;>(intro h;first|exact sz h|refine sy h ?_)|exact sq|fail))
    all_goals (refine kf ?_)
    all_goals exact⟨by rw[hb];rfl,xg⟩
  ·have e1:ePt s.lines[k].1.1 s.lines[k].1.2=10:=if_neg q1
   have hb:=hbad fun hh=>q1 hh.1.1
   (have hrd0:=r1;have hrd1:=r2;repeat' (first|(with_reducible intro _)|refine sv ?_|((with_reducible first|apply zj|apply zi|apply d_pure0);exact gd;exact rfl;exact rfl;(first|exact z0j _ _ _))|refine ss ?_ ?_<;>(intro h;first|exact sz h|refine sy h ?_)|exact sq|fail))
   all_goals (refine kf ?_)
   all_goals exact⟨by rw[hb];rfl,xg⟩
 subst hlast
 repeat' first|with_reducible intro _|refine sv ?_|refine ss ?_ ?_<;>(intro h;first|exact sz h|refine sy h ?_)|exact sq|fail
 have hfld:=fun M' (hg:Grow M M')=>(show SlL 2 ptc M aF s.fields from hM.fields).grow hg
 obtain⟨ea,ef,hel⟩:=(show SlL 2 ptc M aF s.fields from hM.fields).elems
 have hbu:=show SlA 2 ptc M aB s.buoys from hM.buoys
 have hcF:=fun(M':Mem) (hg:Grow M M')=>z2u (a:=aF) (n:=s.fields.length) (f:=fF) (e:=eF) (g:=261) (fi:=[]) (ca:=[]) (M:=M') (fun k=>.slice (ea k) (s.fields.getD k []).length (ef k) 2) (fun k=>decide (eFd (s.fields.getD k []) ≠ 0)) hnf
  (fun k hk=>by obtain⟨⟨i,o,h1,h2⟩,_⟩:=hel k hk;exact⟨i,o,h1,by rw[z00 hk];exact h2.grow hg⟩)
  (fun k hk M'' hg2=>by obtain⟨_,h2,h3⟩:=hel k hk;rw[z00 hk];exact zis (h2.grow (hg.trans hg2)) h3)
 have hcB:=fun(M':Mem) (hg:Grow M M')=>z6i (a:=aB) (n:=s.buoys.length) (f:=fB) (e:=2) (g:=263) (fi:=[]) (ca:=[]) (M:=M') (fun k=>ptc (s.buoys.getD k (0,0))) (fun k=>decide (ePt (s.buoys.getD k (0,0)).1 (s.buoys.getD k (0,0)).2 ≠ 0)) hnb
  (fun k hk=>by
   obtain⟨i,o,h1,h2⟩:=hbu.resolve_left (fun e=>by rw[e] at hk;simp at hk)
   exact⟨i,o,h1,by rw[z00 hk];exact(h2 k hk).grow hg⟩)
  (fun k hk M'' hg2=>zit _ _)
 have hokF:((List.range s.fields.length).any fun k=>decide (eFd (s.fields.getD k []) ≠ 0))=true ↔ ¬ ∀ l ∈ s.fields,FieldOk l:=by
  rw[z2l]
  constructor
  ·rintro⟨k,hk,h2⟩ hall2
   rw[z00 hk] at h2
   exact absurd (if_pos (hall2 _ (List.getElem_mem hk))) (of_decide_eq_true h2)
  ·intro hn
   refine Classical.byContradiction fun hc=>hn fun l hl=>?_
   obtain⟨k,hk,rfl⟩:=List.getElem_of_mem hl
   refine Classical.byContradiction fun hf=>hc ⟨k,hk,?_⟩
   rw[z00 hk]
   exact decide_eq_true (by unfold eFd;rw[if_neg hf];decide)
 have hokB:((List.range s.buoys.length).any fun k=>decide (ePt (s.buoys.getD k (0,0)).1 (s.buoys.getD k (0,0)).2 ≠ 0))=true ↔ ¬ ∀ p ∈ s.buoys,PlP p:=by
  rw[z2l]
  constructor
  ·rintro⟨k,hk,h2⟩ hall2
   rw[z00 hk] at h2
   exact absurd (if_pos (hall2 _ (List.getElem_mem hk))) (of_decide_eq_true h2)
  ·intro hn
   refine Classical.byContradiction fun hc=>hn fun l hl=>?_
   obtain⟨k,hk,rfl⟩:=List.getElem_of_mem hl
   refine Classical.byContradiction fun hf=>hc ⟨k,hk,?_⟩
   rw[z00 hk]
   exact decide_eq_true (by unfold ePt;rw[if_neg hf];decide)
 have hlines:∀ l ∈ s.lines,LineOk l:=fun l hl=>by
  obtain⟨k,hk,rfl⟩:=List.getElem_of_mem hl
  exact(hall k hk hk).1
 have hopn:∀ l ∈ s.opn,WinOk l:=fun l hl=>by
  obtain⟨k,hk,rfl⟩:=List.getElem_of_mem hl
  exact(hall k (by omega) (by omega)).2
 generalize (List.range s.fields.length).any (fun k=>decide (eFd (s.fields.getD k []) ≠ 0))=bF at hokF hcF
 generalize (List.range s.buoys.length).any (fun k=>decide (ePt (s.buoys.getD k (0,0)).1 (s.buoys.getD k (0,0)).2 ≠ 0))=bB at hokB hcB
 cases bF with
 | true =>
  have hb:crB s=false:=zb8 fun hc=>hokF.1 rfl hc.fields
  repeat' first|with_reducible intro _|refine sv ?_|((with_reducible first|apply zj|apply zi|apply d_pure0);exact gd;exact rfl;exact rfl;(first|exact hcF _ (xg)))|refine ss ?_ ?_<;>(intro h;first|exact sz h|refine sy h ?_)|exact sq|fail
  all_goals (refine kf ?_)
  all_goals exact⟨by rw[hb];rfl,xg⟩
 | false =>
 cases bB with
 | true =>
  have hb:crB s=false:=zb8 fun hc=>hokB.1 rfl hc.buoys
  repeat' first|with_reducible intro _|refine sv ?_|((with_reducible first|apply zj|apply zi|apply d_pure0);exact gd;exact rfl;exact rfl;(first|exact hcF _ (xg)|exact hcB _ (xg)))|refine ss ?_ ?_<;>(intro h;first|exact sz h|refine sy h ?_)|exact sq|fail
  all_goals (refine kf ?_)
  all_goals exact⟨by rw[hb];rfl,xg⟩
 | false =>
 have hf1:∀ l ∈ s.fields,FieldOk l:=Classical.byContradiction fun hc=>by have:=hokF.2 hc;cases this
 have hb1:∀ p ∈ s.buoys,PlP p:=Classical.byContradiction fun hc=>by have:=hokB.2 hc;cases this
 by_cases hT:RgOk s.spread /\ (tightO s.spread).isSome=true
 rotate_left
 ·have hb:crB s=false:=zb8 fun hc=>hT ⟨hc.spread.1,hc.spread.2.1⟩
  have ht:=zky hT
  repeat' first|with_reducible intro _|refine sv ?_|((with_reducible first|apply zj|apply zi|apply d_pure0);exact gd;exact rfl;exact rfl;(first|exact hcF _ (xg)|exact hcB _ (xg)|exact z81 s.spread _))|refine ss ?_ ?_<;>(intro h;first|exact sz h|refine sy h ?_)|exact sq|fail
  all_goals (refine kf ?_)
  all_goals exact⟨by rw[hb];rfl,xg⟩
 have ht:=zkz hT
 have hrg:=hT.1
 dsimp only[RgOk,fitsP] at hrg
 by_cases hW:s.spread.1.2 - s.spread.1.1<=256 /\ s.spread.2.1.2 - s.spread.2.1.1<=256
 rotate_left
 ·have hb:crB s=false:=zb8 fun hc=>hW ⟨hc.spread.2.2.1,hc.spread.2.2.2⟩
  repeat' first|with_reducible intro _|refine sv ?_|((with_reducible first|apply zj|apply zi|apply d_pure0);exact gd;exact rfl;exact rfl;(first|exact hcF _ (xg)|exact hcB _ (xg)|exact z81 s.spread _))|refine ss ?_ ?_<;>(intro h;first|exact sz h|refine sy h ?_)|exact sq|fail
  all_goals first
   |(exfalso;omega)
   |((refine kf ?_)
     exact⟨by rw[hb];rfl,xg⟩)
 by_cases hp:PlP s.start.1 /\ 0<=s.start.2 /\ s.start.2<=7
 rotate_left
 ·have hb:crB s=false:=zb8 fun hc=>hp hc.start
  repeat' first|with_reducible intro _|refine sv ?_|((with_reducible first|apply zu|apply zt|apply zn);exact gd;exact rfl;exact rfl;(first|exact z1r _ _ _ _))|((with_reducible first|apply zj|apply zi|apply d_pure0);exact gd;exact rfl;exact rfl;(first|exact hcF _ (xg)|exact hcB _ (xg)|exact z81 s.spread _|exact zb2 s.start _))|refine ss ?_ ?_<;>(intro h;first|exact sz h|refine sy h ?_)|exact sq|fail
  all_goals first
   |(exact absurd (by assumption) hp)
   |((refine kf ?_)
     exact⟨by rw[hb];rfl,xg⟩)
 by_cases hS:(1<=s.speed /\ s.speed<=1000) /\ (0<=s.turn /\ s.turn<=1000)
 ·have hb:crB s=true:=zse ⟨h0.1.1,h0.1.2,h0.2.1,h0.2.2.1,h0.2.2.2,hlines,hopn,hf1,hb1,⟨hT.1,hT.2,hW.1,hW.2⟩,hp,hS.1,hS.2⟩
  repeat' first|with_reducible intro _|refine sv ?_|((with_reducible first|apply zu|apply zt|apply zn);exact gd;exact rfl;exact rfl;(first|exact z1r _ _ _ _))|((with_reducible first|apply zj|apply zi|apply d_pure0);exact gd;exact rfl;exact rfl;(first|exact hcF _ (xg)|exact hcB _ (xg)|exact z81 s.spread _|exact zb2 s.start _))|refine ss ?_ ?_<;>(intro h;first|exact sz h|refine sy h ?_)|exact sq|fail
  all_goals first
   |(exact absurd hp (by assumption))
   |((refine kf ?_)
     refine⟨?_,xg⟩
     rw[hb]
     exact congrArg LV.bool (decide_eq_true hS.2))
 ·have hb:crB s=false:=zb8 fun hc=>hS ⟨hc.speed,hc.turn⟩
  repeat' first|with_reducible intro _|refine sv ?_|((with_reducible first|apply zu|apply zt|apply zn);exact gd;exact rfl;exact rfl;(first|exact z1r _ _ _ _))|((with_reducible first|apply zj|apply zi|apply d_pure0);exact gd;exact rfl;exact rfl;(first|exact hcF _ (xg)|exact hcB _ (xg)|exact z81 s.spread _|exact zb2 s.start _))|refine ss ?_ ?_<;>(intro h;first|exact sz h|refine sy h ?_)|exact sq|fail
  all_goals first
   |(exact absurd hp (by assumption))
   |((refine kf ?_)
     refine⟨?_,xg⟩
     rw[hb]
     first|rfl|exact congrArg LV.bool (decide_eq_false fun ht=>hS ⟨by assumption,ht⟩))
abbrev sidesV(p:Nat):LV:=.func (.func 324) [] [.ptr (some (p,0))]
theorem zp7(a:Option (Nat × Nat))(n:Nat)(f:Bool)(e:Nat)(M:Mem):ze Tryz.prog 270 [.slice a n f e] M (MkAt sidesV (.cells true [.slice a n f e] 24) M):=by
 refine zf k270 rfl ?_
 delta x270;refine un ?_
 repeat' first|with_reducible intro _|refine sv ?_|refine ss ?_ ?_<;>(intro h;first|exact sz h|refine sy h ?_)|exact sq|fail
 refine kf ?_
 exact⟨_,rfl,xm,by omega,by omega,xg⟩
set_option maxHeartbeats 4000000 in
theorem zr2{l:List Pt}(hn0:0 < l.length)(hlen:l.length<=1000){p:Nat}{own:Bool}{ty:TypeId}{f:Bool}{s o:Nat}{M0:Mem}(hp:At M0 p (.cells own [.slice (some (s,o)) l.length f 2] ty))(hr:∀ k (hk:k < l.length),Rd M0 s (o+k*2) 2 (ptc l[k])) :
  PvL.Yields Tryz.prog 324 [] [.ptr (some (p,0))] (fun i=>i=p ∨ i=s) ((sidesL l).map fun q=>[ptv q.1,ptv q.2]) M0:=by
 intro ll A J D hA hS stab stabD step h0
 have hpA:¬ A p:=hS p (.inl rfl)
 have hsA:¬ A s:=hS s (.inr rfl)
 have hmod:∀ i:Nat,((i:Int)+1) % (l.length:Int)=(((i+1) % l.length:Nat):Int):=fun i=>by rw[Int.natCast_emod];rfl
 have hml:∀ i:Nat,(i+1) % l.length < l.length:=fun i=>zbf hn0
 refine zf k324 rfl ?_
 dsimp only[x324,zM,zO,zI,zF,zS,zB,zL,zA,zE,zN,zW,zC,zH,zK,zX,zQ,zJ,zP,zY2,zY3,zY4,zY8,zT,zR,zU,zV,zG,List.map_cons,List.map_nil,zipE,Nat.reduceAdd,List.nil_append,List.cons_append]
 repeat' first|with_reducible intro _|refine sv ?_|refine ss ?_ ?_<;>(intro h;first|exact sz h|refine sy h ?_)|exact sq|fail
 refine zk (fun n E ms M=>∃ k:Nat,n=l.length - k /\ k<=l.length /\ ms=[] /\ Has E [(0,.func (.yield ll) [] []),(1,.ptr (some (p,0))),(5,.slice (some (s,o)) l.length f 2),(6,I l.length),(7,I k)] /\ Keep A M0 M /\ J k M) ?_ l.length _ _ _
  ⟨0,by omega,by omega,rfl,.cons rfl (.cons rfl (.cons rfl (.cons rfl (.cons rfl .nil)))),Keep.refl _ _,h0⟩
 rintro n E ms M ⟨k,rfl,hk,rfl,hE,hkeep,hJ⟩
 have hp1:At M p (.cells own [.slice (some (s,o)) l.length f 2] ty):=hkeep.at hp hpA
 have hr1:∀ k (hk:k < l.length),Rd M s (o+k*2) 2 (ptc l[k]):=fun k hk=>(hr k hk).keep hkeep hsA
 have hle:=hkeep.le
 have hJ':∀ M',Grow M M'->J k M':=fun M' hg=>stab _ _ _ hJ hg.le fun i hi=>hg.old i (Nat.lt_of_lt_of_le hi hle)
 refine z1h hE ?_
 by_cases hlast:k=l.length
 ·subst hlast
  repeat' first|with_reducible intro _|refine sv ?_|refine ss ?_ ?_<;>(intro h;first|exact sz h|refine sy h ?_)|exact sq|fail
  refine kf ?_
  exact⟨hkeep,.inl (by rw[List.length_map,zbn];exact hJ)⟩
 have hlt:k < l.length:=by omega
 have hs1:=(hr1 k hlt).2
 have hp2:=hp1.2
 have hk1:=hmod k
 have hk2:=hml k
 have hx:((sidesL l).map fun q=>[ptv q.1,ptv q.2])[k]?=some [ptv l[k],ptv (l[(k+1) % l.length]'(hml k))]:=by
  rw[List.getElem?_map,zi2 hlt,zfi hlt,zfi (hml k)];rfl
 have hrm:Rd M s (o+(((k:Int)+1) % (l.length:Int)).toNat*2) 2 (ptc (l[(k+1) % l.length]'(hml k))):=by rw[hmod k];exact hr1 _ (hml k)
 (have hrd0:=hr1 k hlt;have hrd1:=hrm;repeat' (first|(with_reducible intro _)|refine sv ?_|((with_reducible first|apply zz|apply z0w|apply x_call0);exact gd;exact rfl;exact rfl;(first|exact step _ _ hx _ (by omega) (hJ' _ (xg))))|refine ss ?_ ?_<;>(intro h;first|exact sz h|refine sy h ?_)|exact sq|fail))
 obtain⟨hk2',⟨rfl,hJ2⟩|⟨rfl,hD⟩⟩:=‹Keep A _ _ /\ _›
 ·have:=hk2'.le
  (have hrd0:=hr1 k hlt;have hrd1:=hrm;repeat' (first|(with_reducible intro _)|refine sv ?_|refine ss ?_ ?_<;>(intro h;first|exact sz h|refine sy h ?_)|exact sq|fail))
  refine z0d (l.length - (k+1)) (by omega) ⟨k+1,rfl,by omega,rfl,.cons rfl (.cons rfl (.cons rfl (.cons rfl (.cons rfl .nil)))),Keep.trans (xk) hk2' (fun i hi=>.inl hi),hJ2⟩
 ·have:=hk2'.le
  (have hrd0:=hr1 k hlt;have hrd1:=hrm;repeat' (first|(with_reducible intro _)|refine sv ?_|refine ss ?_ ?_<;>(intro h;first|exact sz h|refine sy h ?_)|exact sq|fail))
  refine kf ?_
  exact⟨Keep.trans (xk) hk2' (fun i hi=>.inl hi),.inr hD⟩
theorem znt(a b:Int)(ha:-1000000000000000<=a /\ a<=1000000000000000)(hb:0 < b /\ b<=1000000000000000)(M:Mem):ze Tryz.prog 272 [I a,I b] M (fun w M'=>w=I (a / b) /\ M'=M):=by
 have h1:=Int.tdiv_eq_ediv (a:=a) (b:=b)
 have h2:=Int.tmod_eq_emod (a:=a) (b:=b)
 have h3:-1000000000000000<=a / b /\ a / b<=1000000000000000:=⟨Int.le_ediv_of_mul_le hb.1 (by have:1000000000000000*1<=1000000000000000*b:=Int.mul_le_mul_of_nonneg_left (by omega) (by omega);omega),Int.ediv_le_of_le_mul hb.1 (by have:1000000000000000*1<=1000000000000000*b:=Int.mul_le_mul_of_nonneg_left (by omega) (by omega);omega)⟩
 have hsign:b.sign=1:=Int.sign_eq_one_of_pos hb.1
 have hnat:(b.natAbs:Int)=b:=Int.natAbs_of_nonneg (by omega)
 have hm0:=Int.emod_nonneg a (by omega:b ≠ 0)
 have hm1:=Int.emod_lt_of_pos a hb.1
 rw[hsign] at h1
 refine zf k272 rfl ?_
 delta x272;refine un ?_
 by_cases hc:0<=a ∨ b ∣ a
 ·rw[if_pos hc] at h1 h2
  have hm2:0<=a.tmod b:=by omega
  repeat' first|with_reducible intro _|refine sv ?_|refine ss ?_ ?_<;>(intro h;first|exact sz h|refine sy h ?_)|exact sq|fail
  all_goals (refine kf ?_)
  all_goals exact⟨congrArg I (by omega),rfl⟩
 ·rw[if_neg hc] at h1 h2
  have hm2:a.tmod b < 0:=by omega
  repeat' first|with_reducible intro _|refine sv ?_|refine ss ?_ ?_<;>(intro h;first|exact sz h|refine sy h ?_)|exact sq|fail
  all_goals (refine kf ?_)
  all_goals exact⟨congrArg I (by omega),rfl⟩
theorem c_up(a b:Int)(ha:-1000000000000000<=a /\ a<=1000000000000000)(hb:0 < b /\ b<=1000000000000000)(M:Mem):ze Tryz.prog 271 [I a,I b] M (fun w M'=>w=I (-((-a) / b)) /\ M'=M):=by
 have h3:-1000000000000000<=(-a) / b /\ (-a) / b<=1000000000000000:=⟨Int.le_ediv_of_mul_le hb.1 (by have:1000000000000000*1<=1000000000000000*b:=Int.mul_le_mul_of_nonneg_left (by omega) (by omega);omega),Int.ediv_le_of_le_mul hb.1 (by have:1000000000000000*1<=1000000000000000*b:=Int.mul_le_mul_of_nonneg_left (by omega) (by omega);omega)⟩
 refine zf k271 rfl ?_
 delta x271;refine un ?_
 repeat' first|with_reducible intro _|refine sv ?_|((with_reducible first|apply zu|apply zt|apply zn);exact gd;exact rfl;exact rfl;(first|exact znt _ _ (by omega) (by omega) _))|refine ss ?_ ?_<;>(intro h;first|exact sz h|refine sy h ?_)|exact sq|fail
 all_goals (refine kf ?_)
 all_goals exact⟨rfl,rfl⟩
set_option maxHeartbeats 8000000 in
theorem zrg{a:Option (Nat × Nat)}{f:Bool}{l:List Pt}{r:Rg}{M:Mem}(hl:SlA 2 ptc M a l)(hlen:l.length<=1000000000000000):ze Tryz.prog 218 [.slice a l.length f 2,rgv r] M (fun w M'=>w=.tup [ptv (hitsF l r).1,I (hitsF l r).2] /\ Grow M M'):=by
 refine zf k218 rfl ?_
 delta x218;refine un ?_
 have hcf:=fun M' (hg:Grow M M')=>z6z (f:=f) (hl.grow hg) hlen
 by_cases hok:FieldOk l /\ RgOk r
 rotate_left
 ·have he:(if eFd l=0 then eRg r else eFd l) ≠ 0 /\ (hitsF l r).1=(0,0) /\ (hitsF l r).2=(if eFd l=0 then eRg r else eFd l):=by
   unfold eFd eRg hitsF
   by_cases h1:FieldOk l
   ·have h2:¬ RgOk r:=fun h=>hok ⟨h1,h⟩
    simp[h1,h2]
   ·simp[h1]
  obtain⟨he1,he2,he3⟩:=he
  repeat' first|with_reducible intro _|refine sv ?_|((with_reducible first|apply zu|apply zt|apply zn);exact gd;exact rfl;exact rfl;(first|exact z7k _ _ (Rd1.of_at (At.new_same (by assumption)) rfl) (Rd1.of_at (At.new_same (by assumption)) rfl)))|((with_reducible first|apply zj|apply zi|apply d_pure0);exact gd;exact rfl;exact rfl;(first|exact hcf _ (xg)|exact z22 r _))|refine ss ?_ ?_<;>(intro h;first|exact sz h|refine sy h ?_)|exact sq|fail
  all_goals (refine kf ?_)
  all_goals exact⟨by rw[he2,he3];rfl,xg⟩
 obtain⟨hf,hrg⟩:=hok
 have he:(if eFd l=0 then eRg r else eFd l)=0:=by unfold eFd eRg;simp[hf,hrg]
 have hpl:=hf.2.2.1
 have hlen3:=hf.1
 have hlen8:=hf.2.1
 obtain⟨s,o,rfl,hr⟩:=hl.resolve_left (fun h=>by subst h;simp at hlen3)
 repeat' first|with_reducible intro _|refine sv ?_|((with_reducible first|apply zu|apply zt|apply zn);exact gd;exact rfl;exact rfl;(first|exact z7k _ _ (Rd1.of_at (At.new_same (by assumption)) rfl) (Rd1.of_at (At.new_same (by assumption)) rfl)))|((with_reducible first|apply zj|apply zi|apply d_pure0);exact gd;exact rfl;exact rfl;(first|exact hcf _ (xg)|exact z22 r _|exact z3b r _))|((with_reducible first|apply z7i|apply z72);exact gd;exact rfl;exact rfl;(first|exact zny r _))|refine ss ?_ ?_<;>(intro h;first|exact sz h|refine sy h ?_)|exact sq|fail
 rename_i n2 Mb2 hb2 q1 q2 n3 Mb3 hb3 q3 q4 n4 Mb4 hb4 q5 q6 n5 Mb5 hb5 q7 q8 Mc hgc q9 Md hgd q10 n6 Me he6 q11 q12 Mf hgf q13 p2 Mg hp2 q14 q15 hg2 q16
 refine z1h (E':=[(2,.ptr (some (n2,0))),(4,.ptr (some (n4,0))),(5,.ptr (some (n5,0))),(24,rowsV p2)]) (.cons rfl (.cons rfl (.cons rfl (.cons rfl .nil)))) ?_
 apply z4w
 exact rfl
 intro lb d l1 M1 M2 hlb hd e1 e2 hl1 e3 e4
 have ed:At M2 d .defr:=At.new_old hl1 (At.new_same hd)
 have el:At M2 l1 (lb .ready none):=At.new_same hl1
 have ep:At M2 p2 (.cells true (rgc r) 208):=At.new_old hl1 (At.new_old hd hp2)
 have gM:Grow M M2:=xg
 refine(zol r (hrg.sm.mono (by omega)) ep l1 (fun i=>M.next<=i /\ i < M2.next /\ i ≠ p2)
  (fun k M'=>(∀ t ∈ (rowsL r).take k,hitRow l t=none) /\ At M' l1 (lb .ready none) /\ At M' d .defr /\ At M' n2 (.cells true [.slice (some (s,o)) l.length f 2] 24) /\ At M' n4 (.cells true [I 0,I 0] 30) /\ At M' n5 (.cells true [I 0] 37) /\ ∀ k (hk:k < l.length),Rd M' s (o+k*2) 2 (ptc l[k]))
  (fun M'=>∃ p,hitsO l r=some p /\ At M' l1 (lb .done (some .ret)) /\ At M' d .defr /\ At M' n4 (.cells true [I p.1,I p.2] 30) /\ At M' n5 (.cells true [I 0] 37)) ?_ ?_ ?_ ?_ ?_ ⟨by simp,el,ed,xm,xm,xm,fun k hk=>(hr k hk).grow gM⟩).mono ?_
 ·rintro i ⟨h1,h2,h3⟩;exact h2
 ·rintro i rfl ⟨h1,h2,h3⟩;exact h3 rfl
 ·rintro k M3 M3' ⟨h1,h2,h3,h4,h5,h6,h7⟩ hle' hA'
  exact⟨h1,h2.same hle' (hA' _ (by omega)),h3.same hle' (hA' _ (by omega)),h4.same hle' (hA' _ (by omega)),h5.same hle' (hA' _ (by omega)),h6.same hle' (hA' _ (by omega)),fun k hk=>(h7 k hk).same hle' (hA' _ (by have:=(hr k hk).2;omega))⟩
 ·rintro M3 M3' ⟨p,h1,h2,h3,h4,h5⟩ hle' hA'
  exact⟨p,h1,h2.same hle' (hA' _ (by omega)),h3.same hle' (hA' _ (by omega)),h4.same hle' (hA' _ (by omega)),h5.same hle' (hA' _ (by omega))⟩
 ·rintro k x hx M3 hle3 ⟨h1,h2,h3,h4,h5,h6,h7⟩
  rw[List.getElem?_map] at hx
  obtain⟨t,ht,rfl⟩:=Option.map_eq_some_iff.1 hx
  obtain⟨x0,hx1,hx2,hxt,hx3⟩:=zg9 (List.mem_of_getElem? ht)
  have htx:-32768<=t.1 /\ t.1<=32768:=by rw[hxt];dsimp only[rowOf];dsimp only[RgOk,fitsP] at hrg;omega
  have htake:(rowsL r).take (k+1)=(rowsL r).take k ++ [t]:=by
   obtain⟨hlt,rfl⟩:=List.getElem?_eq_some_iff.1 ht
   exact List.take_succ_eq_append_getElem hlt
  have hnext:hitRow l t=none->∀ t' ∈ (rowsL r).take (k+1),hitRow l t'=none:=fun hh t' ht'=>by
   rw[htake] at ht'
   rcases List.mem_append.1 ht' with ht' | ht'
   ·exact h1 t' ht'
   ·obtain rfl:=List.mem_singleton.1 ht';exact hh
  have gs3:∀ k (hk:k < l.length),s < M.next:=fun k hk=>(hr k hk).2
  have hsM:=gs3 0 (by omega)
  refine z1s hlb h2 rfl ?_
  dsimp only[zipP]
  repeat' first|with_reducible intro _|refine sv ?_|((with_reducible first|apply z7i|apply z72);exact gd;exact rfl;exact rfl;(first|exact zp7 _ _ _ _ _))|refine ss ?_ ?_<;>(intro h;first|exact sz h|refine sy h ?_)|exact sq|fail
  rename_i n7 Mh hh7 r1 r2 Mi hui r3 ai Mj huj r4 aj p3 Mk hp3 r5 r6 hgk r7
  apply zl6 hlb (xm:At Mk l1 (lb .busy none))
  exact rfl
  intro lb2 l2 M5 hlb2 hl2 e5 e6
  have k2:At M5 n2 (.cells true [.slice (some (s,o)) l.length f 2] 24):=xm
  have k4:At M5 n4 (.cells true [I 0,I 0] 30):=xm
  have k5:At M5 n5 (.cells true [I 0] 37):=xm
  have k7:At M5 n7 (.cells true [I t.1,I t.2.1,I t.2.2] 363):=xm
  have kl1:At M5 l1 (lb .busy none):=xm
  have kl2:At M5 l2 (lb2 .ready none):=At.new_same hl2
  have kd:At M5 d .defr:=xm
  have kp3:At M5 p3 (.cells true [.slice (some (s,o)) l.length f 2] 24):=xm
  have krd:∀ k (hk:k < l.length),Rd M5 s (o+k*2) 2 (ptc l[k]):=fun k hk=>by
   have h0:Rd M3 s (o+k*2) 2 (ptc l[k]):=h7 k hk
   exact xm
  have hK5:Keep (fun i=>M.next<=i /\ i < M2.next /\ i ≠ p2) M3 M5:=xk
  have hp3lo:M3.next<=p3:=by omega
  refine(zr2 (by omega) (by omega) kp3 krd l2 (fun i=>(M.next<=i /\ i < M2.next /\ i ≠ p2) ∨(M3.next<=i /\ i < M5.next /\ i ≠ p3))
   (fun j M'=>At M' n7 (.cells true [I t.1,I (clips t.1 (t.2.1,t.2.2) ((sidesL l).take j)).1,I (clips t.1 (t.2.1,t.2.2) ((sidesL l).take j)).2] 363) /\ At M' l2 (lb2 .ready none) /\ At M' l1 (lb .busy none) /\ At M' d .defr /\ At M' n2 (.cells true [.slice (some (s,o)) l.length f 2] 24) /\ At M' n4 (.cells true [I 0,I 0] 30) /\ At M' n5 (.cells true [I 0] 37) /\ ∀ k (hk:k < l.length),Rd M' s (o+k*2) 2 (ptc l[k]))
   (fun M'=>hitRow l t=none /\ At M' l2 (lb2 .done (some (.exit 1))) /\ At M' l1 (lb .busy none) /\ At M' d .defr /\ At M' n2 (.cells true [.slice (some (s,o)) l.length f 2] 24) /\ At M' n4 (.cells true [I 0,I 0] 30) /\ At M' n5 (.cells true [I 0] 37) /\ ∀ k (hk:k < l.length),Rd M' s (o+k*2) 2 (ptc l[k])) ?_ ?_ ?_ ?_ ?_ ⟨k7,kl2,kl1,kd,k2,k4,k5,krd⟩).mono ?_
  ·rintro i (h1|h1)
   ·exact Nat.lt_of_lt_of_le h1.2.1 (by omega)
   ·exact h1.2.1
  ·rintro i (rfl|rfl) (h1|h1)
   all_goals omega
  ·rintro j M6 M6' ⟨g1,g2,g3,g4,g5,g6,g7,g8⟩ hle' hA'
   exact⟨g1.same hle' (hA' _ (by omega)),g2.same hle' (hA' _ (by omega)),g3.same hle' (hA' _ (by omega)),g4.same hle' (hA' _ (by omega)),g5.same hle' (hA' _ (by omega)),g6.same hle' (hA' _ (by omega)),g7.same hle' (hA' _ (by omega)),fun k hk=>(g8 k hk).same hle' (hA' _ (by have:=(krd k hk).2;omega))⟩
  ·rintro M6 M6' ⟨g0,g2,g3,g4,g5,g6,g7,g8⟩ hle' hA'
   exact⟨g0,g2.same hle' (hA' _ (by omega)),g3.same hle' (hA' _ (by omega)),g4.same hle' (hA' _ (by omega)),g5.same hle' (hA' _ (by omega)),g6.same hle' (hA' _ (by omega)),g7.same hle' (hA' _ (by omega)),fun k hk=>(g8 k hk).same hle' (hA' _ (by have:=(krd k hk).2;omega))⟩
  ·rintro j y hy M6 hle6 ⟨g1,g2,g3,g4,g5,g6,g7,g8⟩
   rw[List.getElem?_map] at hy
   obtain⟨q,hq,rfl⟩:=Option.map_eq_some_iff.1 hy
   obtain⟨hpq1,hpq2⟩:=zkp hpl (List.mem_of_getElem? hq)
   obtain⟨b1,b2,b3,b4⟩:=zqb htx hpq1 hpq2
   have hclip:=zh3 (x:=t.1) (t:=(t.2.1,t.2.2)) hq
   have hjl:j+1<=(sidesL l).length:=(List.getElem?_eq_some_iff.1 hq).1
   have hdead:=zec (l:=l) (t:=t) hjl
   rw[hclip] at hdead ⊢
   generalize clips t.1 (t.2.1,t.2.2) ((sidesL l).take j)=c at *
   unfold clip1 at hdead ⊢
   unfold sideK sideN at *
   dsimp only[PlP,Pl] at hpq1 hpq2
   have g8':∀ M',Keep (fun i=>(M.next<=i /\ i < M2.next /\ i ≠ p2) ∨(M3.next<=i /\ i < M5.next /\ i ≠ p3)) M6 M'->∀ k (hk:k < l.length),Rd M' s (o+k*2) 2 (ptc l[k]):=fun M' hK k hk=>(g8 k hk).keep hK (by intro hh;omega)
   refine z1s hlb2 g2 rfl ?_
   dsimp only[zipP]
   by_cases hk0:0 < q.2.1 - q.1.1
   ·rw[if_pos hk0]
    repeat' first|with_reducible intro _|refine sv ?_|((with_reducible first|apply zu|apply zt|apply zn);exact gd;exact rfl;exact rfl;(first|exact c_up _ _ (by omega) (by omega) _))|refine ss ?_ ?_<;>(intro h;first|exact sz h|refine sy h ?_)|exact sq|fail
    exact⟨xk,.inl ⟨rfl,xm,xm,xm,xm,xm,xm,xm,g8' _ (xk)⟩⟩
   ·rw[if_neg hk0] at hdead ⊢
    by_cases hk1:q.2.1 - q.1.1 < 0
    ·rw[if_pos hk1]
     repeat' first|with_reducible intro _|refine sv ?_|((with_reducible first|apply zu|apply zt|apply zn);exact gd;exact rfl;exact rfl;(first|exact znt _ _ (by omega) (by omega) _))|refine ss ?_ ?_<;>(intro h;first|exact sz h|refine sy h ?_)|exact sq|fail
     exact⟨xk,.inl ⟨rfl,xm,xm,xm,xm,xm,xm,xm,g8' _ (xk)⟩⟩
    ·rw[if_neg hk1] at hdead ⊢
     by_cases hn0:0 <(q.2.1 - q.1.1)*q.1.2+(q.2.2 - q.1.2)*(t.1 - q.1.1)
     ·rw[if_pos hn0] at hdead
      repeat' first|with_reducible intro _|refine sv ?_|refine ss ?_ ?_<;>(intro h;first|exact sz h|refine sy h ?_)|exact sq|fail
      exact⟨xk,.inr ⟨rfl,hdead (by dsimp only;omega),xm,xm,xm,xm,xm,xm,g8' _ (xk)⟩⟩
     ·rw[if_neg hn0]
      repeat' first|with_reducible intro _|refine sv ?_|refine ss ?_ ?_<;>(intro h;first|exact sz h|refine sy h ?_)|exact sq|fail
      exact⟨xk,.inl ⟨rfl,xm,xm,xm,xm,xm,xm,xm,g8' _ (xk)⟩⟩
  ·rintro v M6 ⟨hk6,hq6⟩
   have hle6:=hk6.le
   have hK6:Keep (fun i=>M.next<=i /\ i < M2.next /\ i ≠ p2) M3 M6:=Keep.trans hK5 hk6 (fun i w=>w.elim .inl fun w=>.inr w.1)
   clear hk6
   rcases hq6 with⟨g1,g2,g3,g4,g5,g6,g7,g8⟩|⟨g0,g2,g3,g4,g5,g6,g7,g8⟩
   ·rw[show((sidesL l).map fun q=>[ptv q.1,ptv q.2]).length=(sidesL l).length from List.length_map _,List.take_length] at g1
    refine z40 g2 (by simp) fun M7 hu7 e7 a7=>?_
    by_cases hh:(clips t.1 (t.2.1,t.2.2) (sidesL l)).1<=(clips t.1 (t.2.1,t.2.2) (sidesL l)).2
    ·have hrow:hitRow l t=some (t.1,(clips t.1 (t.2.1,t.2.2) (sidesL l)).1):=if_pos hh
     have hhit:hitsO l r=some (t.1,(clips t.1 (t.2.1,t.2.2) (sidesL l)).1):=z8l ht h1 hrow
     repeat' first|with_reducible intro _|refine sv ?_|refine ss ?_ ?_<;>(intro h;first|exact sz h|refine sy h ?_)|exact sq|fail
     exact⟨xk,.inr ⟨rfl,_,hhit,xm,xm,xm,xm⟩⟩
    ·have hrow:hitRow l t=none:=if_neg hh
     repeat' first|with_reducible intro _|refine sv ?_|refine ss ?_ ?_<;>(intro h;first|exact sz h|refine sy h ?_)|exact sq|fail
     exact⟨xk,.inl ⟨rfl,hnext hrow,xm,xm,xm,xm,xm,fun k hk=>by have:=g8 k hk;exact xm⟩⟩
   ·refine zeg g2 (by simp) fun M7 hu7 e7 a7=>?_
    repeat' first|with_reducible intro _|refine sv ?_|refine ss ?_ ?_<;>(intro h;first|exact sz h|refine sy h ?_)|exact sq|fail
    exact⟨xk,.inl ⟨rfl,hnext g0,xm,xm,xm,xm,xm,fun k hk=>by have:=g8 k hk;exact xm⟩⟩
 ·rintro v M3 ⟨hk3,hq3⟩
  have hle3:=hk3.le
  have hg3:Grow M M3:=(gM.to_keep (fun _=>False) |>.trans hk3 (fun i hi=>.inr hi.1)).to_grow (fun i hi=>hi.elim)
  clear hk3
  rcases hq3 with⟨h1,h2,h3,h4,h5,h6,h7⟩|⟨p,h1,h2,h3,h4,h5⟩
  ·rw[show((rowsL r).map fun t=>[rowv t]).length=(rowsL r).length from List.length_map _,List.take_length] at h1
   have hh:hitsO l r=none:=z2e h1
   have hv:hitsF l r=((0,0),4):=by unfold hitsF;rw[if_pos hf,if_pos hrg,hh]
   refine z40 h2 (by simp) fun M4 hu4 e7 a7=>?_
   repeat' first|with_reducible intro _|refine sv ?_|refine ss ?_ ?_<;>(intro h;first|exact sz h|refine sy h ?_)|exact sq|fail
   rename_i M5 _ _ _ M6 _ _ _
   refine z0m (.inr rfl) (by simp) (fun d' hd'=>by obtain rfl:=List.mem_singleton.1 hd';exact xm) fun M7 hm=>?_
   have a4:At M6 n4 (.cells true [I 0,I 0] 30):=xm
   have a5:At M6 n5 (.cells true [I 4] 37):=xm
   have n4':n4 ∉ [d]:=by simp;omega
   have n5':n5 ∉ [d]:=by simp;omega
   refine⟨_,.cellN rfl (Rd.of_at (a4.unmark hm n4') rfl).1 (.cell1 rfl (Rd1.of_at (a5.unmark hm n5') rfl).1 .nil),?_,Grow.unmark (xg) hm (fun d' hd'=>by obtain rfl:=List.mem_singleton.1 hd';omega)⟩
   rw[hv];rfl
  ·have hv:hitsF l r=(p,0):=by unfold hitsF;rw[if_pos hf,if_pos hrg,h1]
   refine z35 h2 (by simp) fun M4 hu4 e7 a7=>?_
   repeat' first|with_reducible intro _|refine sv ?_|refine ss ?_ ?_<;>(intro h;first|exact sz h|refine sy h ?_)|exact sq|fail
   refine z0m (.inr rfl) (by simp) (fun d' hd'=>by obtain rfl:=List.mem_singleton.1 hd';exact xm) fun M7 hm=>?_
   have a4:At M4 n4 (.cells true [I p.1,I p.2] 30):=xm
   have a5:At M4 n5 (.cells true [I 0] 37):=xm
   have n4':n4 ∉ [d]:=by simp;omega
   have n5':n5 ∉ [d]:=by simp;omega
   refine⟨_,.cellN rfl (Rd.of_at (a4.unmark hm n4') rfl).1 (.cell1 rfl (Rd1.of_at (a5.unmark hm n5') rfl).1 .nil),?_,Grow.unmark (xg) hm (fun d' hd'=>by obtain rfl:=List.mem_singleton.1 hd';omega)⟩
   rw[hv];rfl
def pw(j:Nat):Int:=((2 ^ j:Nat):Int)
theorem zke(j:Nat):pw (j+1)=2*pw j:=by unfold pw;rw[Nat.pow_succ];omega
theorem zt2(j:Nat):0 < pw j:=by unfold pw;have:0 < 2 ^ j:=Nat.pow_pos (by omega);omega
theorem zuz{j k:Nat}(h:j<=k):pw j<=pw k:=by unfold pw;have:=Nat.pow_le_pow_right (n:=2) (by omega) h;omega
def p2:Nat->Int | 0=>0|j+1=>pw j
theorem zq7(j:Nat):p2 (j+1) / 2=p2 j:=by
 cases j with
 | zero=>decide
 | succ j=>show pw (j+1) / 2=pw j;rw[zke];omega
set_option maxHeartbeats 1000000 in
theorem zs3(n:Int)(hn:0<=n /\ n<=1099511627776)(M:Mem):ze Tryz.prog 153 [I n] M (fun w M'=>w=I (sqF n) /\ M'=M):=by
 refine zf k153 rfl ?_
 delta x153;refine un ?_
 repeat' first|with_reducible intro _|refine sv ?_|refine ss ?_ ?_<;>(intro h;first|exact sz h|refine sy h ?_)|exact sq|fail
 refine zk (fun m E ms M'=>∃(j:Nat) (r:Int),m=j /\ j<=21 /\ ms=[] /\ Has E [(0,I n),(3,I r),(4,I (p2 j))] /\ M'=M /\ 0<=r /\ r<=1048576 /\ r*r<=n /\ n <(r+pw j)*(r+pw j)) ?_ 21 _ _ _
  ⟨21,0,rfl,by omega,rfl,.cons rfl (.cons rfl (.cons rfl .nil)),rfl,by omega,by omega,by omega,?_⟩
 rotate_left
 ·rw[show pw 21=2097152 from rfl];omega
 rintro j E ms M1 ⟨_,r,rfl,hj,rfl,hE,rfl,h0,hr,h1,h2⟩
 refine z1h hE ?_
 cases j with
 | zero =>
  rw[show pw 0=1 from rfl] at h2
  rw[show p2 0=0 from rfl]
  repeat' first|with_reducible intro _|refine sv ?_|refine ss ?_ ?_<;>(intro h;first|exact sz h|refine sy h ?_)|exact sq|fail
  refine kf ?_
  exact⟨congrArg I (zn5 h0 h1 h2),rfl⟩
 | succ j =>
  have hh:=zq7 j
  have hpj:=zt2 j
  have hle:pw j<=1048576:=zuz (k:=20) (by omega)
  have hs:=zke j
  rw[hs] at h2
  rw[show p2 (j+1)=pw j from rfl] at hh ⊢
  have hb:=z37 (a:=r+pw j) (b:=r+pw j) (A:=2097152) (B:=2097152) (by omega) (by omega)
  have e2:r+pw j+pw j=r+2*pw j:=by omega
  repeat' first|with_reducible intro _|refine sv ?_|refine ss ?_ ?_<;>(intro h;first|exact sz h|refine sy h ?_)|exact sq|fail
  ·refine z0d j (by omega) ⟨j,r+pw j,rfl,by omega,rfl,.cons rfl (.cons rfl (.cons (by rw[<-hh];rfl) .nil)),rfl,by omega,?_,by assumption,by rw[e2];exact h2⟩
   have:=zkt (a:=r+pw j) (b:=1048577) (by omega) (by omega)
   omega
  ·exact z0d j (by omega) ⟨j,r,rfl,by omega,rfl,.cons rfl (.cons rfl (.cons (by rw[<-hh];rfl) .nil)),rfl,h0,hr,h1,by assumption⟩
theorem zrn(n:Int)(hn:0<=n /\ n<=1099511627776)(M:Mem):ze Tryz.prog 97 [I n] M (fun w M'=>w=.tup [I (sqF n),I 0] /\ M'=M):=by
 refine zf k97 rfl ?_
 delta x97;refine un ?_
 repeat' first|with_reducible intro _|refine sv ?_|((with_reducible first|apply zu|apply zt|apply zn);exact gd;exact rfl;exact rfl;(first|exact z85 _ _ _ _|exact zs3 _ hn _))|refine ss ?_ ?_<;>(intro h;first|exact sz h|refine sy h ?_)|exact sq|fail
 refine kf ?_
 exact⟨rfl,rfl⟩
noncomputable def eCrB(s:Cr):Int:=if crB s=true then 0 else 40
theorem zas{A:CrA}{s:Cr}{M:Mem}(hM:CrM M A s):ze Tryz.prog 161 [crv A s] M (fun w M'=>w=I (eCrB s) /\ Grow M M'):=by
 refine zf k161 rfl ?_
 delta x161;refine un ?_
 have hc:=fun M' (hg:Grow M M')=>zlv (hM.grow hg)
 repeat' first|with_reducible intro _|refine sv ?_|((with_reducible first|apply zj|apply zi|apply d_pure0);exact gd;exact rfl;exact rfl;(first|exact hc _ (xg)))|refine ss ?_ ?_<;>(intro h;first|exact sz h|refine sy h ?_)|exact sq|fail
 all_goals (refine kf ?_)
 all_goals refine⟨?_,xg⟩
 ·unfold eCrB;rw[if_neg (by rw[h];decide)];rfl
 ·unfold eCrB;rw[if_pos h];rfl
abbrev chc(A:CrA)(s:Cr)(pm:Nat):List LV:=[.slice A.aL s.lines.length A.fL 4,.slice A.aF s.fields.length A.fF A.eF,.slice A.aB s.buoys.length A.fB 2,I s.spread.1.1,I s.spread.1.2,I s.spread.2.1.1,I s.spread.2.1.2,I s.spread.2.2.1.1,I s.spread.2.2.1.2,I s.spread.2.2.2.1,I s.spread.2.2.2.2,
 I s.start.1.1,I s.start.1.2,I s.start.2,I s.speed,I s.turn,.slice A.aO s.opn.length A.fO 1,.map (some pm)]
abbrev wayw(a b:Pt):LV:=.agg [I a.1,I a.2,I b.1,I b.2]
abbrev wayv(q:Pt × Pt):LV:=wayw q.1 q.2
def KnM(M:Mem)(s:Cr)(pm:Nat):Prop:=∃ L:List ((Pt × Pt) × Bool) × List Nat × Nat,At M pm (.map (encM wayv .bool L.1) L.2.1 L.2.2) /\ ∀ p ∈ L.1,p.2=clearF s p.1.1 p.1.2
structure ChM (M:Mem) (A:CrA) (s:Cr) (pc pm:Nat):Prop where
 cr:CrM M A s
 cells:At M pc (.cells true (chc A s pm) 135)
 ne:pc ≠ pm
 known:KnM M s pm
theorem ziq{A:CrA}{s:Cr}{M:Mem}(hM:CrM M A s):ze Tryz.prog 104 [crv A s] M (fun w M'=>Grow M M' /\ ((¬ CrOk s /\ w=.tup [.ptr none,I 40]) ∨(CrOk s /\ ∃ pc pm,w=.tup [.ptr (some (pc,0)),I 0] /\ ChM M' A s pc pm /\ M.next<=pc /\ M.next<=pm))):=by
 refine zf k104 rfl ?_
 delta x104;refine un ?_
 have hc:=fun M' (hg:Grow M M')=>zas (hM.grow hg)
 by_cases hok:CrOk s
 ·have he:eCrB s=0:=if_pos (zse hok)
  rw[he] at hc
  repeat' first|with_reducible intro _|refine sv ?_|((with_reducible first|apply zj|apply zi|apply d_pure0);exact gd;exact rfl;exact rfl;(first|exact hc _ (xg)))|refine ss ?_ ?_<;>(intro h;first|exact sz h|refine sy h ?_)|exact sq|fail
  refine kf ?_
  exact⟨xg,.inr ⟨hok,_,_,rfl,⟨hM.grow (xg),xm,by omega,([],[],0),xm,fun p hp=>by cases hp⟩,by omega,by omega⟩⟩
 ·have he:eCrB s=40:=if_neg (by rw[zb8 hok];decide)
  rw[he] at hc
  repeat' first|with_reducible intro _|refine sv ?_|((with_reducible first|apply zj|apply zi|apply d_pure0);exact gd;exact rfl;exact rfl;(first|exact hc _ (xg)))|refine ss ?_ ?_<;>(intro h;first|exact sz h|refine sy h ?_)|exact sq|fail
  refine kf ?_
  exact⟨xg,.inl ⟨hok,rfl⟩⟩
theorem z3h(q:Pt × Pt):keyOk Tryz.prog 10000 313 (wayv q)=true:=by kernel_rfl
theorem ze8(a b:Pt × Pt):eqL Tryz.prog Op.maxDepth 313 (wayv a) (wayv b)=some (decide (a=b)):=by
 refine z7p 6 Op.maxDepth 313 [0,1,2,3] (by decide) (by kernel_rfl) _ _ _ (fun N hN=>?_) ?_
 ·have h4:szOf Tryz.prog 313=some 4:=by kernel_rfl
  rw[h4] at hN
  cases hN
  exact⟨Nat.le_refl _,Nat.le_refl _⟩
 ·show some (decide (a.1.1=b.1.1) && (decide (a.1.2=b.1.2) && (decide (a.2.1=b.2.1) && (decide (a.2.2=b.2.2) && true))))=_
  congr 1
  rw[Bool.eq_iff_iff]
  simp only[Bool.and_eq_true,decide_eq_true_eq,and_true]
  exact⟨fun⟨h1,h2,h3,h4⟩=>Prod.ext (Prod.ext h1 h2) (Prod.ext h3 h4),fun h=>by rw[h];exact⟨rfl,rfl,rfl,rfl⟩⟩
set_option maxHeartbeats 1000000 in
theorem ziw{A:CrA}{s:Cr}{pc pm:Nat}{a b:Pt}{M:Mem}(hC:At M pc (.cells true (chc A s pm) 135))(hs:1<=s.speed /\ s.speed<=1000)(ha:PlP a)(hb:PlP b) :
  ze Tryz.prog 170 [.ptr (some (pc,0)),wayw a b] M (fun w M'=>w=I (stepsF s.speed a b) /\ Grow M M'):=by
 have hd:=zj7 ha hb
 have hpc:=hC.2
 have hn:0<=distF a b /\ distF a b<=8589934592:=by unfold distF;omega
 have hsq:=z7q hn.1
 have hsb:=ztb (B:=100000) hn.1 (by omega) (by omega)
 have hm:=z37 (a:=sqF (distF a b)) (b:=sqF (distF a b)) (A:=100000) (B:=100000) (by omega) (by omega)
 unfold stepsF sqU
 unfold distF at *
 dsimp only[PlP,Pl] at ha hb
 refine zf k170 rfl ?_
 delta x170;refine un ?_
 repeat' first|with_reducible intro _|refine sv ?_|((with_reducible first|apply zu|apply zt|apply zn);exact gd;exact rfl;exact rfl;(first|exact zrn _ (by omega) _))|refine ss ?_ ?_<;>(intro h;first|exact sz h|refine sy h ?_)|exact sq|fail
 all_goals (refine kf ?_)
 all_goals refine⟨?_,xg⟩
 ·rw[if_pos (by omega)];rfl
 ·rw[if_neg (by omega)];rfl
theorem zlu{a:Option (Nat × Nat)}{f:Bool}{l:List Pt}{r:Rg}{p:Nat}{own:Bool}{ty:TypeId}{M:Mem}(hl:SlA 2 ptc M a l)(hlen:l.length<=1000000000000000)(hp:At M p (.cells own (rgc r) ty)) :
  ze Tryz.prog 217 [.slice a l.length f 2,.ptr (some (p,0))] M (fun w M'=>w=.bool (decide ((hitsF l r).2=0)) /\ Grow M M'):=by
 refine zf k217 rfl ?_
 delta x217;refine un ?_
 have hh:=fun M' (hg:Grow M M')=>zrg (f:=f) (r:=r) (hl.grow hg) hlen
 repeat' first|with_reducible intro _|refine sv ?_|((with_reducible first|apply zj|apply zi|apply d_pure0);exact gd;exact rfl;exact rfl;(first|exact hh _ (xg)))|refine ss ?_ ?_<;>(intro h;first|exact sz h|refine sy h ?_)|exact sq|fail
 refine kf ?_
 exact⟨rfl,xg⟩
set_option maxHeartbeats 1000000 in
theorem zir{A:CrA}{s:Cr}{pc pm:Nat}{a b:Pt}{M:Mem}(hC:ChM M A s pc pm) :
  ze Tryz.prog 169 [.ptr (some (pc,0)),wayw a b] M (fun w M'=>w=.bool (clearF s a b) /\ Keep (fun i=>i=pm) M M' /\ KnM M' s pm):=by
 obtain⟨hM,hcell,hne,L,hL,hkn⟩:=hC
 have hpc:=hcell.2
 have hpm:=hL.2
 refine zf k169 rfl ?_
 delta x169;refine un ?_
 repeat' first|with_reducible intro _|refine sv ?_|refine ss ?_ ?_<;>(intro h;first|exact sz h|refine sy h ?_)|exact sq|fail
 rename_i n3 M1 hn3 e1 e2
 have hL1:At M1 pm (.map (encM wayv .bool L.1) L.2.1 L.2.2):=xm
 rcases z8k (P:=Tryz.prog) (ek:=wayv) (ev:=LV.bool) ze8 (a,b) L.1 0 with⟨hf,hnew⟩|⟨j,v,hf,hin⟩
 ·refine zh6 (by exact gd) rfl rfl (z3h (a,b)) hL1 hf ?_
  have hfin:∀(M2 M3:Mem) (v:Bool),v=clearF s a b->At M2 pm (.map (encM wayv .bool L.1) L.2.1 L.2.2)->Keep (fun i=>i=pm) M M2->Upd M2 pm (.map (encM wayv .bool L.1 ++ [(wayw a b,.bool v)]) (L.2.1 ++ [L.2.2]) (L.2.2+1)) M3->Keep (fun i=>i=pm) M M3 /\ KnM M3 s pm:=fun M2 M3 v hv h2 hk hu=>by
   refine⟨xk,(L.1 ++ [((a,b),v)],L.2.1 ++ [L.2.2],L.2.2+1),?_,fun p hp=>?_⟩
   ·dsimp only;rw[<-z50];exact At.upd_same hu h2
   ·rcases List.mem_append.1 hp with hp|hp
    ·exact hkn p hp
    ·obtain rfl:=List.mem_singleton.1 hp;exact hv
  by_cases hsw:(sweptF s.spread a b).2=0
  ·obtain⟨aL,fL,aF,fF,aB,fB,aO,fO,eF⟩:=A
   obtain⟨ea,ef,hel⟩:=(show SlL 2 ptc M aF s.fields from hM.fields).elems
   have hnf:=hM.nf
   have hany:((List.range s.fields.length).any fun k=>decide ((hitsF (s.fields.getD k []) (sweptF s.spread a b).1).2=0))=s.fields.any fun f=>decide ((hitsF f (sweptF s.spread a b).1).2=0):=by
    rw[Bool.eq_iff_iff,z2l,List.any_eq_true]
    constructor
    ·rintro⟨k,hk,h2⟩;rw[z00 hk] at h2;exact⟨_,List.getElem_mem hk,h2⟩
    ·rintro⟨l,hl,h2⟩
     obtain⟨k,hk,rfl⟩:=List.getElem_of_mem hl
     exact⟨k,hk,by rw[z00 hk];exact h2⟩
   repeat' first|with_reducible intro _|refine sv ?_|((with_reducible first|apply zj|apply zi|apply d_pure0);exact gd;exact rfl;exact rfl;(first|exact zim s.spread a b _))|refine ss ?_ ?_<;>(intro h;first|exact sz h|refine sy h ?_)|exact sq|fail
   rename_i M4 hg4 e4 n7 M5 hn7 e5 e6 M6 hu6 e7 a7
   have hg6:Grow M M6:=xg
   have hcc:=z2u (a:=aF) (n:=s.fields.length) (f:=fF) (e:=eF) (g:=217) (fi:=[]) (ca:=[.ptr (some (n7,0))]) (M:=M6) (fun k=>.slice (ea k) (s.fields.getD k []).length (ef k) 2) (fun k=>decide ((hitsF (s.fields.getD k []) (sweptF s.spread a b).1).2=0)) hnf
    (fun k hk=>by obtain⟨⟨i,o,h1,h2⟩,_⟩:=hel k hk;exact⟨i,o,h1,by rw[z00 hk];exact h2.grow hg6⟩)
    (fun k hk M'' hg2=>by obtain⟨_,h2,h3⟩:=hel k hk;rw[z00 hk];exact zlu (h2.grow (hg6.trans hg2)) h3 (a7.grow hg2))
   rw[hany] at hcc
   repeat' first|with_reducible intro _|refine sv ?_|((with_reducible first|apply zj|apply zi|apply d_pure0);exact gd;exact rfl;exact rfl;(first|exact hcc))|refine ss ?_ ?_<;>(intro h;first|exact sz h|refine sy h ?_)|exact sq|fail
   refine z89 (by exact gd) rfl rfl rfl (z3h (a,b)) (xm) hf ?_
   intro M8 hu8 e8 a8
   have hv:(!(s.fields.any fun f=>decide ((hitsF f (sweptF s.spread a b).1).2=0)))=clearF s a b:=by unfold clearF;rw[decide_eq_true hsw,Bool.true_and]
   obtain⟨hk8,hkn8⟩:=hfin _ M8 _ hv (xm) (xk) hu8
   repeat' first|with_reducible intro _|refine sv ?_|refine ss ?_ ?_<;>(intro h;first|exact sz h|refine sy h ?_)|exact sq|fail
   refine kf ?_
   exact⟨congrArg LV.bool hv,hk8,hkn8⟩
  ·repeat' first|with_reducible intro _|refine sv ?_|((with_reducible first|apply zj|apply zi|apply d_pure0);exact gd;exact rfl;exact rfl;(first|exact zim s.spread a b _))|refine ss ?_ ?_<;>(intro h;first|exact sz h|refine sy h ?_)|exact sq|fail
   refine z89 (by exact gd) rfl rfl rfl (z3h (a,b)) (xm) hf ?_
   intro M8 hu8 e8 a8
   have hv:false=clearF s a b:=by unfold clearF;rw[decide_eq_false hsw,Bool.false_and]
   obtain⟨hk8,hkn8⟩:=hfin _ M8 _ hv (xm) (xk) hu8
   repeat' first|with_reducible intro _|refine sv ?_|refine ss ?_ ?_<;>(intro h;first|exact sz h|refine sy h ?_)|exact sq|fail
   refine kf ?_
   exact⟨congrArg LV.bool hv,hk8,hkn8⟩
 ·obtain rfl:v=clearF s a b:=hkn _ hin
  refine zh7 (by exact gd) rfl rfl (z3h (a,b)) hL1 hf ?_
  repeat' first|with_reducible intro _|refine sv ?_|refine ss ?_ ?_<;>(intro h;first|exact sz h|refine sy h ?_)|exact sq|fail
  refine kf ?_
  exact⟨rfl,xk,L,hL1,hkn⟩
theorem ChM.grow{M M':Mem}{A:CrA}{s:Cr}{pc pm:Nat}(h:ChM M A s pc pm)(hg:Grow M M'):ChM M' A s pc pm :=
 ⟨h.cr.grow hg,h.cells.grow hg,h.ne,let ⟨L,h1,h2⟩:=h.known;⟨L,h1.grow hg,h2⟩⟩
end Go.Proofs.YtpgalhbplcanhaaGreatDoor.C
end
section
open PvL
set_option linter.unusedSimpArgs false
set_option linter.unusedVariables false
namespace Go.Proofs.YtpgalhbplcanhaaGreatDoor.C
def octF(x y:Int):Int :=
 if 0<=y /\ 0<=x - y then 0 else if 0<=x /\ x - y<=0 then 1 else if x<=0 /\ 0<=x+y then 2 else if 0<=y /\ x+y<=0 then 3
 else if y<=0 /\ x - y<=0 then 4 else if x<=0 /\ 0<=x - y then 5 else if 0<=x /\ x+y<=0 then 6 else 7
def wayF(s:Cr)(k:Nat)(w:Int):Pt × Pt:=if w=1 then((s.lines.getD k ((0,0),(0,0))).2,(s.lines.getD k ((0,0),(0,0))).1) else s.lines.getD k ((0,0),(0,0))
theorem zl8{s:Cr}(h:CrOk s){k:Nat}(hk:k < s.lines.length)(w:Int):PlP (wayF s k w).1 /\ PlP (wayF s k w).2 /\ (wayF s k w).1 ≠(wayF s k w).2:=by
 have hl:=h.lines _ (List.getElem_mem hk)
 unfold wayF
 rw[z00 hk]
 unfold LineOk at hl
 split
 ·exact⟨hl.2.1,hl.1,fun e=>hl.2.2 e.symm⟩
 ·exact hl
def winO(t n:Int)(b:Bd):Option Bd:=if iMax t b.1+n<=b.2 then some (iMax t b.1,iMax t b.1+n) else none
noncomputable def shotF(s:Cr)(k:Nat)(w t:Int):Option Bd :=
 if clearF s (wayF s k w).1 (wayF s k w).2=true then(s.opn.getD k []).findSome? (winO t (stepsF s.speed (wayF s k w).1 (wayF s k w).2)) else none
def rightP(s:Cr)(x:Int × Int):Prop:=(0<=x.1 /\ x.1<=(s.lines.length:Int) - 1) /\ (0<=x.2 /\ x.2<=1)
end Go.Proofs.YtpgalhbplcanhaaGreatDoor.C
end
section
open Go PvL Go.Proofs
set_option linter.unusedSimpArgs false
set_option linter.unusedVariables false
namespace Go.Proofs.YtpgalhbplcanhaaGreatDoor.C
abbrev shv(k:Nat)(w:Int):LV:=.agg [I k,I w]
set_option maxHeartbeats 4000000 in
theorem zau(x y:Int)(hx:-131072<=x /\ x<=131072)(hy:-131072<=y /\ y<=131072)(M:Mem):ze Tryz.prog 165 [.agg [I x,I y]] M (fun w M'=>w=I (octF x y) /\ Grow M M'):=by
 refine zf k165 rfl ?_
 delta x165;refine un ?_
 repeat' first|with_reducible intro _|refine sv ?_|refine su ?_|((with_reducible first|apply zu|apply zt|apply zn);exact gd;exact rfl;exact rfl;(first|exact z1r _ _ _ _))|refine ss ?_ ?_<;>(intro h;first|exact sz h|refine sy h ?_)|exact sq|fail
 all_goals (refine kf ?_)
 all_goals refine⟨?_,xg⟩
 all_goals unfold octF
 all_goals (repeat' split)
 all_goals first|rfl|(exfalso;omega)
theorem zs9{A:CrA}{s:Cr}{pc pm:Nat}{k:Nat}{w:Int}{M:Mem}(hC:ChM M A s pc pm)(hk:k < s.lines.length)(hw:w=0 ∨ w=1) :
  ze Tryz.prog 164 [.ptr (some (pc,0)),shv k w] M (fun v M'=>v=wayv (wayF s k w) /\ Grow M M'):=by
 obtain⟨aL,fL,aF,fF,aB,fB,aO,fO,eF⟩:=A
 have hcell:=hC.cells
 have hpc:=hcell.2
 obtain⟨i,o,rfl,hr⟩:=(show SlA 4 legc M aL s.lines from hC.cr.lines).resolve_left (fun e=>by rw[e] at hk;simp at hk)
 have r1:=hr k hk
 have hi:=r1.2
 refine zf k164 rfl ?_
 delta x164;refine un ?_
 unfold wayF
 rw[z00 hk]
 rcases hw with rfl|rfl
 ·(have hrd0:=r1;repeat' (first|(with_reducible intro _)|refine sv ?_|refine ss ?_ ?_<;>(intro h;first|exact sz h|refine sy h ?_)|exact sq|fail))
  refine kf ?_
  exact⟨rfl,xg⟩
 ·(have hrd0:=r1;repeat' (first|(with_reducible intro _)|refine sv ?_|refine ss ?_ ?_<;>(intro h;first|exact sz h|refine sy h ?_)|exact sq|fail))
  refine kf ?_
  exact⟨rfl,xg⟩
theorem zp6{A:CrA}{s:Cr}{pc pm:Nat}{x:Int × Int}{M:Mem}(hC:ChM M A s pc pm)(hn:1<=s.lines.length /\ s.lines.length<=5) :
  ze Tryz.prog 49 [.ptr (some (pc,0)),.agg [I x.1,I x.2]] M (fun v M'=>v=.bool (decide ((0<=x.1 /\ x.1<=(s.lines.length:Int) - 1) /\ (0<=x.2 /\ x.2<=1))) /\ Grow M M'):=by
 have hcell:=hC.cells
 have hpc:=hcell.2
 refine zf k49 rfl ?_
 delta x49;refine un ?_
 repeat' first|with_reducible intro _|refine sv ?_|((with_reducible first|apply zu|apply zt|apply zn);exact gd;exact rfl;exact rfl;(first|exact z1r _ _ _ _))|refine ss ?_ ?_<;>(intro h;first|exact sz h|refine sy h ?_)|exact sq|fail
 all_goals (refine kf ?_)
 all_goals refine⟨?_,xg⟩
 all_goals first
  | exact zd0 (by omega)
  | exact lb_f (by omega)
  | exact lb_t (by omega)
