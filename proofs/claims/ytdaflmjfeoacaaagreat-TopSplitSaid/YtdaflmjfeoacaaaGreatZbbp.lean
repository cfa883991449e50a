/- Part of the proof of TopTry, TopSplit: BeI, BeJ, BeK, BeL, BeM, BeN. Conditions: none. -/
import Derived.Test.YtdaflmjfeoacaaaGreatZbbo
set_option linter.all false
set_option maxHeartbeats 16000000
set_option maxRecDepth 4000
namespace Go.Proofs.YtdaflmjfeoacaaaGreat
open Tryz
open Go.RowKit Go.Shelf
def U6b (b:Bch)(k:Nat):Int:=((stepP b k).pub.getD k (Ui [])).t.ans
def pubN (b:Bch)(k:Nat):Bch :=
 if Uw5 b k then (if U6b b k=1 then { stepP b k with tail:=(stepP b k).tail.set k ((stepP b k).tail.getD k 0+1) } else { stepP b k with drops:=(stepP b k).drops.set k ((stepP b k).drops.getD k 0+1) }) else stepP b k
structure PbR (w:World) (gb k:Nat) (b:Bch) (R:Rep) (W:World):Prop where
 p:Box W w.heap.size 99 #[.pointer (some ⟨gb,0,none⟩)]
 q:Box W (w.heap.size+1) 3 #[.int .i64 (k:Int)]
 g:Box W gb 55 (ncs b R)
 c:Chg (fun j=>j=gb) w W
theorem PbR.drew {w W:World}{gb k:Nat}{b:Bch}{R:Rep}(H:PbR w gb k b R W):PbR w gb k b R W.drew:=⟨H.p.drew,H.q.drew,H.g.drew,H.c.drew⟩
theorem Unn (b:Bch)(k:Nat):(stepP b k).begun.length=b.begun.length∧(stepP b k).tail=b.tail∧(stepP b k).head=b.head∧(stepP b k).drops=b.drops:=by
 unfold stepP;split
 ·exact⟨by simp[Upa],rfl,rfl,rfl⟩
 ·exact⟨rfl,rfl,rfl,rfl⟩
theorem BnX.lens4 {X:Nat→Prop}{w:World}{R:Rep}{b:Bch}(h:BnX X w R b)(h1:b.begun.length=4)(h2:b.tail.length=4)(h3:b.head.length=4)(h4:b.drops.length=4):(Ym b R).map List.length=Uf0:=by
 have k1:R.pub.flatten.length=144:=by rw[Ufu h.pub36,h.pl]
 have k2:R.reads.flatten.length=72:=by rw[Ufu h.reads36,h.rl]
 have k3:b.cals.list.length=20:=rfl;have k4:b.x.list.length=29:=rfl;simp only[Ym,Ucb,List.map_cons,List.map_nil,List.length_map,List.length_singleton,k1,k2,k3,k4,h.fuse.1,h.ll,h1,h2,h3,h4,Uu h.q.len h.q.nl]
 rfl
theorem U0z {X:Nat→Prop}{gb:Nat}{b:Bch}{n:Int}{k:Nat}(hs:Ya n b)(hn:n≤1000000)(hXg:X gb)(hk:k<4){W:World}{R:Rep}(hg:Box W gb 55 (ncs (stepP b k) R))(h:BnX X W R (stepP b k)) :
  W.cell? ⟨gb,26+k*36+35,none⟩=some (.int .i64 (U6b b k))∧W.cell? ⟨gb,174+k,none⟩=some (.int .i64 ((stepP b k).tail.getD k 0))∧W.cell? ⟨gb,182+k,none⟩=some (.int .i64 ((stepP b k).drops.getD k 0)) ∧
  IntKind.i64.wrap ((stepP b k).tail.getD k 0+1)=(stepP b k).tail.getD k 0+1∧IntKind.i64.wrap ((stepP b k).drops.getD k 0+1)=(stepP b k).drops.getD k 0+1 ∧
  (∀W',W'=W.setCell ⟨gb,174+k,none⟩ (.int .i64 ((stepP b k).tail.getD k 0+1))→Box W' gb 55 (ncs { stepP b k with tail:=(stepP b k).tail.set k ((stepP b k).tail.getD k 0+1) } R)∧BnX X W' R { stepP b k with tail:=(stepP b k).tail.set k ((stepP b k).tail.getD k 0+1) }) ∧
  (∀W',W'=W.setCell ⟨gb,182+k,none⟩ (.int .i64 ((stepP b k).drops.getD k 0+1))→Box W' gb 55 (ncs { stepP b k with drops:=(stepP b k).drops.set k ((stepP b k).drops.getD k 0+1) } R)∧BnX X W' R { stepP b k with drops:=(stepP b k).drops.set k ((stepP b k).drops.getD k 0+1) }):=by
 obtain⟨e1,e2,e3,e4⟩:=Unn b k;have hl:=h.lens4 (by rw[e1];exact hs.begun.len) (by rw[e2];exact hs.tail.len) (by rw[e3];exact hs.head.len) (by rw[e4];exact hs.drops.len);have hrl:k<R.pub.length:=by rw[h.pl];exact hk
 obtain⟨T,eT,hT⟩:=h.pub k hk;have ha:U6b b k=T.t.ans:=by unfold U6b;rw[Ugp eT]
 have t0:=hs.tail.lo k hk;have t1:=hs.tail.hi k hk;have d0:=hs.drops.lo k hk;have d1:=hs.drops.hi k hk;refine⟨?_,Z4 (S:=Ym (stepP b k) R) hg hl 6 k (o:=174) (by decide) rfl (Ue6 (by rw[e2,hs.tail.len];exact hk)),Z4 (S:=Ym (stepP b k) R) hg hl 8 k (o:=182) (by decide) rfl (Ue6 (by rw[e4,hs.drops.len];exact hk)),by rw[e2,Xf];omega,by rw[e4,Xf];omega,?_,?_⟩
 ·have H:=hg;rw[Uiu hrl] at H;obtain⟨cs,e,_,_,_,h35⟩:=hT.task.parts;injection e with e
  rw[←e] at h35;rw[ha];exact Ubt H (o:=26+k*36) (by rw[Uhy h hk];omega) 35 _ (by simpa using h35)
 ·intro W' hW';have:=Ue5 (S:=Ym (stepP b k) R) hg hl 6 k (o:=174) (by decide) rfl (by show k<(Ucb (stepP b k).tail).length;rw[Ucb,List.length_map,e2,hs.tail.len];exact hk) (.int .i64 ((stepP b k).tail.getD k 0+1));rw[show(Ym (stepP b k) R).set 6 (((Ym (stepP b k) R).getD 6 []).set k (.int .i64 ((stepP b k).tail.getD k 0+1)))=Ym { stepP b k with tail:=(stepP b k).tail.set k ((stepP b k).tail.getD k 0+1) } R by simp[Ym,Ucb,List.map_set]] at this;have hc:Chg X W W':=by rw[hW'];exact Chg.setCell (p:=⟨gb,174+k,none⟩) hXg _
  have h':=h.chg hc;exact⟨by rw[hW'];exact this,h'.mem,h'.ll,h'.lists,h'.pl,h'.pub,h'.fuse,h'.q,h'.rl,h'.reads⟩
 ·intro W' hW';have:=Ue5 (S:=Ym (stepP b k) R) hg hl 8 k (o:=182) (by decide) rfl (by show k<(Ucb (stepP b k).drops).length;rw[Ucb,List.length_map,e4,hs.drops.len];exact hk) (.int .i64 ((stepP b k).drops.getD k 0+1));rw[show(Ym (stepP b k) R).set 8 (((Ym (stepP b k) R).getD 8 []).set k (.int .i64 ((stepP b k).drops.getD k 0+1)))=Ym { stepP b k with drops:=(stepP b k).drops.set k ((stepP b k).drops.getD k 0+1) } R by simp[Ym,Ucb,List.map_set]] at this;have hc:Chg X W W':=by rw[hW'];exact Chg.setCell (p:=⟨gb,182+k,none⟩) hXg _
  have h':=h.chg hc;exact⟨by rw[hW'];exact this,h'.mem,h'.ll,h'.lists,h'.pl,h'.pub,h'.fuse,h'.q,h'.rl,h'.reads⟩
theorem Uh0 {X:Nat→Prop}{gb:Nat}{w:World}{R:Rep}{b:Bch}{n:Int}{k:Nat}(hg:Box w gb 55 (ncs b R))(h:BnX X w R b)(hs:Ya n b)(hn:n≤1000000)(hX:∀j,X j→j<w.heap.size)(hXg:X gb)(hk:k<4)
  (hlt:(b.pub.getD k (Ui [])).t.done=true→b.begun.getD k 0<((b.lists.getD k []).length:Int)) :
  Calls prog 36 #[.pointer (some ⟨gb,0,none⟩),.int .i64 (k:Int)] w (Ujn X gb (pubN b k) w):=by
 have hgl:=hg.lt
 have KS:Hid (∀W,PbR w gb k b R W→Calls prog 59 #[.pointer (some ⟨gb,0,none⟩),.pointer (some ⟨gb,26+k*36,none⟩),.func (.func 60) #[] #[.pointer (some ⟨w.heap.size,0,none⟩),.pointer (some ⟨w.heap.size+1,0,none⟩)]] W (Uq8 X gb (stepP b k) (Uw5 b k) W)):=Qd (fun W H=>by
  have e:26+k*36=26+36*k:=by omega
  rw[e]
  exact Uw6 H.p H.q H.g (h.chg (Uo9 hXg H.c)) hs hn (fun j hj=>Xe (hX j hj) H.c.size) hXg hk hlt (by omega) (by omega))
 have D0:Hid (PbR w gb k b R ((w.alloc (.cells #[.pointer (some ⟨gb,0,none⟩)] 99)).alloc (.cells #[.int .i64 (k:Int)] 3))):=Qd ⟨(Box.new _ _ _).alloc _,Box.at_ (by simp) _ _,(hg.alloc _).alloc _,Chg.of (((Xb _ w).alloc (Xa _) _).alloc (by simp) _)⟩;obtain⟨T,eT,hT⟩:=h.pub k hk;rw[Ugp eT] at hlt;have hrl:k<R.pub.length:=by rw[h.pl];exact hk
 have XD:Hid (∀W,Box W gb 55 (ncs b R)→W.cell? ⟨gb,26+k*36+34,none⟩=some (.bool T.t.done)):=Qd (fun W H=>by
  rw[Uiu hrl] at H;obtain⟨cs,e,_,_,h34,_⟩:=hT.task.parts;injection e with e
  rw[←e] at h34
  exact Ubt H (o:=26+k*36) (by rw[Uhy h hk];omega) 34 _ (by simpa using h34))
 have XB:Hid (∀W,Box W gb 55 (ncs b R)→W.cell? ⟨gb,170+k,none⟩=some (.int .i64 (b.begun.getD k 0))):=Qd (fun W H=>Z4 (S:=Ym b R) H (h.lens hs) 5 k (o:=170) (by decide) rfl (Ue6 (by rw[hs.begun.len];exact hk)));have XL0:Hid (∀W,Box W gb 55 (ncs b R)→W.cell? ⟨gb,21+k,none⟩=some (R.lists.getD k (.bool false))):=Qd (fun W H=>Z4 (S:=Ym b R) H (h.lens hs) 2 k (o:=21) (by decide) rfl (by show R.lists[k]? = _;rw[List.getD_eq_getElem?_getD,Xj (by rw[h.ll];exact hk)];rfl));obtain⟨es,hes⟩:=h.lists k hk;obtain⟨A,c,el,-,-⟩:=hes.form;have XL:=XL0;rw[el] at XL;have HFN:Hid (pubN b k=if Uw5 b k then (if U6b b k=1 then { stepP b k with tail:=(stepP b k).tail.set k ((stepP b k).tail.getD k 0+1) } else { stepP b k with drops:=(stepP b k).drops.set k ((stepP b k).drops.getD k 0+1) }) else stepP b k):=Qd rfl;have hk0:(0:Int)≤k:=by omega
 have hk4:(k:Int)<4:=by omega
 have HK:=Qd hk;have PA:Hid (∀{W:World} {R:Rep},Box W gb 55 (ncs (stepP b k) R)→BnX X W R (stepP b k)→_):=Qd (fun a1 a2=>U0z hs hn hXg hk a1 a2);clear hg h hs hn hX hXg hes el XL0 hT eT hrl;generalize (b.lists.getD k []).length=m at *;generalize b.begun.getD k 0=bg at *;generalize T.t.done=dT at *;cases dT;rotate_right
 focus
  have ebm:(bg==(m:Int))=false:=by have:=hlt rfl;simp;omega
 rotate_right
 all_goals
  clear hlt;go_enter func36,ntmps36;go_upto_region 1 with fail
  refine Xm (S:=fun w'=>PbR w gb k b R w') (by kernel_rfl) D0.out.drew (fun hHeld=>?_);refine Qe 0 (.pointer (some ⟨gb,0,none⟩)) (fun w hW=>?_) ?_
  ·have x1:=hW.p.cell 0;go_simp
  simp only[Qz];refine Qe 1 (.int .i64 (k:Int)) (fun w hW=>?_) ?_
  ·have x1:=hW.q.cell 0;go_simp
  simp only[Qz];refine Qn 2 (.pointer (some ⟨gb,0,none⟩)) ?_;refine Qn 3 (.pointer (some ⟨gb,26,none⟩)) ?_;refine Qn 4 (.pointer (some ⟨gb,26+k*36,none⟩)) ?_;refine Qn 5 (.pointer (some ⟨gb,26+k*36,none⟩)) ?_;refine Xl (by kernel_rfl) ?_ _;go_upto_region 2 with fail
  refine Xm (S:=fun w'=>PbR w gb k b R w') (by kernel_rfl) D0.out.drew.drew (fun hHeld=>?_);refine Qn 0 (.pointer (some ⟨gb,26+k*36,none⟩)) ?_;refine Qn 1 (.pointer (some ⟨gb,26+k*36,none⟩)) ?_;refine Qn 2 (.pointer (some ⟨gb,26+k*36+34,none⟩)) ?_
 rotate_right
 focus
  refine Qe 3 (.bool true) (fun w hW=>?_) ?_
  ·have x1:=XD.out _ hW.g;go_simp
  simp only[Qz];refine Qn 4 (.bool true) ?_;refine Qe 5 (.pointer (some ⟨gb,0,none⟩)) (fun w hW=>?_) ?_
  ·have x1:=hW.p.cell 0;go_simp
  simp only[Qz];refine Qe 6 (.int .i64 (k:Int)) (fun w hW=>?_) ?_
  ·have x1:=hW.q.cell 0;go_simp
  simp only[Qz];refine Qn 7 (.pointer (some ⟨gb,0,none⟩)) ?_;refine Qn 8 (.pointer (some ⟨gb,170,none⟩)) ?_;refine Qn 9 (.pointer (some ⟨gb,170+k,none⟩)) ?_;refine Qe 10 (.int .i64 bg) (fun w hW=>?_) ?_
  ·have x1:=XB.out _ hW.g;go_simp
  simp only[Qz];refine Qe 11 (.pointer (some ⟨gb,0,none⟩)) (fun w hW=>?_) ?_
  ·have x1:=hW.p.cell 0;go_simp
  simp only[Qz];refine Qe 12 (.int .i64 (k:Int)) (fun w hW=>?_) ?_
  ·have x1:=hW.q.cell 0;go_simp
  simp only[Qz];refine Qn 13 (.pointer (some ⟨gb,0,none⟩)) ?_;refine Qn 14 (.pointer (some ⟨gb,21,none⟩)) ?_;refine Qn 15 (.pointer (some ⟨gb,21+k,none⟩)) ?_;refine Qe 16 (.slice A m c) (fun w hW=>?_) ?_
  ·have x1:=XL.out _ hW.g;go_simp
  simp only[Qz];refine Qn 17 (.int .i64 (m:Int)) ?_;refine Qn 18 (.bool false) ?_
 rotate_right
 focus
  refine Qe 3 (.bool false) (fun w hW=>?_) ?_
  ·have x1:=XD.out _ hW.g;go_simp
  simp only[Qz];refine Qn 4 (.bool false) ?_;refine Qm 5 ?_;refine Qm 6 ?_;refine Qm 7 ?_;refine Qm 8 ?_;refine Qm 9 ?_;refine Qm 10 ?_;refine Qm 11 ?_;refine Qm 12 ?_;refine Qm 13 ?_;refine Qm 14 ?_;refine Qm 15 ?_;refine Qm 16 ?_;refine Qm 17 ?_;refine Qm 18 ?_
 all_goals
  refine Qn 19 (.bool false) ?_;refine Xl (by kernel_rfl) ?_ _;go_upto_region 3 with fail
  refine Uq fun W3 hW3=>?_
  have D3:Hid (PbR w gb k b R W3):=Qd (by rw[hW3];exact D0.out.drew.drew);clear hW3 D0;have xp:=D3.out.p.cell 0;go_wp2_with fail;refine(KS.out _ D3.out).mono ?_;rintro e w4 ⟨R1,rfl,h1,h2,h3⟩;have D4:Hid (PbR w gb k (stepP b k) R1 w4):=Qd ⟨D3.out.p.chg h3 (by omega),D3.out.q.chg h3 (by omega),h1,D3.out.c.trans h3⟩;have Q4:=Qd h2;obtain⟨xa,xt,xd,hwt,hwd,hst,hsd⟩:=PA.out h1 h2;have XA:Hid (∀W,Box W gb 55 (ncs (stepP b k) R1)→BnX X W R1 (stepP b k)→W.cell? ⟨gb,26+k*36+35,none⟩=some (.int .i64 (U6b b k))∧W.cell? ⟨gb,174+k,none⟩=some (.int .i64 ((stepP b k).tail.getD k 0))∧W.cell? ⟨gb,182+k,none⟩=some (.int .i64 ((stepP b k).drops.getD k 0))):=Qd (fun W a1 a2=>by have:=PA.out a1 a2;exact⟨this.1,this.2.1,this.2.2.1⟩);have HST:=Qd hst;have HSD:=Qd hsd;clear h1 h2 h3 hst hsd xp KS XD XB XL D3 PA;generalize (stepP b k).tail.getD k 0=tl at *;generalize (stepP b k).drops.getD k 0=dp at *;generalize U6b b k=an at *;generalize Uw5 b k=dn at *;cases dn
  ·go_wp2_with fail;exact bodyPost_end (results_none rfl _ _ _) rfl (by rw[HFN.out,if_neg (by decide)];exact⟨R1,rfl,D4.out.g,Q4.out,D4.out.c⟩)
  ·by_cases ha:an=1;rotate_right
   focus
    have HE:Hid (pubN b k={ stepP b k with drops:=(stepP b k).drops.set k (dp+1) }):=Qd (by rw[HFN.out,if_pos rfl,if_neg ha]);have ha2:(an==1)=false:=by simpa using ha
    clear ha;go_upto_region 7 with fail
   rotate_right
   focus
    subst ha;have HE:Hid (pubN b k={ stepP b k with tail:=(stepP b k).tail.set k (tl+1) }):=Qd (by rw[HFN.out,if_pos rfl,if_pos rfl]);go_upto_region 5 with fail
   all_goals
    refine Uk (S:=fun w'=>PbR w gb k (stepP b k) R1 w'∧BnX X w' R1 (stepP b k)) 10 10 (by kernel_rfl) rfl (by kernel_rfl) (by decide) ⟨D4.out.drew,Q4.out.chg ((Chg.refl _ _).drew)⟩ (fun hHeld=>?_);refine Qe 0 (.pointer (some ⟨gb,0,none⟩)) (fun w hW=>?_) ?_
    ·have x1:=hW.1.p.cell 0;go_simp
    simp only[Qz];refine Qe 1 (.int .i64 (k:Int)) (fun w hW=>?_) ?_
    ·have x1:=hW.1.q.cell 0;go_simp
    simp only[Qz];refine Qn 2 (.pointer (some ⟨gb,0,none⟩)) ?_
   rotate_right
   focus
    refine Qn 3 (.pointer (some ⟨gb,182,none⟩)) ?_;refine Qn 4 (.pointer (some ⟨gb,182+k,none⟩)) ?_;refine Qe 5 (.int .i64 dp) (fun w hW=>?_) ?_
    ·have x1:=XA.out _ hW.1.g hW.2;have x2:=x1.2.1;have x3:=x1.2.2;go_simp
    simp only[Qz];refine Qn 6 (.int .i64 (dp+1)) ?_;refine Qn 7 (.pointer (some ⟨gb,0,none⟩)) ?_;refine Qn 8 (.pointer (some ⟨gb,182,none⟩)) ?_;refine Qn 9 (.pointer (some ⟨gb,182+k,none⟩)) ?_;refine Xl (by kernel_rfl) ?_ _;have x1:w4.drew.cell? ⟨gb,182+k,none⟩=some (.int .i64 dp):=xd;have f1:=D4.out.g.drew.frozen (182+k);refine U4 rfl (by rfl) ?_;go_simp;refine Uh6 fun W5 hW5=>?_
    have HB:Hid (Ujn X gb { stepP b k with drops:=(stepP b k).drops.set k (dp+1) } w (.returned (.tuple #[])) W5):=Qd (by
     have hh:=HSD.out _ rfl;rw[hW5]
     exact⟨R1,rfl,hh.1.drew,hh.2.chg ((Chg.refl _ _).drew),(D4.out.c.trans (Chg.setCell (X:=fun j=>j=gb) (p:=⟨gb,182+k,none⟩) rfl _)).drew⟩)
   rotate_right
   focus
    refine Qn 3 (.pointer (some ⟨gb,174,none⟩)) ?_;refine Qn 4 (.pointer (some ⟨gb,174+k,none⟩)) ?_;refine Qe 5 (.int .i64 tl) (fun w hW=>?_) ?_
    ·have x1:=XA.out _ hW.1.g hW.2;have x2:=x1.2.1;have x3:=x1.2.2;go_simp
    simp only[Qz];refine Qn 6 (.int .i64 (tl+1)) ?_;refine Qn 7 (.pointer (some ⟨gb,0,none⟩)) ?_;refine Qn 8 (.pointer (some ⟨gb,174,none⟩)) ?_;refine Qn 9 (.pointer (some ⟨gb,174+k,none⟩)) ?_;refine Xl (by kernel_rfl) ?_ _;have x1:w4.drew.cell? ⟨gb,174+k,none⟩=some (.int .i64 tl):=xt;have f1:=D4.out.g.drew.frozen (174+k);refine U4 rfl (by rfl) ?_;go_simp;refine Uh6 fun W5 hW5=>?_
    have HB:Hid (Ujn X gb { stepP b k with tail:=(stepP b k).tail.set k (tl+1) } w (.returned (.tuple #[])) W5):=Qd (by
     have hh:=HST.out _ rfl;rw[hW5]
     exact⟨R1,rfl,hh.1.drew,hh.2.chg ((Chg.refl _ _).drew),(D4.out.c.trans (Chg.setCell (X:=fun j=>j=gb) (p:=⟨gb,174+k,none⟩) rfl _)).drew⟩)
   all_goals
    clear hW5 x1 f1 hHeld;go_wp2_with fail;exact bodyPost_end (results_none rfl _ _ _) rfl (by rw[HE.out];exact HB.out)
theorem Uf1 {P:Program}{fn:Func}{o p q:Tmp}{ty:TypeId}(h:fn.results=#[.tmp o,.cell p ty,.tmp q])(tmps:Array Value)(w:World)(g:Nat)(t:TypeId)(cs:Array Value)(fr:Nat×Nat)(d:TypeDesc)
  (hp:tmps.getD p undef = .pointer (some ⟨g,0,none⟩)) (hg:w.heap[g]? = some (.cells cs t fr)) (hu:P.underlying ty=some d) (hd:(match d with | .struct _ | .array _ _=>true|_=>false)=true) (hi:(P.info? ty).map (·.size)=some cs.size) :
  (results fn tmps).run P w = .ok (.tuple #[tmps.getD o undef,.agg cs,tmps.getD q undef]) w:=by
 have hp':tmps[p]?.getD undef = .pointer (some ⟨g,0,none⟩):=by simpa using hp
 simp[results,h,hp',asAddr,run_loadVar_row w g t ty cs fr d hg hu hd hi]
theorem Ul1 {X:Nat→Prop}{w:World}{R:Rep}{b:Bch}{n:Int}(h:BnX X w R b)(hs:Ya n b){r:Nat}(hr:r<2){T:FT}(eT:b.reads[r]? = some T){x:Sta}(hx:Ual x)(hB:Uhc T 26=true)(hL:Ukz T 26=U0 x) :
  Calls prog 9 #[nv b R,.int .i64 (r:Int)] w (Ub (.tuple #[.int .i64 (Uky T 26),stv x,.bool true]) w):=by
 obtain⟨T',eT',hT⟩:=h.reads r hr;obtain rfl:T'=T:=by rw[eT] at eT';injection eT' with e;exact e.symm
 have KT:Hid (∀W,Below w.heap.size w W→Calls prog 19 #[.agg (R.reads.getD r []).toArray,.int .i64 26] W (Z8 T' 26 W)):=Qd (fun W hb=>Uvk (hT.chg (Chg.of hb)).task (by unfold I64;omega));have KR:Hid (∀W v,Yx W v (U0 x)→Calls prog 20 #[v] W (Ub (.tuple #[stv x,.int .i64 0]) W)):=Qd (fun W v hv=>Uwr hx hv);have hrl:r<R.reads.length:=by rw[h.rl];exact hr
 have CT:Hid (∀W,Box W w.heap.size 55 (ncs b R)→W.rangeAt w.heap.size (273+r*36) (R.reads.getD r [])):=Qd (fun W H=>by
  rw[Uo8 hrl] at H
  exact Ubt H (o:=273+r*36) (by rw[Ukc h hs hr];omega))
 have S36:Hid ((prog.info? 36).map (·.size)=some (R.reads.getD r []).length):=Qd (by rw[hT.1];kernel_rfl);have D0:=Qd (Duo.new w 55 (ncs b R) 52 Uae.cells);have SX:Hid ((prog.info? 52).map (·.size)=some x.cells.size∧Uae.cells.size=x.cells.size∧x.cells.all (·.oneCell')=true):=Qd ⟨Yj,rfl,Sta.one _⟩;unfold Z8 at KT;rw[hB,hL] at KT;have hr0:(0:Int)≤r:=by omega
 have hr2:(r:Int)<2:=by omega
 have er0:decide ((r:Int)<0)=false:=Xh (by omega);have er2:decide (2≤(r:Int))=false:=Xh (by omega);generalize Uky T' 26=tv at *;clear h hs hT eT eT' hx hB hL hrl;dsimp only[nv,stv] at *;generalize ncs b R=cs at *;generalize R.reads.getD r []=cl at *;generalize U0 x=ws at *;obtain⟨xl,hxl⟩:∃l,x.list=l:=⟨_,rfl⟩;have exl:x.cells=xl.toArray:=by rw[←hxl];rfl
 rw[exl] at SX KR ⊢;clear exl hxl;go_enter func9,ntmps9;go_upto_region 1 with fail
 refine Uq fun W0 hW0=>?_
 have D1:Hid (Duo w 55 cs 52 Uae.cells W0):=Qd (by rw[hW0];exact D0.out);clear hW0 D0;go_wp2_with (with_reducible first|refine Qi 36 ?_|refine Qh 52 ?_);refine Ubl.go rfl w.heap.size (273+r*36) rfl (CT.out _ D1.out.1) underlying36 rfl S36.out ?_;go_wp2_with fail;refine(KT.out _ D1.out.2.2).mono ?_;rintro e w1 ⟨v2,rfl,hv,hb⟩;have D2:=Qd (D1.out.kept hb);have KR1:=Qd (KR.out w1 v2 hv);clear hv hb D1 KT KR;go_wp2_with fail;refine KR1.out.mono ?_;rintro e w2 ⟨rfl,hb⟩;have D3:=Qd (D2.out.kept hb);clear hb D2 KR1;go_wp2_with (with_reducible first|refine Qi 36 ?_|refine Qh 52 ?_);refine Uf.go w2.heap.size rfl rfl (Box.new _ _ _) SX.out.1 (by have:=SX.out.2.1;exact this) SX.out.2.2 ?_;go_upto_region 7 with fail
 refine Uq fun W7 hW7=>?_
 have D7:Hid (Duo w 55 cs 52 Uae.cells W7∧Box W7 w2.heap.size 52 xl.toArray∧w.heap.size+1<w2.heap.size):=Qd ⟨by rw[hW7];exact D3.out.kept (Uc ((Xb _ w2).alloc (Xa _) _) (Xa _) _),by rw[hW7];exact(Box.new _ _ _).row _,D3.out.2.1.lt⟩;clear hW7 D3;have SXL:Hid ((prog.info? 52).map (·.size)=some xl.length):=Qd (by simpa using SX.out.1);refine Xm (S:=fun w'=>Box w' w2.heap.size 52 xl.toArray) (by kernel_rfl) D7.out.2.1.drew (fun hHeld=>?_);refine Qn 0 (.int .i64 tv) ?_;refine Ux (i:=1) (v := .agg (xl).toArray) rfl rfl (by kernel_rfl) (by kernel_rfl) (by kernel_rfl) (fun _ _ _ h=>h)
  (Xn (by rfl) 52 _ rfl (w2.heap.size) (0) rfl (xl) _ (fun _ h=>h.rangeA) underlying52 rfl SXL.out) hHeld ?_
 simp only[Qz];refine Qn 2 (.int .i64 tv) ?_;refine Ut fun WD hWD=>?_
 have D8:Hid (Duo w 55 cs 52 Uae.cells WD∧Box WD w2.heap.size 52 xl.toArray):=Qd (by rw[hWD];exact⟨D7.out.1.drew,D7.out.2.1.drew⟩);clear hWD;refine Qc 3 fun KQ hKQ=>?_
 rw[if_pos (by rfl)];refine wp_store_mid 52 _ _ rfl (w.heap.size+1) 0 xl.toArray rfl rfl (D8.out.2 |> fun _=>D8.out.1.2.1.midThere (by have:=SX.out.2.1;omega)) SX.out.1 SX.out.2.2 ?_;refine Uh6 fun W9 hW9=>?_
 have D9:Hid (Box W9 (w.heap.size+1) 52 xl.toArray∧Box W9 w2.heap.size 52 xl.toArray∧Below w.heap.size w W9):=Qd (by
  have hc:Chg (fun j=>j=w.heap.size+1) WD W9:=by rw[hW9];exact Chg.setCells (X:=fun j=>j=w.heap.size+1) rfl _ _
  refine⟨by rw[hW9];exact D8.out.1.2.1.setCells_all (by have:=SX.out.2.1;simpa using this.symm),D8.out.2.chg hc (by have:=D7.out.2.2;omega),?_⟩;have hb:=D8.out.1.2.2
  exact⟨hc.os.trans hb.os,hc.tape.trans hb.tape,hc.output.trans hb.output,Xd hb.size hc.size,fun k hk=>(hc.block k (Xe hk hb.size) (by omega)).trans (hb.block k hk)⟩)
 clear hW9 D8;go_simp;refine hKQ.out _ _ D9.out.2.1 (fun hHeld=>?_);clear hKQ KQ;refine Qn 4 (.bool true) ?_;refine Xl (by kernel_rfl) ?_ _;clear hHeld D7;go_wp2_with fail;exact Xk (Uf1 results9 _ _ (w.heap.size+1) 52 _ (0,0) _ rfl D9.out.1 underlying52 rfl SX.out.1) rfl ⟨rfl,D9.out.2.2⟩
theorem Uw7 {l:List Value}{n:Nat}(hl:l.length=n)(h:∀k,k<n→(l.getD k (.bool false)).oneCell'=true):∀u∈l,u.oneCell'=true:=fun u hu=>by
 obtain⟨i,hi,rfl⟩:=List.mem_iff_getElem.1 hu;have:=h i (by omega)
 rwa [List.getD_eq_getElem?_getD,Xj hi] at this
theorem Ul2 {l:List (List Value)}{n:Nat}(hl:l.length=n)(h:∀k,k<n→∀u∈l.getD k [],u.oneCell'=true):∀u∈l.flatten,u.oneCell'=true:=fun u hu=>by
 obtain⟨s,hs,hus⟩:=List.mem_flatten.1 hu;obtain⟨i,hi,rfl⟩:=List.mem_iff_getElem.1 hs;have:=h i (by omega) u;rw[List.getD_eq_getElem?_getD,Xj hi] at this;exact this hus
theorem TkX.one {X:Nat→Prop}{w:World}{cl:List Value}{T:FT}(h:TkX X w cl T):∀u∈cl,u.oneCell'=true:=fun u hu=>by
 obtain⟨cs,e,_,h1,_,_⟩:=h.task.parts;injection e with e
 rw[←e] at h1;exact Array.all_eq_true_iff_forall_mem.1 h1 u (by simpa using hu)
theorem Uh1 (l:List Int):∀u∈Ucb l,u.oneCell'=true:=fun u hu=>by obtain⟨n,_,rfl⟩:=List.mem_map.1 hu;rfl
theorem Ugq {X:Nat→Prop}{w:World}{R:Rep}{b:Bch}(h:BnX X w R b):(ncs b R).all (·.oneCell')=true:=by
 have k0:R.mem.oneCell'=true:=Uec h.mem.1.1;have k1:∀u∈b.cals.list,u.oneCell'=true:=by
  intro u hu;simp[Uag.list,Ul8.list] at hu;rcases hu with hu|hu|hu|hu|hu|hu|hu|hu|hu|hu|hu|hu|hu|hu|hu|hu|hu|hu|hu|hu<;>subst hu<;>rfl
 have k2:=Uw7 h.ll (fun k hk=>by obtain⟨es,he⟩:=h.lists k hk;exact Uec he.2.1);have k3:=Ul2 h.pl (fun k hk=>by obtain⟨T,_,ht⟩:=h.pub k hk;exact ht.one);have k4:=Ul2 h.rl (fun k hk=>by obtain⟨T,_,ht⟩:=h.reads k hk;exact ht.one);have k5:=h.fuse.one;have k6:=Uah h.q;have k7:b.x.list.toArray.all (·.oneCell')=true:=Sta.one _;simp only[mcs,List.all_toArray,List.all_eq_true] at k6 k7;rw[Ud7];simp only[List.all_toArray,List.all_eq_true,List.mem_cons,List.mem_append];rintro u (rfl|hu|hu|rfl|hu|hu|hu|hu|hu|hu|rfl|rfl|hu|hu|rfl|hu)
 ·exact k0
 ·exact k1 u hu
 ·exact k2 u hu
 ·rfl
 ·exact k3 u hu
 ·exact Uh1 _ u hu
 ·exact Uh1 _ u hu
 ·exact Uh1 _ u hu
 ·exact Uh1 _ u hu
 ·exact k5 u hu
 ·rfl
 ·rfl
 ·exact k6 u hu
 ·exact k7 u hu
 ·rfl
 ·exact k4 u hu
theorem Uw8 {X:Nat→Prop}{w:World}{R:Rep}{b:Bch}{n:Int}{gl:Nat}{cs0:Array Value}(h:BnX X w R b)(hs:Ya n b)(hg:Box w gl 55 cs0)(h0:cs0.size=345) :
  Calls prog 18 #[nv b R,.pointer (some ⟨gl,0,none⟩)] w (fun e w'=>e = .returned (.tuple #[])∧Box w' gl 55 (ncs b R)∧Chg (fun j=>j=gl) w w'):=by
 have HO:=Qd (Ugq h);have HM:Hid ((prog.info? 55).map (·.size)=some (ncs b R).size):=Qd (Uaw h hs);have HZ:Hid (cs0.size=(ncs b R).size):=Qd (by have e:(ncs b R).size=345:=Z5 (h.lens hs);rw[e,h0]);have B0:Hid (Box (w.alloc (.cells (ncs b R) 55)) w.heap.size 55 (ncs b R)∧Box (w.alloc (.cells (ncs b R) 55)) gl 55 cs0∧Chg (fun j=>j=gl) w (w.alloc (.cells (ncs b R) 55))):=Qd ⟨Box.new _ _ _,hg.alloc _,Chg.of ((Xb _ w).alloc (Xa _) _)⟩;dsimp only[nv] at *;clear h hs hg h0;generalize ncs b R=cs at *;go_enter func18,ntmps18;go_upto_region 1 with fail
 refine Uq fun W0 hW0=>?_
 rw[←hW0] at B0;clear hW0;go_wp2_with (with_reducible first|refine Qg 55 ?_|refine Qh 55 ?_);refine Uo.go w.heap.size rfl B0.out.1 underlying55 rfl HM.out ?_;go_wp2_with (with_reducible first|refine Qg 55 ?_|refine Qh 55 ?_);refine Uf.go gl rfl rfl B0.out.2.1 HM.out HZ.out HO.out ?_;go_wp2_with fail;exact bodyPost_end (results_none rfl _ _ _) rfl ⟨rfl,B0.out.2.1.row _,B0.out.2.2.trans (Chg.setRow (X:=fun j=>j=gl) rfl _)⟩
theorem Uwz.mono {n m:Int}{l:List Int}(h:Uwz n l)(hn:n≤m):Uwz m l:=⟨h.len,h.lo,fun k hk=>by have:=h.hi k hk;omega⟩
theorem Uwz.up {n:Int}{l:List Int}(h:Uwz n l)(k:Nat):Uwz (n+1) (l.set k (l.getD k 0+1)):=by
 by_cases hk:k<4
 ·have hkl:k<l.length:=by rw[h.len];exact hk
  refine⟨by rw[List.length_set];exact h.len,fun j hj=>?_,fun j hj=>?_⟩
  ·rw[Uhz hkl];have h0:=h.lo j hj;have h1:=h.lo k hk;split<;>omega
  ·rw[Uhz hkl];have h0:=h.hi j hj;have h1:=h.hi k hk;split<;>omega
 ·rw[List.set_eq_of_length_le (by rw[h.len];omega)];exact h.mono (by omega)
theorem Ya.mono {n m:Int}{b:Bch}(h:Ya n b)(hn:n≤m):Ya m b :=
 ⟨h.begun.mono hn,h.tail.mono hn,h.head.mono hn,h.drops.mono hn,h.has,h.lists,h.lag,h.ph0,h.ph4,h.top,h.m,h.x,h.ver0,by have:=h.ver;omega⟩
theorem Ya.read {n:Int}{b:Bch}(h:Ya n b)(r:Nat):Ya n (Udb b r) :=
 ⟨h.begun,h.tail,h.head,h.drops,h.has,h.lists,h.lag,h.ph0,h.ph4,h.top,h.m,h.x,h.ver0,h.ver⟩
theorem Ya.beg {n:Int}{b:Bch}(h:Ya n b){k:Nat}(hk:k<4)(hlt:b.begun.getD k 0<((b.lists.getD k []).length:Int)):Ya (n+1) (Upa b k):=by
 have hm:=h.mono (m:=n+1) (by omega);refine⟨h.begun.up k,hm.tail,hm.head,hm.drops,fun j hj=>?_,hm.lists,hm.lag,hm.ph0,hm.ph4,hm.top,hm.m,hm.x,hm.ver0,hm.ver⟩;show(b.begun.set k (b.begun.getD k 0+1)).getD j 0≤_;rw[Uhz (by rw[h.begun.len];exact hk)];split
 ·rename_i e;subst e;show _≤((b.lists.getD j []).length:Int);omega
 ·exact h.has j hj
theorem Ya.stepP {n:Int}{b:Bch}(h:Ya n b){k:Nat}(hk:k<4)(hlt:(b.pub.getD k (Ui [])).t.done=true→b.begun.getD k 0<((b.lists.getD k []).length:Int)):Ya (n+1) (stepP b k):=by
 unfold Go.Proofs.YtdaflmjfeoacaaaGreat.stepP;split;rotate_right
 focus
  have hm:=h.mono (m:=n+1) (by omega)
 rotate_right
 focus
  rename_i hd;have hm:=h.beg hk (hlt hd)
 all_goals
  exact⟨hm.begun,hm.tail,hm.head,hm.drops,hm.has,hm.lists,hm.lag,hm.ph0,hm.ph4,hm.top,hm.m,hm.x,hm.ver0,hm.ver⟩
theorem Ya.pubN {n:Int}{b:Bch}(h:Ya n b){k:Nat}(hk:k<4)(hlt:(b.pub.getD k (Ui [])).t.done=true→b.begun.getD k 0<((b.lists.getD k []).length:Int)):Ya (n+1) (pubN b k):=by
 have hm:=h.stepP hk hlt;obtain⟨e1,e2,e3,e4⟩:=Unn b k;have ht:Uwz (n+1) ((Go.Proofs.YtdaflmjfeoacaaaGreat.stepP b k).tail.set k ((Go.Proofs.YtdaflmjfeoacaaaGreat.stepP b k).tail.getD k 0+1)):=by rw[e2];exact h.tail.up k
 have hd:Uwz (n+1) ((Go.Proofs.YtdaflmjfeoacaaaGreat.stepP b k).drops.set k ((Go.Proofs.YtdaflmjfeoacaaaGreat.stepP b k).drops.getD k 0+1)):=by rw[e4];exact h.drops.up k
 unfold Go.Proofs.YtdaflmjfeoacaaaGreat.pubN;split
 ·split
  ·exact⟨hm.begun,ht,hm.head,hm.drops,hm.has,hm.lists,hm.lag,hm.ph0,hm.ph4,hm.top,hm.m,hm.x,hm.ver0,hm.ver⟩
  ·exact⟨hm.begun,hm.tail,hm.head,hd,hm.has,hm.lists,hm.lag,hm.ph0,hm.ph4,hm.top,hm.m,hm.x,hm.ver0,hm.ver⟩
 ·exact hm
def popF (b:Bch):Bch :=
 if Uf8 b.fuse then { b with head:=b.head.set b.phase.toNat (b.head.getD b.phase.toNat 0+1),m:=(Uiq b.m b.phase.toNat (Z3 b.fuse)).1,top:=if (Uiq b.m b.phase.toNat (Z3 b.fuse)).2=0 then max b.top (Zd (Z3 b.fuse)).1.t else b.top }
 else b
def phF (b:Bch):Bch:={ b with phase:=b.phase+1 }
def U00 (b:Bch):Mrg×List Smp:=Une (Zh (Ugl b.m (b.top-b.lag))+1) (Ugl b.m (b.top-b.lag)) []
def mergeF (b:Bch):Bch:=if b.phase=4 then { b with m:=(U00 b).1,x:=Uf3 b.x b.cals (U00 b).2 } else b
def fuseN (b:Bch):Bch :=
 if (stepF b).fuse.t.done then (if (stepF b).phase=4 then { stepF b with ver:=(stepF b).ver+1,phase:=0 } else mergeF (phF (popF (stepF b)))) else stepF b
theorem Ya.stepF {n:Int}{b:Bch}(h:Ya n b):Ya n (stepF b) :=
 ⟨h.begun,h.tail,h.head,h.drops,h.has,h.lists,h.lag,h.ph0,h.ph4,h.top,h.m,h.x,h.ver0,h.ver⟩
theorem U3g {m:Mrg}{k:Nat}{ws:List Int}(h:(Uiq m k ws).2=0):(Zd ws).2=0:=by
 unfold Uiq at h;split at h
 ·cases h
 ·split at h
  ·rename_i he;exact(Uqn he).1
  ·rename_i he;exact absurd h he
theorem Ya.popF {n:Int}{b:Bch}(h:Ya n b)(hp:b.phase<4):Ya (n+1) (popF b):=by
 have hm:=h.mono (m:=n+1) (by omega);have h0:=h.ph0;unfold Go.Proofs.YtdaflmjfeoacaaaGreat.popF;split
 ·refine⟨hm.begun,hm.tail,h.head.up _,hm.drops,hm.has,hm.lists,hm.lag,hm.ph0,hm.ph4,?_,Uow h.m (by omega) _,hm.x,hm.ver0,hm.ver⟩;show Ua0 (if _ then _ else _);split
  ·rename_i he;have hs:=Und (U3g he);have ht:=hs.2.1;have hT:=h.top;unfold Ua0 at *;exact⟨Int.le_trans hT.1 (Int.le_max_left _ _),Int.max_le.2 ⟨hT.2,ht.2⟩⟩
  ·exact h.top
 ·exact hm
theorem Ya.phF {n:Int}{b:Bch}(h:Ya n b)(hp:b.phase<4):Ya n (phF b) :=
 ⟨h.begun,h.tail,h.head,h.drops,h.has,h.lists,h.lag,by have:=h.ph0;show 0≤b.phase+1;omega,by show b.phase+1≤4;omega,h.top,h.m,h.x,h.ver0,h.ver⟩
theorem Ya.mergeF {n:Int}{b:Bch}(h:Ya n b)(hx:Ual (mergeF b).x):Ya n (mergeF b):=by
 have ht:b.top-b.lag≤1099511627776:=by have:=h.top;have:=h.lag;unfold Ua0 at *;omega
 unfold Go.Proofs.YtdaflmjfeoacaaaGreat.mergeF at hx ⊢;split
 ·rename_i he;rw[if_pos he] at hx;exact⟨h.begun,h.tail,h.head,h.drops,h.has,h.lists,h.lag,h.ph0,h.ph4,h.top,Uoy _ _ _ (Ue1 h.m ht),hx,h.ver0,h.ver⟩
 ·exact h
theorem Udv (b:Bch):(popF b).phase=b.phase:=by unfold popF;split<;>rfl
theorem Ya.fuseN {n:Int}{b:Bch}(h:Ya n b)(hx:Ual (fuseN b).x):Ya (n+1) (fuseN b):=by
 have h1:=h.stepF;unfold Go.Proofs.YtdaflmjfeoacaaaGreat.fuseN at hx ⊢;split
 ·rename_i hd;rw[if_pos hd] at hx;split
  ·have hm:=h1.mono (m:=n+1) (by omega);exact⟨hm.begun,hm.tail,hm.head,hm.drops,hm.has,hm.lists,hm.lag,by show(0:Int)≤0;omega,by show(0:Int)≤4;omega,hm.top,hm.m,hm.x,by have:=h1.ver0;show 0≤(Go.Proofs.YtdaflmjfeoacaaaGreat.stepF b).ver+1;omega,by have:=h1.ver;show(Go.Proofs.YtdaflmjfeoacaaaGreat.stepF b).ver+1≤n+1;omega⟩
  ·rename_i hp;rw[if_neg hp] at hx;have hp4:(Go.Proofs.YtdaflmjfeoacaaaGreat.stepF b).phase<4:=by have:=h1.ph4;omega
   have h2:=h1.popF hp4;have h3:=h2.phF (by rw[Udv];exact hp4);exact h3.mergeF hx
 ·exact h1.mono (by omega)
def Ump (b:Bch)(k:Nat):Bool:=(b.pub.getD k (Ui [])).t.done&&decide (b.begun.getD k 0=((b.lists.getD k []).length:Int))
def Ue8 (p:Int):Nat:=(p % 7).toNat
def Uh2 (b:Bch)(p:Int):Bch :=
 if Ue8 p<4 then (if Ump b (Ue8 p) then b else pubN b (Ue8 p)) else if Ue8 p=4 then fuseN b else Udb b (Ue8 p-5)
def Uax (b:Bch)(ps:List Int):Bch:=ps.foldl Uh2 b
theorem Upb (p:Int):Ue8 p<7:=by unfold Ue8;omega
theorem Uti {n:Int}{b:Bch}(h:Ya n b){k:Nat}(hk:k<4)(hi:Ump b k=false):(b.pub.getD k (Ui [])).t.done=true→b.begun.getD k 0<((b.lists.getD k []).length:Int):=fun hd=>by
 unfold Ump at hi;rw[hd] at hi;simp only[Bool.true_and,decide_eq_false_iff_not] at hi;have:=h.has k hk;omega
theorem Ya.turn {n:Int}{b:Bch}(h:Ya n b)(p:Int)(hx:Ual (Uh2 b p).x):Ya (n+1) (Uh2 b p):=by
 have hm:=h.mono (m:=n+1) (by omega);have h7:=Upb p;unfold Uh2 at hx ⊢;by_cases h4:Ue8 p<4
 ·rw[if_pos h4] at hx ⊢;cases hi:Ump b (Ue8 p) with
  | true=>simpa using hm
  | false=>simpa using h.pubN h4 (Uti h h4 hi)
 ·rw[if_neg h4] at hx ⊢;by_cases h5:Ue8 p=4
  ·rw[if_pos h5] at hx ⊢;exact h.fuseN hx
  ·rw[if_neg h5] at hx ⊢;exact hm.read _
end Go.Proofs.YtdaflmjfeoacaaaGreat
