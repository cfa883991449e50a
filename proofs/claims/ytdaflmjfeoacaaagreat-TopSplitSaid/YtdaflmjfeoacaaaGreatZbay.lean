/- Part of the proof of TopTry, TopSplit: SeB, MeA. Conditions: none. -/
import Derived.Test.YtdaflmjfeoacaaaGreatZbas
import Derived.Test.YtdaflmjfeoacaaaGreatZbav
set_option linter.all false
set_option maxHeartbeats 16000000
set_option maxRecDepth 4000
namespace Go.Proofs.YtdaflmjfeoacaaaGreat
open Tryz
open Go.RowKit
structure SeR (w:World) (c v:Array Value) (g:Nat) (r:Array Value) (W:World):Prop where
 tri:Tri w 26 c 24 v 24 #[.int .i64 0,.int .i64 0,.int .i64 0] W
 row:Box W g 24 r
 cal:Box W w.heap.size 26 c
theorem SeR.kept {w W W':World}{c v r:Array Value}{g:Nat}(H:SeR w c v g r W)(hb:Below W.heap.size W W'):SeR w c v g r W':=⟨H.tri.kept hb,H.row.kept hb,H.cal.kept hb⟩
theorem SeR.drew {w W:World}{c v r:Array Value}{g:Nat}(H:SeR w c v g r W):SeR w c v g r W.drew:=⟨⟨H.tri.1,H.tri.2.1,H.tri.2.2.1,Ue H.tri.2.2.2 1⟩,H.row,H.cal⟩
theorem U7r {n:Int}(h:chg n=false) : -288230376151711744≤n∧n≤288230376151711744:=by
 have h1:Um n=n:=by simpa [chg] using h
 have:=Uan n;omega
theorem Uwd (c:Ul8)(v:V3)(w:World):Calls prog 128 #[U8k c,v3 v] w (Ub (.tuple #[v3 (Uju c v).1,.bool (Uju c v).2]) w):=by
 have KU:=Qd (fun w=>Uhj v c.bias w);have KC:=Qd (fun w=>Udz (Uev v c.bias).1 c.gain w);have KS:=Qd (fun w=>Uv5 c w);have F:Hid (Uju c v=if Uij c∧(Uev v c.bias).2=false∧(Zb (Uev v c.bias).1 c.gain).2=false∧((Zb (Uev v c.bias).1 c.gain).1.list.any (U49 c))=false then ((Zb (Uev v c.bias).1 c.gain).1,true) else (⟨0,0,0⟩,false)):=Qd rfl;have KF:Hid (Uij c→∀W g,Box W g 24 (Zb (Uev v c.bias).1 c.gain).1.cells→Calls prog 71 #[.slice (some ⟨g,0,none⟩) 3 3,.func (.func 155) #[.agg c.cells] #[]] W (Ub (.bool ((Zb (Uev v c.bias).1 c.gain).1.list.any (U49 c))) W)) :=
  Qd (fun hs W g H=>Uy8 c.cells (Zb (Uev v c.bias).1 c.gain).1.list (U49 c) W rfl (by omega) H.lt (Usi H) (fun x w'=>U2t ⟨hs.2.2.2.2,(U7r hs.2.2.2.1).2⟩ x w'))
 generalize Zb (Uev v c.bias).1 c.gain=r at *;generalize Uev v c.bias=d at *;obtain⟨⟨d0,d1,d2⟩,db⟩:=d;obtain⟨⟨r0,r1,r2⟩,rb⟩:=r;generalize hff:(V3.mk r0 r1 r2).list.any (U49 c)=ff at *;clear hff;rw[F.out];clear F;obtain⟨sn,hsn⟩:∃b,decide (Uij c)=b:=⟨_,rfl⟩
 have E:Hid ((if Uij c∧db=false∧rb=false∧ff=false then ((⟨r0,r1,r2⟩:V3),true) else (⟨0,0,0⟩,false))=if sn=true∧db=false∧rb=false∧ff=false then ((⟨r0,r1,r2⟩:V3),true) else (⟨0,0,0⟩,false)):=Qd (by
  have:Uij c↔sn=true:=by rw[←hsn];simp
  by_cases h:Uij c
  ·have h2:sn=true:=this.1 h;simp only[h,h2]
  ·have h2:¬sn=true:=fun e=>h (this.2 e)
   rw[if_neg (fun e=>h e.1),if_neg (fun e=>h2 e.1)])
 have KF2:Hid (sn=true→_):=Qd (fun h=>KF.out (by rw[←hsn] at h;exact of_decide_eq_true h));rw[hsn] at KS;dsimp only at E ⊢;rw[E.out];clear E KF hsn;obtain⟨⟨b0,b1,b2⟩,gn,mx⟩:=c;obtain⟨v0,v1,v2⟩:=v;dsimp only[U8k,Ul8.cells,v3,V3.cells] at KU KC KS KF2 ⊢;have T0:=Qd (Tri.new w 26 #[.int .i64 b0,.int .i64 b1,.int .i64 b2,.int .i64 gn,.int .i64 mx] 24 #[.int .i64 v0,.int .i64 v1,.int .i64 v2] 24 #[.int .i64 0,.int .i64 0,.int .i64 0]);cases sn
 ·rw[if_neg (by simp)];dsimp only;go_enter func128,ntmps128;go_wp2_with fail;refine(KU.out _).mono ?_;rintro e w1 ⟨rfl,hb⟩;have T1:=Qd ((T0.out.kept hb).alloc (.cells #[.int .i64 d0,.int .i64 d1,.int .i64 d2] 24));clear hb T0 KU;obtain⟨⟨_,_,_,c3,c4⟩,_⟩:=Udl T1.out.1;go_wp2_with fail;refine(KC.out _).mono ?_;rintro e w2 ⟨rfl,hb⟩;have R0:Hid (SeR w #[.int .i64 b0,.int .i64 b1,.int .i64 b2,.int .i64 gn,.int .i64 mx] #[.int .i64 v0,.int .i64 v1,.int .i64 v2] w2.heap.size #[.int .i64 r0,.int .i64 r1,.int .i64 r2] (w2.alloc (.cells #[.int .i64 r0,.int .i64 r1,.int .i64 r2] 24))):=Qd ⟨(T1.out.kept hb).alloc _,Box.new _ _ _,(T1.out.kept hb).1.alloc _⟩;clear hb T1 KC c3 c4;go_upto_region 3 with fail
  refine Uq fun W0 hW0=>?_
  rw[←hW0] at R0;clear hW0;generalize w2.heap.size=g8 at *;have CE:Hid (∀W,Box W w.heap.size 26 #[.int .i64 b0,.int .i64 b1,.int .i64 b2,.int .i64 gn,.int .i64 mx]→W.cell? ⟨w.heap.size,0,none⟩=some (.int .i64 b0)∧W.cell? ⟨w.heap.size,1,none⟩=some (.int .i64 b1)∧W.cell? ⟨w.heap.size,2,none⟩=some (.int .i64 b2)∧W.cell? ⟨w.heap.size,3,none⟩=some (.int .i64 gn)∧W.cell? ⟨w.heap.size,4,none⟩=some (.int .i64 mx)) :=
   Qd (fun W H=>⟨H.cell 0,H.cell 1,H.cell 2,H.cell 3,H.cell 4⟩)
  have R0d:=Qd R0.out.drew;refine Xm (S:=fun w'=>w'.cell? ⟨w.heap.size,0,none⟩=some (.int .i64 b0)∧w'.cell? ⟨w.heap.size,1,none⟩=some (.int .i64 b1)∧w'.cell? ⟨w.heap.size,2,none⟩=some (.int .i64 b2)∧w'.cell? ⟨w.heap.size,3,none⟩=some (.int .i64 gn)∧w'.cell? ⟨w.heap.size,4,none⟩=some (.int .i64 mx)) (by kernel_rfl) (CE.out _ R0d.out.cal) (fun hHeld=>?_);refine Qe 0 (.agg #[.int .i64 b0,.int .i64 b1,.int .i64 b2,.int .i64 gn,.int .i64 mx]) (fun w hw=>?_) ?_
  ·obtain⟨k0,k1,k2,k3,k4⟩:=hw;go_simp
  simp only[Qz];refine Qc 1 fun KQ hKQ=>?_
  go_simp;refine(KS.out _).mono ?_;rintro e w3 ⟨rfl,hb⟩;have R1:=Qd (R0d.out.kept hb);refine hKQ.out _ _ (CE.out _ R1.out.cal) (fun hHeld=>?_);clear hKQ KQ hb;refine Qn 2 (.bool true) ?_;refine Qn 3 (.bool true) ?_;refine Qm 4 ?_;refine Qn 5 (.bool true) ?_;refine Qn 6 (.bool true) ?_;refine Qm 7 ?_;refine Qn 8 (.bool true) ?_;refine Qn 9 (.bool true) ?_;refine Qm 10 ?_;refine Qm 11 ?_;refine Qm 12 ?_;refine Qm 13 ?_;refine Qn 14 (.bool true) ?_;refine Xl (by kernel_rfl) ?_ _;clear hHeld;clear CE;obtain⟨m0,m1,m2,m3,m4,m5⟩:=Ubz R1.out.tri.2.2.1;go_wp2_with fail;exact Xk (Ud results128 _ _ (w.heap.size+1+1) 24 _ (0,0) _ rfl (set3 R1.out.tri.2.2.1 _ _ _) underlying24 rfl Za) rfl ⟨by simp,Yd R1.out.tri.2.2.2 (show _≤w.heap.size+1+1 by omega) _ _ _⟩
 ·have KF3:=Qd (KF2.out rfl);clear KF2;cases db
  ·cases rb
   ·cases ff;rotate_right
    focus
     rw[if_neg (by simp)]
    rotate_right
    focus
     rw[if_pos (by simp)]
    all_goals
     dsimp only;go_enter func128,ntmps128;go_wp2_with fail;refine(KU.out _).mono ?_;rintro e w1 ⟨rfl,hb⟩;have T1:=Qd ((T0.out.kept hb).alloc (.cells #[.int .i64 d0,.int .i64 d1,.int .i64 d2] 24));clear hb T0 KU;obtain⟨⟨_,_,_,c3,c4⟩,_⟩:=Udl T1.out.1;go_wp2_with fail;refine(KC.out _).mono ?_;rintro e w2 ⟨rfl,hb⟩;have R0:Hid (SeR w #[.int .i64 b0,.int .i64 b1,.int .i64 b2,.int .i64 gn,.int .i64 mx] #[.int .i64 v0,.int .i64 v1,.int .i64 v2] w2.heap.size #[.int .i64 r0,.int .i64 r1,.int .i64 r2] (w2.alloc (.cells #[.int .i64 r0,.int .i64 r1,.int .i64 r2] 24))):=Qd ⟨(T1.out.kept hb).alloc _,Box.new _ _ _,(T1.out.kept hb).1.alloc _⟩;clear hb T1 KC c3 c4;go_upto_region 3 with fail
     refine Uq fun W0 hW0=>?_
     rw[←hW0] at R0;clear hW0;generalize w2.heap.size=g8 at *;have CE:Hid (∀W,Box W w.heap.size 26 #[.int .i64 b0,.int .i64 b1,.int .i64 b2,.int .i64 gn,.int .i64 mx]→W.cell? ⟨w.heap.size,0,none⟩=some (.int .i64 b0)∧W.cell? ⟨w.heap.size,1,none⟩=some (.int .i64 b1)∧W.cell? ⟨w.heap.size,2,none⟩=some (.int .i64 b2)∧W.cell? ⟨w.heap.size,3,none⟩=some (.int .i64 gn)∧W.cell? ⟨w.heap.size,4,none⟩=some (.int .i64 mx)) :=
      Qd (fun W H=>⟨H.cell 0,H.cell 1,H.cell 2,H.cell 3,H.cell 4⟩)
     have R0d:=Qd R0.out.drew;refine Xm (S:=fun w'=>w'.cell? ⟨w.heap.size,0,none⟩=some (.int .i64 b0)∧w'.cell? ⟨w.heap.size,1,none⟩=some (.int .i64 b1)∧w'.cell? ⟨w.heap.size,2,none⟩=some (.int .i64 b2)∧w'.cell? ⟨w.heap.size,3,none⟩=some (.int .i64 gn)∧w'.cell? ⟨w.heap.size,4,none⟩=some (.int .i64 mx)) (by kernel_rfl) (CE.out _ R0d.out.cal) (fun hHeld=>?_);refine Qe 0 (.agg #[.int .i64 b0,.int .i64 b1,.int .i64 b2,.int .i64 gn,.int .i64 mx]) (fun w hw=>?_) ?_
     ·obtain⟨k0,k1,k2,k3,k4⟩:=hw;go_simp
     simp only[Qz];refine Qc 1 fun KQ hKQ=>?_
     go_simp;refine(KS.out _).mono ?_;rintro e w3 ⟨rfl,hb⟩;have R1:=Qd (R0d.out.kept hb);refine hKQ.out _ _ (CE.out _ R1.out.cal) (fun hHeld=>?_);clear hKQ KQ hb;refine Qn 2 (.bool false) ?_;refine Qn 3 (.bool false) ?_;refine Qn 4 (.bool false) ?_;refine Qn 5 (.bool false) ?_;refine Qn 6 (.bool false) ?_;refine Qn 7 (.bool false) ?_;refine Qn 8 (.bool false) ?_;refine Qn 9 (.bool false) ?_;refine Qn 10 (.slice (some ⟨g8,0,none⟩) 3 3) ?_;refine Qe 11 (.agg #[.int .i64 b0,.int .i64 b1,.int .i64 b2,.int .i64 gn,.int .i64 mx]) (fun w hw=>?_) ?_
     ·obtain⟨k0,k1,k2,k3,k4⟩:=hw;go_simp
     simp only[Qz];refine Qn 12 (.func (.func 155) #[.agg #[.int .i64 b0,.int .i64 b1,.int .i64 b2,.int .i64 gn,.int .i64 mx]] #[]) ?_;refine Qc 13 fun KQ hKQ=>?_
     go_simp;refine(KF3.out _ _ R1.out.row).mono ?_;rintro e w4 ⟨rfl,hb⟩;have R2:=Qd (R1.out.kept hb);refine hKQ.out _ _ (CE.out _ R2.out.cal) (fun hHeld=>?_);clear hKQ KQ hb
    rotate_right
    focus
     refine Qn 14 (.bool true) ?_;refine Xl (by kernel_rfl) ?_ _;clear hHeld;clear CE
    rotate_right
    focus
     refine Qn 14 (.bool false) ?_;refine Xl (by kernel_rfl) ?_ _;clear hHeld;clear CE;obtain⟨n0,n1,n2,_,_,_⟩:=Ubz R2.out.row
    all_goals
     obtain⟨m0,m1,m2,m3,m4,m5⟩:=Ubz R2.out.tri.2.2.1;go_wp2_with fail;exact Xk (Ud results128 _ _ (w.heap.size+1+1) 24 _ (0,0) _ rfl (set3 R2.out.tri.2.2.1 _ _ _) underlying24 rfl Za) rfl ⟨by simp,Yd R2.out.tri.2.2.2 (show _≤w.heap.size+1+1 by omega) _ _ _⟩
   ·rw[if_neg (by simp)];dsimp only;go_enter func128,ntmps128;go_wp2_with fail;refine(KU.out _).mono ?_;rintro e w1 ⟨rfl,hb⟩;have T1:=Qd ((T0.out.kept hb).alloc (.cells #[.int .i64 d0,.int .i64 d1,.int .i64 d2] 24));clear hb T0 KU;obtain⟨⟨_,_,_,c3,c4⟩,_⟩:=Udl T1.out.1;go_wp2_with fail;refine(KC.out _).mono ?_;rintro e w2 ⟨rfl,hb⟩;have R0:Hid (SeR w #[.int .i64 b0,.int .i64 b1,.int .i64 b2,.int .i64 gn,.int .i64 mx] #[.int .i64 v0,.int .i64 v1,.int .i64 v2] w2.heap.size #[.int .i64 r0,.int .i64 r1,.int .i64 r2] (w2.alloc (.cells #[.int .i64 r0,.int .i64 r1,.int .i64 r2] 24))):=Qd ⟨(T1.out.kept hb).alloc _,Box.new _ _ _,(T1.out.kept hb).1.alloc _⟩;clear hb T1 KC c3 c4;go_upto_region 3 with fail
    refine Uq fun W0 hW0=>?_
    rw[←hW0] at R0;clear hW0;generalize w2.heap.size=g8 at *;have CE:Hid (∀W,Box W w.heap.size 26 #[.int .i64 b0,.int .i64 b1,.int .i64 b2,.int .i64 gn,.int .i64 mx]→W.cell? ⟨w.heap.size,0,none⟩=some (.int .i64 b0)∧W.cell? ⟨w.heap.size,1,none⟩=some (.int .i64 b1)∧W.cell? ⟨w.heap.size,2,none⟩=some (.int .i64 b2)∧W.cell? ⟨w.heap.size,3,none⟩=some (.int .i64 gn)∧W.cell? ⟨w.heap.size,4,none⟩=some (.int .i64 mx)) :=
     Qd (fun W H=>⟨H.cell 0,H.cell 1,H.cell 2,H.cell 3,H.cell 4⟩)
    have R0d:=Qd R0.out.drew;refine Xm (S:=fun w'=>w'.cell? ⟨w.heap.size,0,none⟩=some (.int .i64 b0)∧w'.cell? ⟨w.heap.size,1,none⟩=some (.int .i64 b1)∧w'.cell? ⟨w.heap.size,2,none⟩=some (.int .i64 b2)∧w'.cell? ⟨w.heap.size,3,none⟩=some (.int .i64 gn)∧w'.cell? ⟨w.heap.size,4,none⟩=some (.int .i64 mx)) (by kernel_rfl) (CE.out _ R0d.out.cal) (fun hHeld=>?_);refine Qe 0 (.agg #[.int .i64 b0,.int .i64 b1,.int .i64 b2,.int .i64 gn,.int .i64 mx]) (fun w hw=>?_) ?_
    ·obtain⟨k0,k1,k2,k3,k4⟩:=hw;go_simp
    simp only[Qz];refine Qc 1 fun KQ hKQ=>?_
    go_simp;refine(KS.out _).mono ?_;rintro e w3 ⟨rfl,hb⟩;have R1:=Qd (R0d.out.kept hb);refine hKQ.out _ _ (CE.out _ R1.out.cal) (fun hHeld=>?_);clear hKQ KQ hb;refine Qn 2 (.bool false) ?_;refine Qn 3 (.bool false) ?_;refine Qn 4 (.bool false) ?_;refine Qn 5 (.bool false) ?_;refine Qn 6 (.bool false) ?_;refine Qn 7 (.bool true) ?_;refine Qn 8 (.bool true) ?_;refine Qn 9 (.bool true) ?_;refine Qm 10 ?_;refine Qm 11 ?_;refine Qm 12 ?_;refine Qm 13 ?_;refine Qn 14 (.bool true) ?_;refine Xl (by kernel_rfl) ?_ _;clear hHeld;clear CE;obtain⟨m0,m1,m2,m3,m4,m5⟩:=Ubz R1.out.tri.2.2.1;go_wp2_with fail;exact Xk (Ud results128 _ _ (w.heap.size+1+1) 24 _ (0,0) _ rfl (set3 R1.out.tri.2.2.1 _ _ _) underlying24 rfl Za) rfl ⟨by simp,Yd R1.out.tri.2.2.2 (show _≤w.heap.size+1+1 by omega) _ _ _⟩
  ·rw[if_neg (by simp)];dsimp only;go_enter func128,ntmps128;go_wp2_with fail;refine(KU.out _).mono ?_;rintro e w1 ⟨rfl,hb⟩;have T1:=Qd ((T0.out.kept hb).alloc (.cells #[.int .i64 d0,.int .i64 d1,.int .i64 d2] 24));clear hb T0 KU;obtain⟨⟨_,_,_,c3,c4⟩,_⟩:=Udl T1.out.1;go_wp2_with fail;refine(KC.out _).mono ?_;rintro e w2 ⟨rfl,hb⟩;have R0:Hid (SeR w #[.int .i64 b0,.int .i64 b1,.int .i64 b2,.int .i64 gn,.int .i64 mx] #[.int .i64 v0,.int .i64 v1,.int .i64 v2] w2.heap.size #[.int .i64 r0,.int .i64 r1,.int .i64 r2] (w2.alloc (.cells #[.int .i64 r0,.int .i64 r1,.int .i64 r2] 24))):=Qd ⟨(T1.out.kept hb).alloc _,Box.new _ _ _,(T1.out.kept hb).1.alloc _⟩;clear hb T1 KC c3 c4;go_upto_region 3 with fail
   refine Uq fun W0 hW0=>?_
   rw[←hW0] at R0;clear hW0;generalize w2.heap.size=g8 at *;have CE:Hid (∀W,Box W w.heap.size 26 #[.int .i64 b0,.int .i64 b1,.int .i64 b2,.int .i64 gn,.int .i64 mx]→W.cell? ⟨w.heap.size,0,none⟩=some (.int .i64 b0)∧W.cell? ⟨w.heap.size,1,none⟩=some (.int .i64 b1)∧W.cell? ⟨w.heap.size,2,none⟩=some (.int .i64 b2)∧W.cell? ⟨w.heap.size,3,none⟩=some (.int .i64 gn)∧W.cell? ⟨w.heap.size,4,none⟩=some (.int .i64 mx)) :=
    Qd (fun W H=>⟨H.cell 0,H.cell 1,H.cell 2,H.cell 3,H.cell 4⟩)
   have R0d:=Qd R0.out.drew;refine Xm (S:=fun w'=>w'.cell? ⟨w.heap.size,0,none⟩=some (.int .i64 b0)∧w'.cell? ⟨w.heap.size,1,none⟩=some (.int .i64 b1)∧w'.cell? ⟨w.heap.size,2,none⟩=some (.int .i64 b2)∧w'.cell? ⟨w.heap.size,3,none⟩=some (.int .i64 gn)∧w'.cell? ⟨w.heap.size,4,none⟩=some (.int .i64 mx)) (by kernel_rfl) (CE.out _ R0d.out.cal) (fun hHeld=>?_);refine Qe 0 (.agg #[.int .i64 b0,.int .i64 b1,.int .i64 b2,.int .i64 gn,.int .i64 mx]) (fun w hw=>?_) ?_
   ·obtain⟨k0,k1,k2,k3,k4⟩:=hw;go_simp
   simp only[Qz];refine Qc 1 fun KQ hKQ=>?_
   go_simp;refine(KS.out _).mono ?_;rintro e w3 ⟨rfl,hb⟩;have R1:=Qd (R0d.out.kept hb);refine hKQ.out _ _ (CE.out _ R1.out.cal) (fun hHeld=>?_);clear hKQ KQ hb;refine Qn 2 (.bool false) ?_;refine Qn 3 (.bool false) ?_;refine Qn 4 (.bool true) ?_;refine Qn 5 (.bool true) ?_;refine Qn 6 (.bool true) ?_;refine Qm 7 ?_;refine Qn 8 (.bool true) ?_;refine Qn 9 (.bool true) ?_;refine Qm 10 ?_;refine Qm 11 ?_;refine Qm 12 ?_;refine Qm 13 ?_;refine Qn 14 (.bool true) ?_;refine Xl (by kernel_rfl) ?_ _;clear hHeld;clear CE;obtain⟨m0,m1,m2,m3,m4,m5⟩:=Ubz R1.out.tri.2.2.1;go_wp2_with fail;exact Xk (Ud results128 _ _ (w.heap.size+1+1) 24 _ (0,0) _ rfl (set3 R1.out.tri.2.2.1 _ _ _) underlying24 rfl Za) rfl ⟨by simp,Yd R1.out.tri.2.2.2 (show _≤w.heap.size+1+1 by omega) _ _ _⟩
structure Mrg where
 mark:Int
 some:Bool
 last:Smp
 q:List (List Smp)
 n:List Int
 taken:Int
deriving DecidableEq
theorem Ube (a b:Smp):Uaa a b=true↔a.t<b.t∨(a.t=b.t∧a.s<b.s):=by
 unfold Uaa orI Lib.compareInt;simp only[decide_eq_true_eq];split<;>(split<;>(try split)<;>(try split)<;>omega)
def Ubu (m:Mrg)(s:Smp):Bool := !m.some||Uaa m.last s
def U5u (m:Mrg)(k:Nat):Prop:=(m.q.getD k []).length≤16∧∀i s,(m.q.getD k [])[i]? = Option.some s→Ubg s∧s.s=(k:Int)∧Ubu m s=true∧(∀p,0<i→(m.q.getD k [])[i-1]? = Option.some p→p.t<s.t)
def Zh (m:Mrg):Nat:=(m.q.getD 0 []).length+(m.q.getD 1 []).length+(m.q.getD 2 []).length+(m.q.getD 3 []).length
structure Uaz (m:Mrg):Prop where
 ql:m.q.length=4
 nl:m.n.length=7
 row:∀k,k<4→U5u m k
 cnt:∀j,j<7→Ua0 (m.n.getD j 0)
 mark:Ua0 m.mark
 taken:Ua0 m.taken
 last:if m.some=true then Ubg m.last else m.last=Ujx
 left:m.n.getD 0 0=m.taken+(Zh m:Int)
def Ulr:Mrg:=⟨0,false,Ujx,[[],[],[],[]],[0,0,0,0,0,0,0],0⟩
theorem Uls:Uaz Ulr:=by
 refine⟨rfl,rfl,fun k hk=>⟨?_,fun i s h=>?_⟩,fun j hj=>?_,by decide,by decide,by decide,by decide⟩
 ·rcases (show k=0∨k=1∨k=2∨k=3 by omega) with rfl|rfl|rfl|rfl<;>decide
 ·rcases (show k=0∨k=1∨k=2∨k=3 by omega) with rfl|rfl|rfl|rfl<;>simp[Ulr] at h
 ·rcases (show j=0∨j=1∨j=2∨j=3∨j=4∨j=5∨j=6 by omega) with rfl|rfl|rfl|rfl|rfl|rfl|rfl<;>decide
def Uqm (m:Mrg)(k:Nat)(s:Smp):Bool := !Ubu m s||(decide (0<(m.q.getD k []).length)&&decide (s.t≤((m.q.getD k []).getD ((m.q.getD k []).length-1) Ujx).t))
def Uab (m:Mrg)(k:Nat)(ws:List Int):Smp×Nat :=
 if (Zd ws).2≠0 then ((Zd ws).1,(Zd ws).2.toNat) else if (Zd ws).1.s≠(k:Int) then ((Zd ws).1,1) else
  if Uqm m k (Zd ws).1=true then ((Zd ws).1,3) else if (m.q.getD k []).length=16 then ((Zd ws).1,4) else ((Zd ws).1,0)
theorem Uip (ws:List Int):(Zd ws).2=0∨(Zd ws).2=1∨(Zd ws).2=2∨(Zd ws).2=5:=by
 unfold Zd;split
 ·simp
 ·split
  ·simp
  ·split<;>simp
theorem Und {ws:List Int}(h:(Zd ws).2=0):Ubg (Zd ws).1:=by
 unfold Zd at *;split at h
 ·cases h
 ·rename_i h1;split at h
  ·cases h
  ·rename_i h2;split at h
   ·rename_i h3;rw[if_neg h1,if_neg h2,if_pos h3];exact h3
   ·cases h
theorem Ult (m:Mrg)(k:Nat)(ws:List Int):(Uab m k ws).2<6:=by
 have:=Uip ws;unfold Uab;split
 ·simp only;omega
 ·split
  ·simp
  ·split
   ·simp
   ·split<;>simp
theorem Uqn {m:Mrg}{k:Nat}{ws:List Int}(h:(Uab m k ws).2=0):(Zd ws).2=0∧(Uab m k ws).1=(Zd ws).1∧(Zd ws).1.s=(k:Int)∧Uqm m k (Zd ws).1=false∧(m.q.getD k []).length≠16:=by
 have hc:=Uip ws;unfold Uab at *;split at h
 ·simp only at h;omega
 ·rename_i h1;split at h
  ·cases h
  ·rename_i h2;split at h
   ·cases h
   ·rename_i h3;split at h
    ·cases h
    ·rename_i h4;rw[if_neg h1,if_neg h2,if_neg h3,if_neg h4];exact⟨by simpa using h1,rfl,by simpa using h2,by simpa using h3,h4⟩
def Zo (m:Mrg)(e:Nat):Mrg:={ m with n:=m.n.set e (m.n.getD e 0+1) }
def Uiq (m:Mrg)(k:Nat)(ws:List Int):Mrg×Nat :=
 if m.n.getD (Uab m k ws).2 0=1099511627776 then (m,4) else
  if (Uab m k ws).2=0 then ({ Zo m 0 with q:=m.q.set k (m.q.getD k []++[(Uab m k ws).1]) },0) else (Zo m (Uab m k ws).2,(Uab m k ws).2)
theorem Zc {α:Type}{l:List α}{i:Nat}{a d:α}(h:i<l.length):(l.set i a).getD i d=a:=by simp[h]
theorem Zp {α:Type}{l:List α}{i j:Nat}{a d:α}(h:i≠j):(l.set i a).getD j d=l.getD j d:=by simp[h]
theorem Uov {m:Mrg}{k:Nat}{l:List Smp}(hq:m.q.length=4)(hk:k<4):(Zh { m with q:=m.q.set k l }:Int)=Zh m-(m.q.getD k []).length+l.length:=by
 obtain⟨mark,sm,last,q,n,tk⟩:=m;dsimp only at hq
 match q,hq with
 | [a,b,c,d],_ =>
  rcases (show k=0∨k=1∨k=2∨k=3 by omega) with rfl|rfl|rfl|rfl<;>simp[Zh]<;>omega
theorem Uzv {m:Mrg}(h:Uaz m){e:Nat}(h0:e≠0)(h6:e<6)(hn:m.n.getD e 0≠1099511627776):Uaz (Zo m e):=by
 have hc:=h.cnt e (by omega);refine⟨h.ql,by simp[Zo,h.nl],h.row,fun j hj=>?_,h.mark,h.taken,h.last,?_⟩
 ·unfold Zo;dsimp only;by_cases hj2:e=j
  ·subst hj2;rw[Zc (by rw[h.nl];omega)];unfold Ua0 at *;omega
  ·rw[Zp hj2];exact h.cnt j hj
 ·unfold Zo;dsimp only;rw[Zp h0];exact h.left
theorem Uwg {m:Mrg}{k:Nat}{s:Smp}(h:Uqm m k s=false):Ubu m s=true∧(∀p,0<(m.q.getD k []).length→(m.q.getD k [])[(m.q.getD k []).length-1]? = Option.some p→p.t<s.t):=by
 unfold Uqm at h;simp only[Bool.or_eq_false_iff,Bool.not_eq_false',Bool.and_eq_false_iff,decide_eq_false_iff_not] at h;refine⟨h.1,fun p hp hg=>?_⟩;rcases h.2 with h2|h2
 ·exact absurd hp h2
 ·rw[List.getD_eq_getElem?_getD,hg] at h2;simp only[Option.getD_some] at h2;omega
theorem Uow {m:Mrg}(h:Uaz m){k:Nat}(hk:k<4)(ws:List Int):Uaz (Uiq m k ws).1:=by
 unfold Uiq;by_cases hn:m.n.getD (Uab m k ws).2 0=1099511627776
 ·rw[if_pos hn];exact h
 ·rw[if_neg hn];by_cases he:(Uab m k ws).2=0
  ·rw[if_pos he];obtain⟨h1,h2,h3,h4,h5⟩:=Uqn he;rw[he] at hn;obtain⟨hb,hl⟩:=Uwg h4;have hs:=Und h1;rw[h2];have hc:=h.cnt 0 (by omega);refine⟨by simp[h.ql],by simp[Zo,h.nl],fun j hj=>?_,fun j hj=>?_,h.mark,h.taken,h.last,?_⟩
   ·by_cases hjk:k=j
    ·subst hjk;unfold U5u Ubu Zo;dsimp only;rw[Zc (by rw[h.ql];omega)];have hr:=h.row k hk;refine⟨by have:=hr.1;rw[List.length_append];simp only[List.length_cons,List.length_nil];omega,fun i s hi=>?_⟩;by_cases hil:i<(m.q.getD k []).length
     ·rw[List.getElem?_append_left hil] at hi;obtain⟨a,b,c,d⟩:=hr.2 i s hi;exact⟨a,b,c,fun p hp hg=>d p hp (by rwa [List.getElem?_append_left (by omega)] at hg)⟩
     ·have hi2:i=(m.q.getD k []).length:=by
       have:=(List.getElem?_eq_some_iff.1 hi).1;simp at this;simp at hil;simp;omega
      subst hi2;rw[List.getElem?_append_right (Xa _),Nat.sub_self] at hi;simp only[List.getElem?_cons_zero,Option.some.injEq] at hi;subst hi;exact⟨hs,h3,hb,fun p hp hg=>hl p hp (by rwa [List.getElem?_append_left (by omega)] at hg)⟩
    ·have hr:=h.row j hj;unfold U5u Ubu Zo at *;dsimp only at *;rw[Zp hjk];exact hr
   ·unfold Zo;dsimp only;by_cases hj2:0=j
    ·subst hj2;rw[Zc (by rw[h.nl];omega)];unfold Ua0 at *;omega
    ·rw[Zp hj2];exact h.cnt j hj
   ·have e1:=Uov (m:=Zo m 0) (k:=k) (l:=m.q.getD k []++[(Zd ws).1]) h.ql hk;have e2:Zh (Zo m 0)=Zh m:=rfl;have e3:(Zo m 0).q=m.q:=rfl;rw[e2,e3] at e1;have e4:({ Zo m 0 with q:=m.q.set k (m.q.getD k []++[(Zd ws).1]) }:Mrg).n.getD 0 0=m.n.getD 0 0+1:=by
     unfold Zo;dsimp only;rw[Zc (by rw[h.nl];omega)]
    have e5:=h.left;have e6:({ Zo m 0 with q:=m.q.set k (m.q.getD k []++[(Zd ws).1]) }:Mrg).taken=m.taken:=rfl;rw[e4,e6,e1,List.length_append];simp only[List.length_cons,List.length_nil];omega
  ·rw[if_neg he];exact Uzv h he (Ult m k ws) hn
def Ugl (m:Mrg)(t:Int):Mrg:={ m with mark:=max m.mark t }
theorem Ue1 {m:Mrg}(h:Uaz m){t:Int}(ht:t≤1099511627776):Uaz (Ugl m t):=by
 refine⟨h.ql,h.nl,h.row,h.cnt,?_,h.taken,h.last,h.left⟩;have:=h.mark;unfold Ua0 at *;show 0≤max m.mark t∧max m.mark t≤1099511627776;omega
def Yl (l:List Smp):Smp:=l.headD Ujx
def Zx (q:List (List Smp)):Nat→Int×Bool
 | 0=>(-1,true)
 | k+1=>if (q.getD k []).length=0 then ((Zx q k).1,false) else
   if (Zx q k).1<0∨Uaa (Yl (q.getD k [])) (Yl (q.getD (Zx q k).1.toNat []))=true then ((k:Int),(Zx q k).2) else Zx q k
def Uc7 (m:Mrg):Prop:=(Zx m.q 4).1<0∨((Zx m.q 4).2=false∧m.mark<(Yl (m.q.getD (Zx m.q 4).1.toNat [])).t)
instance (m:Mrg):Decidable (Uc7 m):=by unfold Uc7;exact inferInstance
def Ubs (m:Mrg):Nat:=(Zx m.q 4).1.toNat
def Uc8 (m:Mrg)(f:Nat):Mrg:={ m with last:=Yl (m.q.getD f []),some:=true,q:=m.q.set f ((m.q.getD f []).drop 1),taken:=m.taken+1 }
theorem Udt (q:List (List Smp)):∀k,((Zx q k).1<0∧(Zx q k).1 = -1∧∀j,j<k→(q.getD j []).length=0) ∨
  (∃f:Nat,(Zx q k).1=(f:Int)∧f<k∧(q.getD f []).length≠0∧∀j,j<k→(q.getD j []).length≠0→j≠f→Uaa (Yl (q.getD j [])) (Yl (q.getD f []))=false∨(Uaa (Yl (q.getD f [])) (Yl (q.getD j []))=true)):=by
 intro k
 induction k with
 | zero=>exact Or.inl ⟨by simp[Zx],rfl,fun j hj=>absurd hj (by omega)⟩
 | succ k ih =>
  unfold Zx;by_cases h0:(q.getD k []).length=0
  ·rw[if_pos h0];rcases ih with ⟨a,b,c⟩|⟨f,a,b,c,d⟩
   ·refine Or.inl ⟨a,b,fun j hj=>?_⟩;by_cases hjk:j=k
    ·rw[hjk];exact h0
    ·exact c j (by omega)
   ·refine Or.inr ⟨f,a,by omega,c,fun j hj hl hne=>?_⟩;by_cases hjk:j=k
    ·rw[hjk] at hl;exact absurd h0 hl
    ·exact d j (by omega) hl hne
  ·rw[if_neg h0];rcases ih with ⟨a,b,c⟩|⟨f,a,b,c,d⟩
   ·rw[if_pos (Or.inl a)];refine Or.inr ⟨k,rfl,by omega,h0,fun j hj hl hne=>absurd (c j (by omega)) hl⟩
   ·have et:(Zx q k).1.toNat=f:=by rw[a];rfl
    rw[et];by_cases hb:Uaa (Yl (q.getD k [])) (Yl (q.getD f []))=true
    ·rw[if_pos (Or.inr hb)];refine Or.inr ⟨k,rfl,by omega,h0,fun j hj hl hne=>?_⟩;by_cases hjf:j=f
     ·right;rw[hjf];exact hb
     ·have hdj:=d j (by omega) hl hjf
      left
      cases hbj:Uaa (Yl (q.getD j [])) (Yl (q.getD k [])) with
      | false=>rfl
      | true =>
       exfalso
       rw[Ube] at hb hbj;rcases hdj with h1|h1
       ·have:¬Uaa (Yl (q.getD j [])) (Yl (q.getD f []))=true:=by rw[h1];decide
        rw[Ube] at this;omega
       ·rw[Ube] at h1;omega
    ·rw[if_neg (by intro h;rcases h with h|h;(· omega);exact hb h)];refine Or.inr ⟨f,a,by omega,c,fun j hj hl hne=>?_⟩;by_cases hjk:j=k
     ·left;rw[hjk];simpa using hb
     ·exact d j (by omega) hl hne
theorem Us2 {q:List (List Smp)}(h:¬(Zx q 4).1<0):(Zx q 4).1.toNat<4∧(Zx q 4).1=((Zx q 4).1.toNat:Int)∧(q.getD (Zx q 4).1.toNat []).length≠0:=by
 rcases Udt q 4 with ⟨a,_,_⟩|⟨f,a,b,c,_⟩
 ·exact absurd a h
 ·rw[a];exact⟨by simpa using b,by simp,by simpa using c⟩
theorem Uox {l:List Smp}(h:l.length≠0):l[0]? = Option.some (Yl l):=by
 cases l with
 | nil=>exact absurd rfl h
 | cons a l=>rfl
theorem Uqo {m:Mrg}{k:Nat}(h:U5u m k):∀(i j:Nat) (a b:Smp),i<j→(m.q.getD k [])[i]? = Option.some a→(m.q.getD k [])[j]? = Option.some b→a.t<b.t:=by
 intro i j
 induction j with
 | zero=>intro a b hij;omega
 | succ j ih =>
  intro a b hij ha hb;have hj:j<(m.q.getD k []).length:=by have:=(List.getElem?_eq_some_iff.1 hb).1;omega
  have hgj:(m.q.getD k [])[j]? = Option.some ((m.q.getD k [])[j]):=Xj hj;have h1:=(h.2 (j+1) b hb).2.2.2 _ (by omega) hgj;by_cases hij2:i=j
  ·subst hij2;rw[hgj] at ha;cases ha;exact h1
  ·have:=ih a _ (by omega) ha hgj;omega
theorem Ulu {m:Mrg}(h:Uaz m)(hs:¬Uc7 m):Uaz (Uc8 m (Ubs m)):=by
 have hp:¬(Zx m.q 4).1<0:=fun hh=>hs (Or.inl hh)
 obtain⟨hf4,hfe,hfl⟩:=Us2 hp;unfold Ubs;have hspec:=Udt m.q 4;generalize hff:(Zx m.q 4).1.toNat=f at *;obtain⟨_,_,_,hmin⟩:∃f':Nat,(Zx m.q 4).1=(f':Int)∧f'=f∧∀j,j<4→(m.q.getD j []).length≠0→j≠f→Uaa (Yl (m.q.getD j [])) (Yl (m.q.getD f []))=false∨(Uaa (Yl (m.q.getD f [])) (Yl (m.q.getD j []))=true):=by
  rcases hspec with ⟨a,_,_⟩|⟨f',a,_,_,d⟩
  ·exact absurd a hp
  ·have:f'=f:=by rw[a] at hff;simpa using hff
   subst this;exact⟨f',a,rfl,d⟩
 have hhead:=Uox hfl;have hrf:=h.row f hf4;obtain⟨hhs,hhk,hhb,_⟩:=hrf.2 0 _ hhead;have hlen:((m.q.getD f []).drop 1).length=(m.q.getD f []).length-1:=by simp
 have hleft:=Uov (m:=m) (k:=f) (l:=(m.q.getD f []).drop 1) h.ql hf4;have hlm:=h.left;have hc0:=h.cnt 0 (by omega);have hlt:(m.q.getD f []).length≤Zh m:=by
  unfold Zh;rcases (show f=0∨f=1∨f=2∨f=3 by omega) with rfl|rfl|rfl|rfl<;>omega
 refine⟨by simp[Uc8,h.ql],h.nl,fun j hj=>?_,h.cnt,h.mark,?_,?_,?_⟩
 ·unfold U5u Ubu Uc8;dsimp only;simp only[Bool.not_true,Bool.false_or];have hrj:=h.row j hj;by_cases hjf:f=j
  ·subst hjf;rw[Zc (by rw[h.ql];omega)];refine⟨by have:=hrj.1;rw[List.length_drop];omega,fun i s hi=>?_⟩;rw[List.getElem?_drop] at hi;obtain⟨a,b,c,d⟩:=hrj.2 (1+i) s hi;refine⟨a,b,?_,fun p hp2 hg=>?_⟩
   ·rw[Ube]
    left
    exact Uqo hrj 0 (1+i) _ s (by omega) hhead hi
   ·rw[List.getElem?_drop] at hg;exact d p (by omega) (by rw[show 1+i-1=1+(i-1) by omega];exact hg)
  ·rw[Zp hjf];refine⟨hrj.1,fun i s hi=>?_⟩;obtain⟨a,b,c,d⟩:=hrj.2 i s hi;refine⟨a,b,?_,d⟩;have hjl:(m.q.getD j []).length≠0:=by
    have:=(List.getElem?_eq_some_iff.1 hi).1;omega
   have hjh:=Uox hjl;obtain⟨_,hjk,_,_⟩:=hrj.2 0 _ hjh;have hle:(Yl (m.q.getD j [])).t≤s.t:=by
    by_cases hi0:i=0
    ·subst hi0;rw[hjh] at hi;cases hi;exact Int.le_refl _
    ·have:=Uqo hrj 0 i _ s (by omega) hjh hi;omega
   have hm:=hmin j hj hjl (fun e=>hjf e.symm);rw[Ube];rcases hm with h1|h1
   ·have h2:¬Uaa (Yl (m.q.getD j [])) (Yl (m.q.getD f []))=true:=by rw[h1];decide
    rw[Ube] at h2;have:(Yl (m.q.getD j [])).s≠(Yl (m.q.getD f [])).s:=by rw[hjk,hhk];omega
    have:s.s=(Yl (m.q.getD j [])).s:=by rw[b,hjk]
    omega
   ·rw[Ube] at h1;have:s.s=(Yl (m.q.getD j [])).s:=by rw[b,hjk]
    omega
 ·show Ua0 (m.taken+1);have:=h.taken;unfold Ua0 at *;omega
 ·show if true=true then Ubg (Yl (m.q.getD f [])) else _
  rw[if_pos rfl];exact hhs
 ·show m.n.getD 0 0=m.taken+1+_;have e:(Zh (Uc8 m f):Int)=(Zh { m with q:=m.q.set f ((m.q.getD f []).drop 1) }:Int):=rfl;rw[e,hleft,hlen];omega
def Une:Nat→Mrg→List Smp→Mrg×List Smp
 | 0,m,out=>(m,out)
 | f+1,m,out=>if Uc7 m then (m,out) else Une f (Uc8 m (Ubs m)) (out++[Yl (m.q.getD (Ubs m) [])])
theorem Uoy:∀(f:Nat) (m:Mrg) (out:List Smp),Uaz m→Uaz (Une f m out).1:=by
 intro f
 induction f with
 | zero=>exact fun m out h=>h
 | succ f ih =>
  intro m out h;unfold Une;by_cases hs:Uc7 m
  ·rw[if_pos hs];exact h
  ·rw[if_neg hs];exact ih _ _ (Ulu h hs)
theorem Uqp {m:Mrg}(hq:m.q.length=4)(hs:¬Uc7 m):Zh (Uc8 m (Ubs m))+1=Zh m:=by
 have hp:¬(Zx m.q 4).1<0:=fun hh=>hs (Or.inl hh)
 obtain⟨hf4,hfe,hfl⟩:=Us2 hp;unfold Ubs;generalize (Zx m.q 4).1.toNat=f at *;have hleft:=Uov (m:=m) (k:=f) (l:=(m.q.getD f []).drop 1) hq hf4;have hlen:((m.q.getD f []).drop 1).length=(m.q.getD f []).length-1:=by simp
 have hlt:(m.q.getD f []).length≤Zh m:=by
  unfold Zh;rcases (show f=0∨f=1∨f=2∨f=3 by omega) with rfl|rfl|rfl|rfl<;>omega
 have e:Zh (Uc8 m f)=Zh { m with q:=m.q.set f ((m.q.getD f []).drop 1) }:=rfl;rw[e];omega
theorem Uzw {m:Mrg}(hs:¬Uc7 m):0<Zh m:=by
 have hp:¬(Zx m.q 4).1<0:=fun hh=>hs (Or.inl hh)
 obtain⟨hf4,hfe,hfl⟩:=Us2 hp;unfold Zh;generalize (Zx m.q 4).1.toNat=f at *;rcases (show f=0∨f=1∨f=2∨f=3 by omega) with rfl|rfl|rfl|rfl<;>omega
end Go.Proofs.YtdaflmjfeoacaaaGreat
