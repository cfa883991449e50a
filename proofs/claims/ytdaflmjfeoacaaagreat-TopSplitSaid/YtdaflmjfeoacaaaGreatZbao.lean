/- Part of the proof of TopTry, TopSplit: QuA, QuB, NumZ. Conditions: none. -/
import Derived.Test.YtdaflmjfeoacaaaGreatZban
set_option linter.all false
set_option maxHeartbeats 16000000
set_option maxRecDepth 4000
namespace Go.Proofs.YtdaflmjfeoacaaaGreat
open Tryz
open Go.RowKit
theorem ix4 (a b c d:Int):(∀w,(Instr.index 38 (.agg #[.int .i64 a,.int .i64 b,.int .i64 c,.int .i64 d]) (.int .i64 0)).run prog w = .ok (.int .i64 a) w)∧(∀w,(Instr.index 38 (.agg #[.int .i64 a,.int .i64 b,.int .i64 c,.int .i64 d]) (.int .i64 1)).run prog w = .ok (.int .i64 b) w) ∧
  (∀w,(Instr.index 38 (.agg #[.int .i64 a,.int .i64 b,.int .i64 c,.int .i64 d]) (.int .i64 2)).run prog w = .ok (.int .i64 c) w)∧(∀w,(Instr.index 38 (.agg #[.int .i64 a,.int .i64 b,.int .i64 c,.int .i64 d]) (.int .i64 3)).run prog w = .ok (.int .i64 d) w) :=
 ⟨fun _=>by kernel_rfl,fun _=>by kernel_rfl,fun _=>by kernel_rfl,fun _=>by kernel_rfl⟩
theorem ix3 (a b c:Int):(∀w,(Instr.index 24 (.agg #[.int .i64 a,.int .i64 b,.int .i64 c]) (.int .i64 0)).run prog w = .ok (.int .i64 a) w)∧(∀w,(Instr.index 24 (.agg #[.int .i64 a,.int .i64 b,.int .i64 c]) (.int .i64 1)).run prog w = .ok (.int .i64 b) w) ∧
  (∀w,(Instr.index 24 (.agg #[.int .i64 a,.int .i64 b,.int .i64 c]) (.int .i64 2)).run prog w = .ok (.int .i64 c) w) :=
 ⟨fun _=>by kernel_rfl,fun _=>by kernel_rfl,fun _=>by kernel_rfl⟩
def U1x (w:World)(t:TypeId)(cs:Array Value)(t':TypeId)(cs':Array Value)(g:Nat)(t2:TypeId)(cs2:Array Value)(W:World):Prop:=Duo w t cs t' cs' W∧Box W g t2 cs2∧w.heap.size+1<g
section
variable {w W W':World} {t t' t2:TypeId} {cs cs' cs2:Array Value} {g:Nat}
theorem U1x.new (H:Duo w t cs t' cs' W)(t2:TypeId)(cs2:Array Value):U1x w t cs t' cs' W.heap.size t2 cs2 (W.alloc (.cells cs2 t2)):=⟨H.alloc _,Box.new _ _ _,H.2.1.lt⟩
theorem U1x.kept (H:U1x w t cs t' cs' g t2 cs2 W)(hb:Below W.heap.size W W'):U1x w t cs t' cs' g t2 cs2 W':=⟨H.1.kept hb,H.2.1.kept hb,H.2.2⟩
theorem U1x.set2 (H:U1x w t cs t' cs' g t2 cs2 W)(j:Nat)(v:Value):U1x w t cs t' cs' g t2 (cs2.setIfInBounds j v) (W.setCell ⟨g,j,none⟩ v) :=
 ⟨⟨H.1.1.far (by have:=H.2.2;show w.heap.size≠g;omega) _,H.1.2.1.far (by have:=H.2.2;show w.heap.size+1≠g;omega) _,H.1.2.2.setCell (p:=⟨g,j,none⟩) (show _≤g by have:=H.2.2;omega) v⟩,H.2.1.set_ j v,H.2.2⟩
end
theorem Um5 (a:V4)(w:World):Calls prog 203 #[v4 a] w (Ub (.tuple #[v4 (Ufy a).1,.bool (Ufy a).2]) w):=by
 have KN:=Qd (fun w=>Um4 a w);have K:=Qd (fun x w=>Uk5 x (Zv a).1 w);have KO:=Qd (fun w=>Uk9 w)
 have F:Hid (Ufy a=if (Zv a).1=0 then (U4b,true)
  else (⟨(Y5 a.w (Zv a).1).1,(Y5 a.x (Zv a).1).1,(Y5 a.y (Zv a).1).1,(Y5 a.z (Zv a).1).1⟩,
   ((((Zv a).2||(Y5 a.w (Zv a).1).2)||(Y5 a.x (Zv a).1).2)||(Y5 a.y (Zv a).1).2)||(Y5 a.z (Zv a).1).2)):=Qd rfl
 generalize Ufy a=u at *;generalize Zv a=q at *;obtain⟨n,c⟩:=q;obtain⟨a0,a1,a2,a3⟩:=a;dsimp only[v4,U4b] at KN K KO F;have H0:=Qd (Duo.new w 38 #[.int .i64 a0,.int .i64 a1,.int .i64 a2,.int .i64 a3] 38 #[.int .i64 0,.int .i64 0,.int .i64 0,.int .i64 0]);by_cases h0:n=0
 ·have F2:Hid (u=(⟨4294967296,0,0,0⟩,true)):=Qd (by rw[F.out,if_pos h0]);rw[F2.out];subst h0;clear F F2 K;dsimp only[v4];go_enter func203,ntmps203;go_wp2_with fail;refine(KN.out _).mono ?_;rintro e w1 ⟨rfl,hb⟩;have H1:=Qd (H0.out.kept hb);clear hb KN;go_wp2_with fail;refine(KO.out _).mono ?_;rintro e w1 ⟨rfl,hb⟩;have H2:=Qd (H1.out.kept hb);clear hb KO H1 H0;obtain⟨x1,x2,x3,x4,x5,x6,x7,x8⟩:=Ucq H2.out.2.1;go_wp2_with fail;exact Xk (Ud results203 _ _ (w.heap.size+1) 38 _ (0,0) _ rfl (set4 H2.out.2.1 _ _ _ _) underlying38 rfl Ugd) rfl ⟨rfl,Ufn H2.out.2.2 (show _≤w.heap.size+1 by omega) _ _ _ _⟩
 ·have e0:(n==0)=false:=by simp[h0]
  have K0:=Qd (K.out a0);have K1:=Qd (K.out a1);have K2:=Qd (K.out a2);have K3:=Qd (K.out a3);have F2:=Qd (F.out.trans (if_neg h0));clear K F h0 KO;generalize Y5 a0 n=p0 at *;generalize Y5 a1 n=p1 at *;generalize Y5 a2 n=p2 at *;generalize Y5 a3 n=p3 at *;obtain⟨x0,b0⟩:=p0;obtain⟨x1,b1⟩:=p1;obtain⟨x2,b2⟩:=p2;obtain⟨x3,b3⟩:=p3;dsimp only at K0 K1 K2 K3 F2;obtain⟨b,hb⟩:∃b,((((c||b0)||b1)||b2)||b3)=b:=⟨_,rfl⟩;rw[F2.out,hb];have HBB:=Qd hb;clear hb F2;dsimp only[v4];have C0:Hid (∀W,Duo w 38 #[.int .i64 a0,.int .i64 a1,.int .i64 a2,.int .i64 a3] 38 #[.int .i64 0,.int .i64 0,.int .i64 0,.int .i64 0] W→W.cell? ⟨w.heap.size,0,none⟩=some (.int .i64 a0)):=Qd (fun W H=>H.1.cell 0);clear C0;go_enter func203,ntmps203;go_wp2_with fail;refine(KN.out _).mono ?_;rintro e w1 ⟨rfl,hb⟩;have H1:=Qd ((H0.out.kept hb));clear hb KN H0;have D0:=Qd (U1x.new H1.out 38 #[.int .i64 0,.int .i64 0,.int .i64 0,.int .i64 0]);obtain⟨y1,y2,y3,y4,y5,y6,y7,y8⟩:=Ucq D0.out.1.1;obtain⟨ix0,ix1,ix2,ix3⟩:=ix4 a0 a1 a2 a3;go_wp2_with fail;clear y1 y2 y3 y4 y5 y6 y7 y8 H1;refine wp_loop_rounds 5 ?_;cases c
  all_goals
   rw[Xq];go_wp2_with fail;refine(K0.out _).mono ?_;rintro e w2 ⟨rfl,hb1⟩;have D1:=Qd (D0.out.kept hb1);clear hb1 D0 K0;obtain⟨c1,c2,c3,c4,c5,c6,c7,c8⟩:=Ucq D1.out.2.1
  rotate_right
  focus
   go_wp2_with fail;clear c1 c2 c3 c4 c5 c6 c7 c8;rw[Xq];go_wp2_with fail;refine(K1.out _).mono ?_;rintro e w3 ⟨rfl,hb1⟩;have D2:=Qd ((D1.out.set2 0 _).kept hb1);clear hb1 D1 K1;obtain⟨c1,c2,c3,c4,c5,c6,c7,c8⟩:=Ucq D2.out.2.1;go_wp2_with fail;clear c1 c2 c3 c4 c5 c6 c7 c8;rw[Xq];go_wp2_with fail;refine(K2.out _).mono ?_;rintro e w4 ⟨rfl,hb1⟩;have D3:=Qd ((D2.out.set2 1 _).kept hb1);clear hb1 D2 K2;obtain⟨c1,c2,c3,c4,c5,c6,c7,c8⟩:=Ucq D3.out.2.1;go_wp2_with fail;clear c1 c2 c3 c4 c5 c6 c7 c8;rw[Xq];go_wp2_with fail;refine(K3.out _).mono ?_;rintro e w5 ⟨rfl,hb1⟩;have D4:=Qd ((D3.out.set2 2 _).kept hb1);clear hb1 D3 K3;obtain⟨c1,c2,c3,c4,c5,c6,c7,c8⟩:=Ucq D4.out.2.1;go_wp2_with fail;clear c1 c2 c3 c4 c5 c6 c7 c8;rw[Xq];obtain rfl:b=true:=by have:=HBB.out;simpa using this.symm
  rotate_right
  focus
   cases b0
   all_goals
    go_wp2_with fail;clear c1 c2 c3 c4 c5 c6 c7 c8;rw[Xq];go_wp2_with fail;refine(K1.out _).mono ?_;rintro e w3 ⟨rfl,hb1⟩;have D2:=Qd ((D1.out.set2 0 _).kept hb1);clear hb1 D1 K1;obtain⟨c1,c2,c3,c4,c5,c6,c7,c8⟩:=Ucq D2.out.2.1
   rotate_right
   focus
    go_wp2_with fail;clear c1 c2 c3 c4 c5 c6 c7 c8;rw[Xq];go_wp2_with fail;refine(K2.out _).mono ?_;rintro e w4 ⟨rfl,hb1⟩;have D3:=Qd ((D2.out.set2 1 _).kept hb1);clear hb1 D2 K2;obtain⟨c1,c2,c3,c4,c5,c6,c7,c8⟩:=Ucq D3.out.2.1;go_wp2_with fail;clear c1 c2 c3 c4 c5 c6 c7 c8;rw[Xq];go_wp2_with fail;refine(K3.out _).mono ?_;rintro e w5 ⟨rfl,hb1⟩;have D4:=Qd ((D3.out.set2 2 _).kept hb1);clear hb1 D3 K3;obtain⟨c1,c2,c3,c4,c5,c6,c7,c8⟩:=Ucq D4.out.2.1;go_wp2_with fail;clear c1 c2 c3 c4 c5 c6 c7 c8;rw[Xq];obtain rfl:b=true:=by have:=HBB.out;simpa using this.symm
   rotate_right
   focus
    cases b1
    all_goals
     go_wp2_with fail;clear c1 c2 c3 c4 c5 c6 c7 c8;rw[Xq];go_wp2_with fail;refine(K2.out _).mono ?_;rintro e w4 ⟨rfl,hb1⟩;have D3:=Qd ((D2.out.set2 1 _).kept hb1);clear hb1 D2 K2;obtain⟨c1,c2,c3,c4,c5,c6,c7,c8⟩:=Ucq D3.out.2.1
    rotate_right
    focus
     go_wp2_with fail;clear c1 c2 c3 c4 c5 c6 c7 c8;rw[Xq];go_wp2_with fail;refine(K3.out _).mono ?_;rintro e w5 ⟨rfl,hb1⟩;have D4:=Qd ((D3.out.set2 2 _).kept hb1);clear hb1 D3 K3;obtain⟨c1,c2,c3,c4,c5,c6,c7,c8⟩:=Ucq D4.out.2.1;go_wp2_with fail;clear c1 c2 c3 c4 c5 c6 c7 c8;rw[Xq];obtain rfl:b=true:=by have:=HBB.out;simpa using this.symm
    rotate_right
    focus
     cases b2
     all_goals
      go_wp2_with fail;clear c1 c2 c3 c4 c5 c6 c7 c8;rw[Xq];go_wp2_with fail;refine(K3.out _).mono ?_;rintro e w5 ⟨rfl,hb1⟩;have D4:=Qd ((D3.out.set2 2 _).kept hb1);clear hb1 D3 K3;obtain⟨c1,c2,c3,c4,c5,c6,c7,c8⟩:=Ucq D4.out.2.1
     rotate_right
     focus
      go_wp2_with fail;clear c1 c2 c3 c4 c5 c6 c7 c8;rw[Xq];obtain rfl:b=true:=by have:=HBB.out;simpa using this.symm
     rotate_right
     focus
      cases b3
      all_goals
       go_wp2_with fail;clear c1 c2 c3 c4 c5 c6 c7 c8;rw[Xq]
      rotate_right
      focus
       obtain rfl:b=true:=by have:=HBB.out;simpa using this.symm
      rotate_right
      focus
       obtain rfl:b=false:=by have:=HBB.out;simpa using this.symm
  all_goals
   have D5:=Qd (D4.out.set2 3 (.int .i64 x3));clear D4;obtain⟨c1,c2,c3,c4,c5,c6,c7,c8⟩:=Ucq D5.out.2.1;obtain⟨d1,d2,d3,d4,d5,d6,d7,d8⟩:=Ucq D5.out.1.2.1;go_wp2_with fail;exact Xk (Ud results203 _ _ (w.heap.size+1) 38 _ (0,0) _ rfl (set4 D5.out.1.2.1 _ _ _ _) underlying38 rfl Ugd) rfl ⟨rfl,Ufn D5.out.1.2.2 (show _≤w.heap.size+1 by omega) _ _ _ _⟩
open Tryz
open Go.RowKit
theorem Usq (v:V3)(w:World):Calls prog 202 #[v3 v] w (Ub (.tuple #[v4 (Ucy v).1,.bool (Ucy v).2]) w):=by
 obtain⟨a0,a1,a2⟩:=v;have K:=Qd (fun x w=>Udq x 2147483648 w);have K0:=Qd (K.out a0);have K1:=Qd (K.out a1);have K2:=Qd (K.out a2);have KO:=Qd (fun w=>Uk9 w);have F:Hid (Ucy ⟨a0,a1,a2⟩=((Ufy ⟨4294967296,(Up a0 2147483648).1,(Up a1 2147483648).1,(Up a2 2147483648).1⟩).1,(((Up a0 2147483648).2||(Up a1 2147483648).2)||(Up a2 2147483648).2)||(Ufy ⟨4294967296,(Up a0 2147483648).1,(Up a1 2147483648).1,(Up a2 2147483648).1⟩).2)):=Qd rfl;rw[F.out];have KU:=Qd (fun w=>Um5 ⟨4294967296,(Up a0 2147483648).1,(Up a1 2147483648).1,(Up a2 2147483648).1⟩ w);generalize Ufy ⟨4294967296,(Up a0 2147483648).1,(Up a1 2147483648).1,(Up a2 2147483648).1⟩=u at *;generalize Up a0 2147483648=p0 at *;generalize Up a1 2147483648=p1 at *;generalize Up a2 2147483648=p2 at *;obtain⟨x0,b0⟩:=p0;obtain⟨x1,b1⟩:=p1;obtain⟨x2,b2⟩:=p2;obtain⟨⟨u0,u1,u2,u3⟩,d⟩:=u;clear F K;dsimp only[v3,v4,U4b] at K0 K1 K2 KU KO ⊢;obtain⟨b,hb⟩:∃b,(((b0||b1)||b2)||d)=b:=⟨_,rfl⟩;rw[hb];have HBB:=Qd hb;clear hb;have H0:=Qd (Duo.new w 24 #[.int .i64 a0,.int .i64 a1,.int .i64 a2] 38 #[.int .i64 0,.int .i64 0,.int .i64 0,.int .i64 0]);go_enter func202,ntmps202;go_wp2_with fail;refine(KO.out _).mono ?_;rintro e w1 ⟨rfl,hb⟩;have H1:=Qd ((H0.out.kept hb));clear hb KO H0;have D0:=Qd (U1x.new H1.out 38 #[.int .i64 4294967296,.int .i64 0,.int .i64 0,.int .i64 0]);obtain⟨y1,y2,y3,y4,y5,y6⟩:=Ubz D0.out.1.1;obtain⟨ix0,ix1,ix2⟩:=ix3 a0 a1 a2;go_wp2_with fail;clear y1 y2 y3 y4 y5 y6 H1;refine wp_loop_rounds 4 ?_;rw[Xq];go_wp2_with fail;refine(K0.out _).mono ?_;rintro e w2 ⟨rfl,hb1⟩;have D1:=Qd (D0.out.kept hb1);clear hb1 D0 K0;obtain⟨c1,c2,c3,c4,c5,c6,c7,c8⟩:=Ucq D1.out.2.1;cases b0
 all_goals
  go_wp2_with fail;clear c1 c2 c3 c4 c5 c6 c7 c8;rw[Xq];go_wp2_with fail;refine(K1.out _).mono ?_;rintro e w3 ⟨rfl,hb1⟩;have D2:=Qd ((D1.out.set2 1 _).kept hb1);clear hb1 D1 K1;obtain⟨c1,c2,c3,c4,c5,c6,c7,c8⟩:=Ucq D2.out.2.1
 rotate_right
 focus
  go_wp2_with fail;clear c1 c2 c3 c4 c5 c6 c7 c8;rw[Xq];go_wp2_with fail;refine(K2.out _).mono ?_;rintro e w4 ⟨rfl,hb1⟩;have D3:=Qd ((D2.out.set2 2 _).kept hb1);clear hb1 D2 K2;obtain⟨c1,c2,c3,c4,c5,c6,c7,c8⟩:=Ucq D3.out.2.1;go_wp2_with fail;clear c1 c2 c3 c4 c5 c6 c7 c8;rw[Xq];have D4:=Qd (D3.out.set2 3 (.int .i64 x2));clear D3;obtain⟨c1,c2,c3,c4,c5,c6,c7,c8⟩:=Ucq D4.out.2.1;go_wp2_with fail;clear c1 c2 c3 c4 c5 c6 c7 c8;refine(KU.out _).mono ?_;rintro e w5 ⟨rfl,hb1⟩;have H5:=Qd ((D4.out.1.kept hb1).alloc (.cells #[.int .i64 u0,.int .i64 u1,.int .i64 u2,.int .i64 u3] 38));clear hb1 D4 KU;obtain⟨d1,d2,d3,d4,d5,d6,d7,d8⟩:=Ucq H5.out.2.1;obtain rfl:b=true:=by have:=HBB.out;simpa using this.symm
 rotate_right
 focus
  cases b1
  all_goals
   go_wp2_with fail;clear c1 c2 c3 c4 c5 c6 c7 c8;rw[Xq];go_wp2_with fail;refine(K2.out _).mono ?_;rintro e w4 ⟨rfl,hb1⟩;have D3:=Qd ((D2.out.set2 2 _).kept hb1);clear hb1 D2 K2;obtain⟨c1,c2,c3,c4,c5,c6,c7,c8⟩:=Ucq D3.out.2.1
  rotate_right
  focus
   go_wp2_with fail;clear c1 c2 c3 c4 c5 c6 c7 c8;rw[Xq];have D4:=Qd (D3.out.set2 3 (.int .i64 x2));clear D3;obtain⟨c1,c2,c3,c4,c5,c6,c7,c8⟩:=Ucq D4.out.2.1;go_wp2_with fail;clear c1 c2 c3 c4 c5 c6 c7 c8;refine(KU.out _).mono ?_;rintro e w5 ⟨rfl,hb1⟩;have H5:=Qd ((D4.out.1.kept hb1).alloc (.cells #[.int .i64 u0,.int .i64 u1,.int .i64 u2,.int .i64 u3] 38));clear hb1 D4 KU;obtain⟨d1,d2,d3,d4,d5,d6,d7,d8⟩:=Ucq H5.out.2.1;obtain rfl:b=true:=by have:=HBB.out;simpa using this.symm
  rotate_right
  focus
   cases b2
   all_goals
    go_wp2_with fail;clear c1 c2 c3 c4 c5 c6 c7 c8;rw[Xq];have D4:=Qd (D3.out.set2 3 (.int .i64 x2));clear D3;obtain⟨c1,c2,c3,c4,c5,c6,c7,c8⟩:=Ucq D4.out.2.1;go_wp2_with fail;clear c1 c2 c3 c4 c5 c6 c7 c8;refine(KU.out _).mono ?_;rintro e w5 ⟨rfl,hb1⟩;have H5:=Qd ((D4.out.1.kept hb1).alloc (.cells #[.int .i64 u0,.int .i64 u1,.int .i64 u2,.int .i64 u3] 38));clear hb1 D4 KU;obtain⟨d1,d2,d3,d4,d5,d6,d7,d8⟩:=Ucq H5.out.2.1
   rotate_right
   focus
    obtain rfl:b=true:=by have:=HBB.out;simpa using this.symm
   rotate_right
   focus
    obtain rfl:b=d:=by have:=HBB.out;simpa using this.symm
 all_goals
  go_wp2_with fail;exact Xk (Ud results202 _ _ (w.heap.size+1) 38 _ (0,0) _ rfl (set4 H5.out.2.1 _ _ _ _) underlying38 rfl Ugd) rfl ⟨by simp,Ufn H5.out.2.2 (show _≤w.heap.size+1 by omega) _ _ _ _⟩
theorem Duo.drew {w W:World}{t t':TypeId}{cs cs':Array Value}(H:Duo w t cs t' cs' W):Duo w t cs t' cs' W.drew:=⟨H.1,H.2.1,Ue H.2.2 1⟩
theorem Duo.set4 {w W:World}{t t':TypeId}{cs:Array Value}{a b c d:Value}(H:Duo w t cs t' #[a,b,c,d] W)(u v s r:Value) :
  Duo w t cs t' #[u,v,s,r] ((((W.setCell ⟨w.heap.size+1,0,none⟩ u).setCell ⟨w.heap.size+1,1,none⟩ v).setCell ⟨w.heap.size+1,2,none⟩ s).setCell ⟨w.heap.size+1,3,none⟩ r) :=
 (((H.set1 0 u).set1 1 v).set1 2 s).set1 3 r
theorem Um6 (a:V4)(w:World):Calls prog 157 #[v4 a] w (Ub (v4 (Uf9 a)) w):=by
 obtain⟨a1,a2,a3,a4⟩:=a;have KL:=Qd (fun w=>Yv a1 w);have KN:=Qd (fun x w=>Uhd x w);dsimp only[v4,Uf9];generalize Um a1=b1 at *;generalize Uem=ng at *;generalize chg a1=c at *;have H0:=Qd (Duo.new w 38 #[.int .i64 a1,.int .i64 a2,.int .i64 a3,.int .i64 a4] 38 #[.int .i64 0,.int .i64 0,.int .i64 0,.int .i64 0]);have CE:Hid (∀W cs,Duo w 38 #[.int .i64 a1,.int .i64 a2,.int .i64 a3,.int .i64 a4] 38 cs W→W.cell? ⟨w.heap.size,1,none⟩=some (.int .i64 a2)∧W.cell? ⟨w.heap.size,2,none⟩=some (.int .i64 a3)∧W.cell? ⟨w.heap.size,3,none⟩=some (.int .i64 a4)) :=
  Qd (fun W cs H=>⟨H.1.cell 1,H.1.cell 2,H.1.cell 3⟩)
 go_enter func157,ntmps157;go_wp2_with fail;refine(KL.out _).mono ?_;rintro e w1 ⟨rfl,rfl⟩;go_upto_region 2 with fail
 refine Uq fun W0 hW0=>?_
 rw[←hW0] at H0;clear hW0;obtain⟨x1,x2,x3,x4,x5,x6,x7,x8⟩:=Ucq H0.out.2.1;go_region_held3 (fun w'=>w'.cell? ⟨w.heap.size,1,none⟩=some (.int .i64 a2)∧w'.cell? ⟨w.heap.size,2,none⟩=some (.int .i64 a3)∧w'.cell? ⟨w.heap.size,3,none⟩=some (.int .i64 a4))
  (first|with_reducible exact CE.out _ _ H0.out|with_reducible exact CE.out _ _ H0.out.drew|with_reducible exact CE.out _ _ (H0.out.set4 _ _ _ _)|with_reducible exact CE.out _ _ (H0.out.drew.set4 _ _ _ _)|with_reducible exact CE.out _ _ (H0.out.set4 _ _ _ _).drew)
  (first|(go_at_call 184;refine(KN.out _ _).mono ?_;rintro e w1 ⟨rfl,rfl⟩))
 rename_i hz;clear hz;have H1:=Qd (Duo.drew (H0.out.set4 (.int .i64 b1) (.int .i64 (ng a2)) (.int .i64 (ng a3)) (.int .i64 (ng a4))));refine Yn fun W hW=>?_
 rw[←hW] at H1;clear hW x1 x2 x3 x4 x5 x6 x7 x8 H0 CE;go_wp2_with fail;exact Xk (results_cell_row results157 _ _ (w.heap.size+1) 38 _ (0,0) _ rfl H1.out.2.1 underlying38 rfl Ugd) rfl ⟨rfl,H1.out.2.2⟩
end Go.Proofs.YtdaflmjfeoacaaaGreat
