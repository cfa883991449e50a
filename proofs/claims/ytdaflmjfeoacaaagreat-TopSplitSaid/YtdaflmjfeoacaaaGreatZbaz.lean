/- Part of the proof of TopTry, TopSplit: FiE, FiF, FiG, FiH. Conditions: none. -/
import Derived.Test.YtdaflmjfeoacaaaGreatZbaw
import Derived.Test.YtdaflmjfeoacaaaGreatZbax
import Derived.Test.YtdaflmjfeoacaaaGreatZbay
set_option linter.all false
set_option maxHeartbeats 16000000
set_option maxRecDepth 4000
namespace Go.Proofs.YtdaflmjfeoacaaaGreat
open Tryz
open Go.RowKit
def Uug (k:Wrk):Wrk:={ k with x:={ k.x with pose:=Up6 k.x.pose k.v k.dt } }
def Uuh (k:Wrk):Wrk:={ k with x:={ k.x with pose:=Udh k.x.pose k.v 67108864 } }
def U2z (k:Wrk)(z r:Int):Wrk:={ k with x:={ k.x with x0:=(Yi k.x.x0 z r 68719476736).1 },f:=k.f&&(Yi k.x.x0 z r 68719476736).2 }
def U5p (k:Wrk)(z r:Int):Wrk:={ k with x:={ k.x with x1:=(Yi k.x.x1 z r 68719476736).1 },f:=k.f&&(Yi k.x.x1 z r 68719476736).2 }
def U20 (k:Wrk)(z r:Int):Wrk:={ k with x:={ k.x with x2:=(Yi k.x.x2 z r 68719476736).1 },f:=k.f&&(Yi k.x.x2 z r 68719476736).2 }
def Ulp (k:Wrk):Wrk:=U20 k k.v.x 1073741824
def Uui (k:Wrk):Wrk:=U20 (U5p (U2z k k.v.x 4294967296) k.v.y 4294967296) k.v.z 4294967296
theorem Usy {b:Nat}{k:Wrk}{w:World}(H:Box w b 187 k.cells):Calls prog 136 #[.pointer (some ⟨b,0,none⟩)] w (Ue0 (.tuple #[]) b (Uug k) w):=by
 have F:Hid (Uug k={ k with x:={ k.x with pose:=Up6 k.x.pose k.v k.dt } }):=Qd rfl;rw[F.out];clear F;have KM:Hid (∀w,Calls prog 164 #[.agg k.x.pose.list.toArray,.agg #[.int .i64 k.v.x,.int .i64 k.v.y,.int .i64 k.v.z],.int .i64 k.dt] w (Ub (.agg (Up6 k.x.pose k.v k.dt).list.toArray) w)):=Qd (fun w=>Uzs k.x.pose k.v k.dt w);generalize Up6 k.x.pose k.v k.dt=y at *;have B0:=Qd H;clear H;go_enter func136,ntmps136;refine Uk (S:=fun w'=>Box w' b 187 k.cells) 18 18 (by kernel_rfl) rfl (by kernel_rfl) (by decide) (B0.out.drew) (fun hHeld=>?_);refine Qn 0 (.pointer (some ⟨b,0,none⟩)) ?_;refine Qn 1 (.pointer (some ⟨b,0,none⟩)) ?_;refine Qn 2 (.pointer (some ⟨b,0,none⟩)) ?_;refine Qn 3 (.pointer (some ⟨b,0,none⟩)) ?_;refine Qn 4 (.pointer (some ⟨b,3,none⟩)) ?_;refine Ux (i:=5) (v := .agg k.x.pose.list.toArray) rfl rfl (by kernel_rfl) (by kernel_rfl) (by kernel_rfl) (fun _ _ _ h=>h)
  (Xn (by rfl) 47 _ rfl b (3) rfl k.x.pose.list _ (fun _ h=>Uzh h) underlying47 rfl Ua6) hHeld ?_
 simp only[Qz];refine Qn 6 (.pointer (some ⟨b,0,none⟩)) ?_;refine Qn 7 (.pointer (some ⟨b,0,none⟩)) ?_;refine Qn 8 (.pointer (some ⟨b,29,none⟩)) ?_;refine Ux (i:=9) (v := .agg [.int .i64 k.v.x,.int .i64 k.v.y,.int .i64 k.v.z].toArray) rfl rfl (by kernel_rfl) (by kernel_rfl) (by kernel_rfl) (fun _ _ _ h=>h)
  (Xn (by rfl) 24 _ rfl b (29) rfl [.int .i64 k.v.x,.int .i64 k.v.y,.int .i64 k.v.z] _ (fun _ h=>U84 h) underlying24 rfl Za) hHeld ?_
 simp only[Qz];refine Qn 10 (.pointer (some ⟨b,0,none⟩)) ?_;refine Qn 11 (.pointer (some ⟨b,0,none⟩)) ?_;refine Qn 12 (.pointer (some ⟨b,32,none⟩)) ?_;refine Qe 13 (.int .i64 k.dt) (fun w hw=>?_) ?_
 ·obtain⟨_,_,_,e32⟩:=Ugk hw;go_simp
 simp only[Qz];refine Qc 14 fun KQ hKQ=>?_
 go_simp;refine(KM.out _).mono ?_;rintro e w1 ⟨rfl,hb⟩;have B1:=Qd (B0.out.drew.kept hb);have HB1:Hid (w.grownBy w1 (some b)):=Qd (Yg (Uv hb));refine hKQ.out _ _ B1.out (fun hHeld=>?_);clear hKQ KQ hb;refine Qn 15 (.pointer (some ⟨b,0,none⟩)) ?_;refine Qn 16 (.pointer (some ⟨b,0,none⟩)) ?_;refine Qn 17 (.pointer (some ⟨b,3,none⟩)) ?_;refine Xl (by kernel_rfl) ?_ _;refine U4 rfl (by rfl) ?_;refine wp_store_mid 47 _ _ rfl b 3 y.list.toArray rfl rfl (Udi (n:=8) B1.out (by omega)) Ua6 y.one ?_;refine Xk (results_none rfl _ _ _) rfl ⟨rfl,?_⟩;exact⟨Uzi B1.out y,Un HB1.out (Yf b _ _ _)⟩
theorem Usz {b:Nat}{k:Wrk}{w:World}(H:Box w b 187 k.cells):Calls prog 137 #[.pointer (some ⟨b,0,none⟩)] w (Ue0 (.tuple #[]) b (Uuh k) w):=by
 have F:Hid (Uuh k={ k with x:={ k.x with pose:=Udh k.x.pose k.v 67108864 } }):=Qd rfl;rw[F.out];clear F;have KM:Hid (∀w,Calls prog 165 #[.agg k.x.pose.list.toArray,.agg #[.int .i64 k.v.x,.int .i64 k.v.y,.int .i64 k.v.z],.int .i64 67108864] w (Ub (.agg (Udh k.x.pose k.v 67108864).list.toArray) w)):=Qd (fun w=>Uwc k.x.pose k.v 67108864 w);generalize Udh k.x.pose k.v 67108864=y at *;have B0:=Qd H;clear H;go_enter func137,ntmps137;refine Uk (S:=fun w'=>Box w' b 187 k.cells) 14 14 (by kernel_rfl) rfl (by kernel_rfl) (by decide) (B0.out.drew) (fun hHeld=>?_);refine Qn 0 (.pointer (some ⟨b,0,none⟩)) ?_;refine Qn 1 (.pointer (some ⟨b,0,none⟩)) ?_;refine Qn 2 (.pointer (some ⟨b,0,none⟩)) ?_;refine Qn 3 (.pointer (some ⟨b,0,none⟩)) ?_;refine Qn 4 (.pointer (some ⟨b,3,none⟩)) ?_;refine Ux (i:=5) (v := .agg k.x.pose.list.toArray) rfl rfl (by kernel_rfl) (by kernel_rfl) (by kernel_rfl) (fun _ _ _ h=>h)
  (Xn (by rfl) 47 _ rfl b (3) rfl k.x.pose.list _ (fun _ h=>Uzh h) underlying47 rfl Ua6) hHeld ?_
 simp only[Qz];refine Qn 6 (.pointer (some ⟨b,0,none⟩)) ?_;refine Qn 7 (.pointer (some ⟨b,0,none⟩)) ?_;refine Qn 8 (.pointer (some ⟨b,29,none⟩)) ?_;refine Ux (i:=9) (v := .agg [.int .i64 k.v.x,.int .i64 k.v.y,.int .i64 k.v.z].toArray) rfl rfl (by kernel_rfl) (by kernel_rfl) (by kernel_rfl) (fun _ _ _ h=>h)
  (Xn (by rfl) 24 _ rfl b (29) rfl [.int .i64 k.v.x,.int .i64 k.v.y,.int .i64 k.v.z] _ (fun _ h=>U84 h) underlying24 rfl Za) hHeld ?_
 simp only[Qz];refine Qc 10 fun KQ hKQ=>?_
 go_simp;refine(KM.out _).mono ?_;rintro e w1 ⟨rfl,hb⟩;have B1:=Qd (B0.out.drew.kept hb);have HB1:Hid (w.grownBy w1 (some b)):=Qd (Yg (Uv hb));refine hKQ.out _ _ B1.out (fun hHeld=>?_);clear hKQ KQ hb;refine Qn 11 (.pointer (some ⟨b,0,none⟩)) ?_;refine Qn 12 (.pointer (some ⟨b,0,none⟩)) ?_;refine Qn 13 (.pointer (some ⟨b,3,none⟩)) ?_;refine Xl (by kernel_rfl) ?_ _;refine U4 rfl (by rfl) ?_;refine wp_store_mid 47 _ _ rfl b 3 y.list.toArray rfl rfl (Udi (n:=8) B1.out (by omega)) Ua6 y.one ?_;refine Xk (results_none rfl _ _ _) rfl ⟨rfl,?_⟩;exact⟨Uzi B1.out y,Un HB1.out (Yf b _ _ _)⟩
theorem Uqk {b:Nat}{k:Wrk}{w:World}(H:Box w b 187 k.cells):Calls prog 139 #[.pointer (some ⟨b,0,none⟩)] w (Ue0 (.tuple #[]) b (Ulp k) w):=by
 have K:Hid (Calls prog 166 #[.pointer (some ⟨b,0,none⟩),.int .i64 2,.int .i64 k.v.x,.int .i64 1073741824] w (Ue0 (.tuple #[]) b (Ulp k) w)):=Qd (Uln k.v.x 1073741824 H);obtain⟨c0,_⟩:=Ugk H;generalize k.v.x=z at *;generalize Ulp k=k' at *;clear H;go_enter func139,ntmps139;go_wp2_with fail;refine K.out.mono ?_;rintro e w1 ⟨rfl,h1,h2⟩;have H1:=Qd h1;have H2:=Qd h2;clear h1 h2;go_wp2_with fail;refine Xk (results_none rfl _ _ _) rfl ⟨rfl,?_⟩;exact⟨H1.out,H2.out⟩
theorem Us0 {b:Nat}{k:Wrk}{w:World}(H:Box w b 187 k.cells):Calls prog 138 #[.pointer (some ⟨b,0,none⟩)] w (Ue0 (.tuple #[]) b (Uui k) w):=by
 have K0:Hid (∀w,Box w b 187 k.cells→Calls prog 166 #[.pointer (some ⟨b,0,none⟩),.int .i64 0,.int .i64 k.v.x,.int .i64 4294967296] w (Ue0 (.tuple #[]) b (U2z k k.v.x 4294967296) w)):=Qd (fun w H=>Usv k.v.x 4294967296 H);have K1:Hid (∀k' w,Box w b 187 k'.cells→Calls prog 166 #[.pointer (some ⟨b,0,none⟩),.int .i64 1,.int .i64 k.v.y,.int .i64 4294967296] w (Ue0 (.tuple #[]) b (U5p k' k.v.y 4294967296) w)):=Qd (fun k' w H=>Usw k.v.y 4294967296 H);have K2:Hid (∀k' w,Box w b 187 k'.cells→Calls prog 166 #[.pointer (some ⟨b,0,none⟩),.int .i64 2,.int .i64 k.v.z,.int .i64 4294967296] w (Ue0 (.tuple #[]) b (U20 k' k.v.z 4294967296) w)):=Qd (fun k' w H=>Uln k.v.z 4294967296 H);have F:Hid (Uui k=U20 (U5p (U2z k k.v.x 4294967296) k.v.y 4294967296) k.v.z 4294967296):=Qd rfl;rw[F.out];clear F;obtain⟨c0,c1,c2,_⟩:=Ugk H;have B0:=Qd H;obtain⟨ix0,ix1,ix2⟩:=U83 k.v.x k.v.y k.v.z;clear H;generalize U2z k k.v.x 4294967296=k0 at *;generalize k.v.x=z0 at *;generalize k.v.y=z1 at *;generalize k.v.z=z2 at *;go_enter func138,ntmps138;go_wp2_with fail;clear c0 c1 c2;refine wp_loop_rounds 4 ?_;rw[Xq];go_wp2_with fail;refine(K0.out _ B0.out).mono ?_;rintro e w1 ⟨rfl,h1,h2⟩;have B1:=Qd h1;have G1:=Qd h2;clear h1 h2;go_wp2_with fail;rw[Xq];go_wp2_with fail;refine(K1.out _ _ B1.out).mono ?_;rintro e w2 ⟨rfl,h1,h2⟩;have B2:=Qd h1;have G2:=Qd (Un G1.out h2);clear h1 h2;go_wp2_with fail;rw[Xq];go_wp2_with fail;refine(K2.out _ _ B2.out).mono ?_;rintro e w3 ⟨rfl,h1,h2⟩;have B3:=Qd h1;have G3:=Qd (Un G2.out h2);clear h1 h2;go_wp2_with fail;rw[Xq];go_wp2_with fail;refine Xk (results_none rfl _ _ _) rfl ⟨rfl,?_⟩;exact⟨B3.out,G3.out⟩
structure U60 (w0:World) (g:Nat) (t:TypeId) (cs:List Value) (W:World):Prop where
 box:Box W g t cs.toArray
 below:Below w0.heap.size w0 W
 new:w0.heap.size≤g
def Uc0 (k:Wrk)(s:Int):V3:=if s=1 then (Uev (Usb k.x.pose.q k.v).1 ⟨0,0,42119241033⟩).1 else ⟨0,0,0⟩
theorem Uql {b:Nat}{k:Wrk}{w:World}(s:Int)(H:Box w b 187 k.cells):Calls prog 107 #[.pointer (some ⟨b,0,none⟩),.int .i64 s] w (Ub (v3 (Uc0 k s)) w):=by
 by_cases hs:s=1;rotate_right
 focus
  have F:Hid (Uc0 k s=⟨0,0,0⟩):=Qd (by unfold Uc0;rw[if_neg hs]);rw[F.out];have e1:(s != 1)=true:=by simpa using hs
  have e2:(s==1)=false:=by simpa using hs
  clear F H hs;dsimp only[v3]
 rotate_right
 focus
  subst hs;have F:Hid (Uc0 k 1=(Uev (Usb k.x.pose.q k.v).1 ⟨0,0,42119241033⟩).1):=Qd rfl;rw[F.out];clear F;have KR:Hid (∀w,Calls prog 129 #[.agg #[.int .i64 k.x.pose.q.w,.int .i64 k.x.pose.q.x,.int .i64 k.x.pose.q.y,.int .i64 k.x.pose.q.z],.agg #[.int .i64 k.v.x,.int .i64 k.v.y,.int .i64 k.v.z]] w (Ub (.tuple #[v3 (Usb k.x.pose.q k.v).1,.bool (Usb k.x.pose.q k.v).2]) w)):=Qd (fun w=>Uqd k.x.pose.q k.v w);have KS:Hid (∀w,Calls prog 130 #[v3 (Usb k.x.pose.q k.v).1,.agg #[.int .i64 0,.int .i64 0,.int .i64 42119241033]] w (Ub (.tuple #[v3 (Uev (Usb k.x.pose.q k.v).1 ⟨0,0,42119241033⟩).1,.bool (Uev (Usb k.x.pose.q k.v).1 ⟨0,0,42119241033⟩).2]) w)):=Qd (fun w=>Uhj _ ⟨0,0,42119241033⟩ w);generalize Uev (Usb k.x.pose.q k.v).1 ⟨0,0,42119241033⟩=a at *;generalize Usb k.x.pose.q k.v=r at *;obtain⟨⟨a0,a1,a2⟩,ab⟩:=a;obtain⟨r,rb⟩:=r;dsimp only[v3] at KR KS ⊢;have hbl:=H.lt
 all_goals
  have B0:Hid (Box (w.alloc (.cells #[.int .i64 0,.int .i64 0,.int .i64 0] 24)) w.heap.size 24 #[.int .i64 0,.int .i64 0,.int .i64 0]):=Qd (Box.new _ _ _)
 ·have HK:=Qd (H.alloc (.cells #[.int .i64 0,.int .i64 0,.int .i64 0] 24));have HL:Hid (Below w.heap.size w (w.alloc (.cells #[.int .i64 0,.int .i64 0,.int .i64 0] 24))):=Qd ((Xb _ w).alloc (Xa _) _);clear H;go_enter func107,ntmps107;go_upto_region 3 with fail
  refine Uq fun W0 hW0=>?_
  rw[←hW0] at B0 HK HL;clear hW0;have CQ:Hid (∀W,Below W0.heap.size W0 W→W.cell? ⟨b,3,none⟩=some (.int .i64 k.x.pose.q.w)∧W.cell? ⟨b,4,none⟩=some (.int .i64 k.x.pose.q.x)∧W.cell? ⟨b,5,none⟩=some (.int .i64 k.x.pose.q.y)∧W.cell? ⟨b,6,none⟩=some (.int .i64 k.x.pose.q.z)):=Qd (fun W hb=>U87 (HK.out.kept hb));have CV:Hid (∀W,Below W0.heap.size W0 W→W.cell? ⟨b,29,none⟩=some (.int .i64 k.v.x)∧W.cell? ⟨b,30,none⟩=some (.int .i64 k.v.y)∧W.cell? ⟨b,31,none⟩=some (.int .i64 k.v.z)):=Qd (fun W hb=>let h:=Ugk (HK.out.kept hb);⟨h.1,h.2.1,h.2.2.1⟩);go_cut [5,6] (fun p c wx=>∃g,p = .pointer (some ⟨g,0,none⟩)∧c = .bool rb∧Hid (U60 W0 g 24 [.int .i64 r.x,.int .i64 r.y,.int .i64 r.z] wx))
  case first =>
   refine Xm (S:=fun w'=>Below W0.heap.size W0 w') (by kernel_rfl) (Ue (Xb _ W0) 1) (fun hHeld=>?_);refine Qn 0 (.pointer (some ⟨b,0,none⟩)) ?_;refine Qn 1 (.pointer (some ⟨b,0,none⟩)) ?_;refine Qn 2 (.pointer (some ⟨b,0,none⟩)) ?_;refine Qn 3 (.pointer (some ⟨b,3,none⟩)) ?_;refine Qn 4 (.pointer (some ⟨b,3,none⟩)) ?_;refine Qe 5 (.agg #[.int .i64 k.x.pose.q.w,.int .i64 k.x.pose.q.x,.int .i64 k.x.pose.q.y,.int .i64 k.x.pose.q.z]) (fun w hw=>?_) ?_
   ·obtain⟨x0,x1,x2,x3⟩:=CQ.out _ hw;go_simp
   simp only[Qz];refine Qn 6 (.pointer (some ⟨b,0,none⟩)) ?_;refine Qn 7 (.pointer (some ⟨b,0,none⟩)) ?_;refine Qn 8 (.pointer (some ⟨b,29,none⟩)) ?_;refine Qe 9 (.agg #[.int .i64 k.v.x,.int .i64 k.v.y,.int .i64 k.v.z]) (fun w hw=>?_) ?_
   ·obtain⟨x0,x1,x2⟩:=CV.out _ hw;go_simp
   simp only[Qz];refine Ut fun WD hWD=>?_
   have HD:Hid (Below W0.heap.size W0 WD):=Qd (by rw[hWD];exact Ue (Xb _ W0) 1);replace hHeld:=HD.out;clear hWD;refine wpAnyH_ready (rs:=[10,14]) (by kernel_rfl) (by simp) ?_;refine Xo rfl (fun KQ hKQ=>?_) (Xo rfl (fun KQ hKQ=>?_) AllReadyH.nil);rotate_right
   focus
    go_simp;refine hKQ.out _ _ (HD.out.alloc HD.out.size _) (fun hHeld=>?_);clear hKQ KQ;refine Ut fun wa hW=>?_
    have BX0:∃Z:Array Value,Box wa WD.heap.size 24 Z∧Z.size=3:=by rw[hW];exact⟨_,Box.new _ _ _,rfl⟩
    obtain⟨Z,bx,hz⟩:=BX0;have BX:=Qd bx;have HZ:=Qd hz;have Hwa:Hid (Below W0.heap.size W0 wa):=Qd (by rw[hW];exact HD.out.alloc HD.out.size _);have HG:Hid (W0.heap.size≤WD.heap.size):=Qd HD.out.size;replace hHeld:=Hwa.out;clear hW bx hz;generalize hg:WD.heap.size=g at *;clear hg;refine Qc 10 fun KQ hKQ=>?_
    go_simp;refine(KR.out _).mono ?_;rintro e wc ⟨rfl,hb⟩;have Hwc:Hid (Below W0.heap.size W0 wc):=Qd (Ua Hwa.out hb Hwa.out.size);replace BX:=Qd (BX.out.kept hb)
   rotate_right
   focus
    go_simp;refine(KR.out _).mono ?_;rintro e wc ⟨rfl,hb⟩;have Hwc:Hid (Below W0.heap.size W0 wc):=Qd (Ua HD.out hb HD.out.size)
   all_goals
    refine hKQ.out _ _ Hwc.out (fun hHeld=>?_);clear hKQ KQ hb;refine Qn 11 (.tuple #[.agg ([.int .i64 r.x,.int .i64 r.y,.int .i64 r.z]).toArray,.bool rb]) ?_;refine Qn 12 (.agg ([.int .i64 r.x,.int .i64 r.y,.int .i64 r.z]).toArray) ?_;refine Qn 13 (.bool rb) ?_
   rotate_right;rotate_right
   focus
    refine Qc 14 fun KQ hKQ=>?_
    go_simp;refine hKQ.out _ _ (Hwc.out.alloc Hwc.out.size _) (fun hHeld=>?_);clear hKQ KQ;refine Ut fun wa hW=>?_
    have BX0:∃Z:Array Value,Box wa wc.heap.size 24 Z∧Z.size=3:=by rw[hW];exact⟨_,Box.new _ _ _,rfl⟩
    obtain⟨Z,bx,hz⟩:=BX0;have BX:=Qd bx;have HZ:=Qd hz;have Hwa:Hid (Below W0.heap.size W0 wa):=Qd (by rw[hW];exact Hwc.out.alloc Hwc.out.size _);have HG:Hid (W0.heap.size≤wc.heap.size):=Qd Hwc.out.size;replace hHeld:=Hwa.out;clear hW bx hz;generalize hg:wc.heap.size=g at *;clear hg
   all_goals
    refine Qc 15 fun KQ hKQ=>?_
    rw[if_pos (by rfl)];refine wp_store_mid 24 _ _ rfl g 0 ([.int .i64 r.x,.int .i64 r.y,.int .i64 r.z]).toArray rfl rfl (BX.out.thereAll (by rw[HZ.out];rfl)) Za (by simp[Value.oneCell']) ?_
   rotate_right
   focus
    refine hKQ.out _ _ (Below.setCells Hwc.out Hwc.out.size HG.out _ _) (fun hHeld=>?_);clear hKQ KQ;refine Qn 16 (.bool rb) ?_;refine Xl (by kernel_rfl) ?_ _;have NB:Hid (U60 W0 g 24 ([.int .i64 r.x,.int .i64 r.y,.int .i64 r.z]) (wc.setCells g 0 ([.int .i64 r.x,.int .i64 r.y,.int .i64 r.z]))):=Qd ⟨BX.out.setCells_all (by rw[HZ.out];rfl),Below.setCells Hwc.out Hwc.out.size HG.out _ _,HG.out⟩
   rotate_right
   focus
    refine hKQ.out _ _ (Below.setCells Hwa.out Hwa.out.size HG.out _ _) (fun hHeld=>?_);clear hKQ KQ;refine Qn 16 (.bool rb) ?_;refine Xl (by kernel_rfl) ?_ _;have NB:Hid (U60 W0 g 24 ([.int .i64 r.x,.int .i64 r.y,.int .i64 r.z]) (wa.setCells g 0 ([.int .i64 r.x,.int .i64 r.y,.int .i64 r.z]))):=Qd ⟨BX.out.setCells_all (by rw[HZ.out];rfl),Below.setCells Hwa.out Hwa.out.size HG.out _ _,HG.out⟩
   all_goals
    clear hHeld;go_wp2_with fail;go_meet
    case rel=>exact⟨g,rfl,rfl,NB⟩
  case rest =>
   obtain⟨g,rfl,rfl,NB⟩:=hcut;obtain⟨n0,n1,n2,_⟩:=Ubz NB.out.box;have B1:=Qd (B0.out.kept NB.out.below);have H1:=Qd (Ua HL.out NB.out.below HL.out.size);clear B0 HL HK CQ CV;go_wp2_with fail;refine(KS.out _).mono ?_;rintro e w5 ⟨rfl,hb⟩;have B2:=Qd (B1.out.kept hb);have H2:=Qd (Ua H1.out hb H1.out.size);clear hb B1 H1 n0 n1 n2 NB KS;obtain⟨n0,n1,n2,f0,f1,f2⟩:=Ubz B2.out;have hlt:=B2.out.lt;go_wp2_with fail;exact Xk (results_cell_row results107 _ _ w.heap.size 24 _ (0,0) _ rfl ((set3 B2.out _ _ _).alloc _) underlying24 rfl Za) rfl ⟨rfl,(Yd H2.out (Xa _) _ _ _).alloc (Yd H2.out (Xa _) _ _ _).size _⟩
 ·go_enter func107,ntmps107;go_wp2_with fail;exact Xk (results_cell_row results107 _ _ w.heap.size 24 _ (0,0) _ rfl B0.out underlying24 rfl Za) rfl ⟨rfl,(Xb _ w).alloc (Xa _) _⟩
structure Uag where
 c0:Ul8
 c1:Ul8
 c2:Ul8
 c3:Ul8
def Ul8.list (c:Ul8):List Value:=[.int .i64 c.bias.x,.int .i64 c.bias.y,.int .i64 c.bias.z,.int .i64 c.gain,.int .i64 c.max]
def Uag.list (c:Uag):List Value:=c.c0.list++c.c1.list++c.c2.list++c.c3.list
def Uag.cells (c:Uag):Array Value:=c.list.toArray
def Ucf (c:Uag):Value := .agg c.cells
def Uag.at (c:Uag)(k:Nat):Ul8:=if k=0 then c.c0 else if k=1 then c.c1 else if k=2 then c.c2 else c.c3
theorem U5q {w:World}{g:Nat}{t:TypeId}{c:Uag}{k:Nat}(h:Box w g t c.cells)(hk:k<4):w.rangeAt g (k*5) (c.at k).list:=by
 rcases (show k=0∨k=1∨k=2∨k=3 by omega) with rfl|rfl|rfl|rfl
 ·exact Box.midRange (A:=[]) (B:=c.c0.list) (C:=c.c1.list++c.c2.list++c.c3.list) (by simpa [Uag.cells,Uag.list] using h) rfl
 ·exact Box.midRange (A:=c.c0.list) (B:=c.c1.list) (C:=c.c2.list++c.c3.list) (by simpa [Uag.cells,Uag.list] using h) rfl
 ·exact Box.midRange (A:=c.c0.list++c.c1.list) (B:=c.c2.list) (C:=c.c3.list) (by simpa [Uag.cells,Uag.list] using h) rfl
 ·exact Box.midRange (A:=c.c0.list++c.c1.list++c.c2.list) (B:=c.c3.list) (C:=[]) (by simpa [Uag.cells,Uag.list] using h) rfl
theorem U21:(prog.info? 26).map (·.size)=some 5:=by kernel_rfl
theorem Ua4:(prog.info? 27).map (·.size)=some 20:=by kernel_rfl
def Uei (x:Sta)(c:Uag)(s:Smp):V3×Int :=
 if ¬Ubg s∨x.n=1099511627776∨x.out=1099511627776 then (⟨0,0,0⟩,5) else if s.t<x.t then (⟨0,0,0⟩,3) else
  if (Uju (c.at s.s.toNat) s.v).2 then ((Uju (c.at s.s.toNat) s.v).1,0) else ((Uju (c.at s.s.toNat) s.v).1,1)
structure RdF (w:World) (xs cs ss:Array Value) (W:World):Prop where
 x:Box W w.heap.size 52 xs
 c:Box W (w.heap.size+1) 27 cs
 s:Box W (w.heap.size+1+1) 40 ss
 r:Box W (w.heap.size+1+1+1) 24 #[.int .i64 0,.int .i64 0,.int .i64 0]
 below:Below w.heap.size w W
theorem RdF.kept {w W W':World}{xs cs ss:Array Value}(H:RdF w xs cs ss W)(hb:Below W.heap.size W W'):RdF w xs cs ss W':=⟨H.x.kept hb,H.c.kept hb,H.s.kept hb,H.r.kept hb,Ua H.below hb H.below.size⟩
theorem RdF.new (w:World)(xs cs ss:Array Value):RdF w xs cs ss ((((w.alloc (.cells xs 52)).alloc (.cells cs 27)).alloc (.cells ss 40)).alloc (.cells #[.int .i64 0,.int .i64 0,.int .i64 0] 24)) :=
 ⟨(((Box.new w _ _).alloc _).alloc _).alloc _,((Box.at_ (by simp) _ _).alloc _).alloc _,(Box.at_ (by simp) _ _).alloc _,Box.at_ (by simp) _ _,((((Xb _ w).alloc (Xa _) _).alloc (by simp) _).alloc (by simp;omega) _).alloc (by simp;omega) _⟩
theorem Unc (x:Sta)(c:Uag)(s:Smp)(w:World):Calls prog 106 #[stv x,Ucf c,Udr s] w (Ub (.tuple #[v3 (Uei x c s).1,.int .i64 (Uei x c s).2]) w):=by
 have KS:=Qd (fun w=>Uds s w)
 have F:Hid (Uei x c s=if ¬Ubg s∨x.n=1099511627776∨x.out=1099511627776 then (⟨0,0,0⟩,5) else if s.t<x.t then (⟨0,0,0⟩,3) else
  if (Uju (c.at s.s.toNat) s.v).2 then ((Uju (c.at s.s.toNat) s.v).1,0) else ((Uju (c.at s.s.toNat) s.v).1,1)):=Qd rfl
 rw[F.out];clear F;have CX:Hid (∀W,Box W w.heap.size 52 x.cells→W.cell? ⟨w.heap.size,0,none⟩=some (.int .i64 x.t)∧W.cell? ⟨w.heap.size,1,none⟩=some (.int .i64 x.n)∧W.cell? ⟨w.heap.size,2,none⟩=some (.int .i64 x.out)):=Qd (fun W h=>Ull h);have CA0:Hid (∀k W,k<4→Box W (w.heap.size+1) 27 c.cells→W.rangeAt (w.heap.size+1) (k*5) (c.at k).list):=Qd (fun k W hk h=>U5q h hk);have KC:=Qd (fun k w=>Uwd (c.at k) s.v w);dsimp only[stv,Ucf];generalize x.cells=xs at *;generalize c.cells=cs at *;generalize x.t=xt at *;generalize x.n=xn at *;generalize x.out=xo at *;obtain⟨st,ss,⟨v0,v1,v2⟩⟩:=s;dsimp only[Udr,Smp.cells,v3] at KS KC ⊢;by_cases hs:Ubg ⟨st,ss,⟨v0,v1,v2⟩⟩
 ·rw[Xi hs] at KS;obtain⟨k,hk4,rfl⟩:∃k:Nat,k<4∧ss=(k:Int):=⟨ss.toNat,by have:=hs.2.2.1;have:=hs.2.2.2;dsimp only at *;omega,by have:=hs.2.2.1;dsimp only at *;omega⟩;by_cases hn:xn=1099511627776
  ·subst hn;rw[if_pos (by simp)];dsimp only;clear hs hk4;go_enter func106,ntmps106;go_upto_region 1 with fail
   refine Uq fun W0 hW0=>?_
   have R0:Hid (RdF w xs cs #[.int .i64 st,.int .i64 (k:Int),.int .i64 v0,.int .i64 v1,.int .i64 v2] W0):=Qd (by rw[hW0];exact RdF.new w xs cs #[.int .i64 st,.int .i64 (k:Int),.int .i64 v0,.int .i64 v1,.int .i64 v2]);clear hW0;obtain⟨⟨s0,s1,s2,s3,s4⟩,_⟩:=Udl R0.out.s;go_wp2_with fail;refine(KS.out _).mono ?_;rintro e w1 ⟨rfl,hb⟩;have R1:=Qd (R0.out.kept hb);clear hb R0 KS s0 s1 s2 s3 s4;obtain⟨x0,x1,x2⟩:=CX.out _ R1.out.x;obtain⟨⟨s0,s1,s2,s3,s4⟩,_⟩:=Udl R1.out.s;obtain⟨z0,z1,z2,y0,y1,y2⟩:=Ubz R1.out.r;go_wp2_with fail;exact Xk (Ud results106 _ _ (w.heap.size+1+1+1) 24 _ (0,0) _ rfl (set3 R1.out.r _ _ _) underlying24 rfl Za) rfl ⟨rfl,Yd R1.out.below (by omega) _ _ _⟩
  ·have e1:(xn==1099511627776)=false:=by simpa using hn
   by_cases ho:xo=1099511627776
   ·subst ho;rw[if_pos (by simp)];dsimp only;clear hs hn hk4;go_enter func106,ntmps106;go_upto_region 1 with fail
    refine Uq fun W0 hW0=>?_
    have R0:Hid (RdF w xs cs #[.int .i64 st,.int .i64 (k:Int),.int .i64 v0,.int .i64 v1,.int .i64 v2] W0):=Qd (by rw[hW0];exact RdF.new w xs cs #[.int .i64 st,.int .i64 (k:Int),.int .i64 v0,.int .i64 v1,.int .i64 v2]);clear hW0;obtain⟨⟨s0,s1,s2,s3,s4⟩,_⟩:=Udl R0.out.s;go_wp2_with fail;refine(KS.out _).mono ?_;rintro e w1 ⟨rfl,hb⟩;have R1:=Qd (R0.out.kept hb);clear hb R0 KS s0 s1 s2 s3 s4;obtain⟨x0,x1,x2⟩:=CX.out _ R1.out.x;obtain⟨⟨s0,s1,s2,s3,s4⟩,_⟩:=Udl R1.out.s;obtain⟨z0,z1,z2,y0,y1,y2⟩:=Ubz R1.out.r;go_wp2_with fail;exact Xk (Ud results106 _ _ (w.heap.size+1+1+1) 24 _ (0,0) _ rfl (set3 R1.out.r _ _ _) underlying24 rfl Za) rfl ⟨rfl,Yd R1.out.below (by omega) _ _ _⟩
   ·have e2:(xo==1099511627776)=false:=by simpa using ho
    rw[if_neg (by simp[hs,hn,ho])];by_cases hl:st<xt;rotate_right
    focus
     have e3:decide (st<xt)=false:=Xh hl;rw[if_neg hl];have CA:Hid (∀W,Box W (w.heap.size+1) 27 cs→W.rangeAt (w.heap.size+1) (k*5) (c.at k).list):=Qd (fun W h=>CA0.out k W hk4 h);rw[show((k:Int).toNat)=k from Int.toNat_natCast k];have KR:Hid (∀w,Calls prog 128 #[.agg (c.at k).list.toArray,.agg #[.int .i64 v0,.int .i64 v1,.int .i64 v2]] w (Ub (.tuple #[v3 (Uju (c.at k) ⟨v0,v1,v2⟩).1,.bool (Uju (c.at k) ⟨v0,v1,v2⟩).2]) w)):=Qd (fun w=>KC.out k w);generalize Uju (c.at k) ⟨v0,v1,v2⟩=rr at *;obtain⟨r,rb⟩:=rr;have q1:(0:Int)≤k:=by omega
     have q2:(k:Int)<4:=by omega
     clear hs hn ho hl CA0 KC;dsimp only at KR ⊢;obtain⟨er,he0,he1⟩:∃er:Int,(if rb=true then (r,(0:Int)) else (r,1))=(r,er)∧er=if rb=true then 0 else 1:=⟨_,by cases rb<;>rfl,rfl⟩
     rw[he0];have HE:=Qd he1;clear he0 he1;dsimp only[v3] at KR ⊢
    rotate_right
    focus
     have e3:decide (st<xt)=true:=Xi hl;rw[if_pos hl];dsimp only;clear hs hn ho hl hk4
    all_goals
     go_enter func106,ntmps106;go_upto_region 1 with fail
     refine Uq fun W0 hW0=>?_
     have R0:Hid (RdF w xs cs #[.int .i64 st,.int .i64 (k:Int),.int .i64 v0,.int .i64 v1,.int .i64 v2] W0):=Qd (by rw[hW0];exact RdF.new w xs cs #[.int .i64 st,.int .i64 (k:Int),.int .i64 v0,.int .i64 v1,.int .i64 v2]);clear hW0;obtain⟨⟨s0,s1,s2,s3,s4⟩,_⟩:=Udl R0.out.s;go_wp2_with fail;refine(KS.out _).mono ?_;rintro e w1 ⟨rfl,hb⟩;have R1:=Qd (R0.out.kept hb);clear hb R0 KS s0 s1 s2 s3 s4;obtain⟨x0,x1,x2⟩:=CX.out _ R1.out.x;obtain⟨⟨s0,s1,s2,s3,s4⟩,_⟩:=Udl R1.out.s;obtain⟨z0,z1,z2,y0,y1,y2⟩:=Ubz R1.out.r
    ·go_wp2_with fail;exact Xk (Ud results106 _ _ (w.heap.size+1+1+1) 24 _ (0,0) _ rfl (set3 R1.out.r _ _ _) underlying24 rfl Za) rfl ⟨rfl,Yd R1.out.below (by omega) _ _ _⟩
    ·go_upto_region 5 with fail
     refine Uq fun W2 hW2=>?_
     have R2:Hid (RdF w xs cs #[.int .i64 st,.int .i64 (k:Int),.int .i64 v0,.int .i64 v1,.int .i64 v2] W2):=Qd (by rw[hW2];exact R1.out);have CS:Hid (∀W,Below W2.heap.size W2 W→W.cell? ⟨w.heap.size+1+1,0,none⟩=some (.int .i64 st)∧W.cell? ⟨w.heap.size+1+1,1,none⟩=some (.int .i64 (k:Int))∧W.cell? ⟨w.heap.size+1+1,2,none⟩=some (.int .i64 v0)∧W.cell? ⟨w.heap.size+1+1,3,none⟩=some (.int .i64 v1)∧W.cell? ⟨w.heap.size+1+1,4,none⟩=some (.int .i64 v2)):=Qd (fun W hb=>(Udl (R2.out.s.kept hb)).1);have CC:Hid (∀W,Below W2.heap.size W2 W→W.rangeAt (w.heap.size+1) (k*5) (c.at k).list):=Qd (fun W hb=>CA.out _ (R2.out.c.kept hb));clear hW2 R1 x0 x1 x2 s0 s1 s2 s3 s4 z0 z1 z2 y0 y1 y2;go_cut [8,9] (fun p q wx=>∃g,p = .pointer (some ⟨g,0,none⟩)∧q = .bool rb∧Hid (U60 W2 g 24 [.int .i64 r.x,.int .i64 r.y,.int .i64 r.z] wx))
     case first =>
      refine Xm (S:=fun w'=>Below W2.heap.size W2 w') (by kernel_rfl) (Ue (Xb _ W2) 1) (fun hHeld=>?_);refine Qn 0 (.pointer (some ⟨w.heap.size+1+1,1,none⟩)) ?_;refine Qe 1 (.int .i64 (k:Int)) (fun w hw=>?_) ?_
      ·obtain⟨x0,x1,x2,x3,x4⟩:=CS.out _ hw;go_simp
      simp only[Qz];refine Qn 2 (.pointer (some ⟨w.heap.size+1,k*5,none⟩)) ?_;refine Ux (i:=3) (v := .agg (c.at k).list.toArray) rfl rfl (by kernel_rfl) (by kernel_rfl) (by kernel_rfl) (fun _ _ _ h=>h)
       (Xn (by rfl) 26 _ rfl (w.heap.size+1) (k*5) rfl (c.at k).list _ (fun _ h=>CC.out _ h) underlying26 rfl U21) hHeld ?_
      simp only[Qz];refine Qn 4 (.pointer (some ⟨w.heap.size+1+1,2,none⟩)) ?_;refine Qe 5 (.agg #[.int .i64 v0,.int .i64 v1,.int .i64 v2]) (fun w hw=>?_) ?_
      ·obtain⟨x0,x1,x2,x3,x4⟩:=CS.out _ hw;go_simp
      simp only[Qz];refine Ut fun WD hWD=>?_
      have HD:Hid (Below W2.heap.size W2 WD):=Qd (by rw[hWD];exact Ue (Xb _ W2) 1);replace hHeld:=HD.out;clear hWD;refine wpAnyH_ready (rs:=[6,10]) (by kernel_rfl) (by simp) ?_;refine Xo rfl (fun KQ hKQ=>?_) (Xo rfl (fun KQ hKQ=>?_) AllReadyH.nil);rotate_right
      focus
       go_simp;refine hKQ.out _ _ (HD.out.alloc HD.out.size _) (fun hHeld=>?_);clear hKQ KQ;refine Ut fun wa hW=>?_
       have BX0:∃Z:Array Value,Box wa WD.heap.size 24 Z∧Z.size=3:=by rw[hW];exact⟨_,Box.new _ _ _,rfl⟩
       obtain⟨Z,bx,hz⟩:=BX0;have BX:=Qd bx;have HZ:=Qd hz;have Hwa:Hid (Below W2.heap.size W2 wa):=Qd (by rw[hW];exact HD.out.alloc HD.out.size _);have HG:Hid (W2.heap.size≤WD.heap.size):=Qd HD.out.size;replace hHeld:=Hwa.out;clear hW bx hz;generalize hg:WD.heap.size=g at *;clear hg;refine Qc 6 fun KQ hKQ=>?_
       go_simp;refine(KR.out _).mono ?_;rintro e wc ⟨rfl,hb⟩;have Hwc:Hid (Below W2.heap.size W2 wc):=Qd (Ua Hwa.out hb Hwa.out.size);replace BX:=Qd (BX.out.kept hb)
      rotate_right
      focus
       go_simp;refine(KR.out _).mono ?_;rintro e wc ⟨rfl,hb⟩;have Hwc:Hid (Below W2.heap.size W2 wc):=Qd (Ua HD.out hb HD.out.size)
      all_goals
       refine hKQ.out _ _ Hwc.out (fun hHeld=>?_);clear hKQ KQ hb;refine Qn 7 (.tuple #[.agg ([.int .i64 r.x,.int .i64 r.y,.int .i64 r.z]).toArray,.bool rb]) ?_;refine Qn 8 (.agg ([.int .i64 r.x,.int .i64 r.y,.int .i64 r.z]).toArray) ?_;refine Qn 9 (.bool rb) ?_
      rotate_right;rotate_right
      focus
       refine Qc 10 fun KQ hKQ=>?_
       go_simp;refine hKQ.out _ _ (Hwc.out.alloc Hwc.out.size _) (fun hHeld=>?_);clear hKQ KQ;refine Ut fun wa hW=>?_
       have BX0:∃Z:Array Value,Box wa wc.heap.size 24 Z∧Z.size=3:=by rw[hW];exact⟨_,Box.new _ _ _,rfl⟩
       obtain⟨Z,bx,hz⟩:=BX0;have BX:=Qd bx;have HZ:=Qd hz;have Hwa:Hid (Below W2.heap.size W2 wa):=Qd (by rw[hW];exact Hwc.out.alloc Hwc.out.size _);have HG:Hid (W2.heap.size≤wc.heap.size):=Qd Hwc.out.size;replace hHeld:=Hwa.out;clear hW bx hz;generalize hg:wc.heap.size=g at *;clear hg
      all_goals
       refine Qc 11 fun KQ hKQ=>?_
       rw[if_pos (by rfl)];refine wp_store_mid 24 _ _ rfl g 0 ([.int .i64 r.x,.int .i64 r.y,.int .i64 r.z]).toArray rfl rfl (BX.out.thereAll (by rw[HZ.out];rfl)) Za (by simp[Value.oneCell']) ?_
      rotate_right
      focus
       refine hKQ.out _ _ (Below.setCells Hwc.out Hwc.out.size HG.out _ _) (fun hHeld=>?_);clear hKQ KQ;refine Qn 12 (.bool rb) ?_;refine Xl (by kernel_rfl) ?_ _;have NB:Hid (U60 W2 g 24 ([.int .i64 r.x,.int .i64 r.y,.int .i64 r.z]) (wc.setCells g 0 ([.int .i64 r.x,.int .i64 r.y,.int .i64 r.z]))):=Qd ⟨BX.out.setCells_all (by rw[HZ.out];rfl),Below.setCells Hwc.out Hwc.out.size HG.out _ _,HG.out⟩
      rotate_right
      focus
       refine hKQ.out _ _ (Below.setCells Hwa.out Hwa.out.size HG.out _ _) (fun hHeld=>?_);clear hKQ KQ;refine Qn 12 (.bool rb) ?_;refine Xl (by kernel_rfl) ?_ _;have NB:Hid (U60 W2 g 24 ([.int .i64 r.x,.int .i64 r.y,.int .i64 r.z]) (wa.setCells g 0 ([.int .i64 r.x,.int .i64 r.y,.int .i64 r.z]))):=Qd ⟨BX.out.setCells_all (by rw[HZ.out];rfl),Below.setCells Hwa.out Hwa.out.size HG.out _ _,HG.out⟩
      all_goals
       clear hHeld;go_wp2_with fail;go_meet
       case rel=>exact⟨g,rfl,rfl,NB⟩
     case rest =>
      obtain⟨g,rfl,rfl,NB⟩:=hcut;obtain⟨n0,n1,n2,_⟩:=Ubz NB.out.box;have R3:=Qd (R2.out.kept NB.out.below);clear R2 CS CC NB;obtain⟨z0,z1,z2,y0,y1,y2⟩:=Ubz R3.out.r;cases rb;rotate_right
      focus
       obtain rfl:er=0:=HE.out
      rotate_right
      focus
       obtain rfl:er=1:=HE.out
      all_goals
       go_wp2_with fail;exact Xk (Ud results106 _ _ (w.heap.size+1+1+1) 24 _ (0,0) _ rfl (set3 R3.out.r _ _ _) underlying24 rfl Za) rfl ⟨rfl,Yd R3.out.below (by omega) _ _ _⟩
 ·rw[Xh hs] at KS;rw[if_pos (Or.inl hs)];dsimp only;clear hs;go_enter func106,ntmps106;go_upto_region 1 with fail
  refine Uq fun W0 hW0=>?_
  have R0:Hid (RdF w xs cs #[.int .i64 st,.int .i64 ss,.int .i64 v0,.int .i64 v1,.int .i64 v2] W0):=Qd (by rw[hW0];exact RdF.new w xs cs #[.int .i64 st,.int .i64 ss,.int .i64 v0,.int .i64 v1,.int .i64 v2]);clear hW0;obtain⟨⟨s0,s1,s2,s3,s4⟩,_⟩:=Udl R0.out.s;go_wp2_with fail;refine(KS.out _).mono ?_;rintro e w1 ⟨rfl,hb⟩;have R1:=Qd (R0.out.kept hb);clear hb R0 KS s0 s1 s2 s3 s4;obtain⟨x0,x1,x2⟩:=CX.out _ R1.out.x;obtain⟨⟨s0,s1,s2,s3,s4⟩,_⟩:=Udl R1.out.s;obtain⟨z0,z1,z2,y0,y1,y2⟩:=Ubz R1.out.r;go_wp2_with fail;exact Xk (Ud results106 _ _ (w.heap.size+1+1+1) 24 _ (0,0) _ rfl (set3 R1.out.r _ _ _) underlying24 rfl Za) rfl ⟨rfl,Yd R1.out.below (by omega) _ _ _⟩
def Ulq (k:Wrk)(s:Int):Wrk:=if s=0 then Uug k else if s=1 then Uuh k else if s=2 then Uui k else Ulp k
def U5r (k:Wrk)(a:V3):Wrk:={ k with x:={ k.x with x0:=Zl k.x.x0 a.x k.dt 1073741824 } }
def U5s (k:Wrk)(a:V3):Wrk:={ k with x:={ k.x with x1:=Zl k.x.x1 a.y k.dt 1073741824 } }
def U5t (k:Wrk)(a:V3):Wrk:={ k with x:={ k.x with x2:=Zl k.x.x2 a.z k.dt 1073741824 } }
def Uhr (x:Sta)(v:V3)(t:Int):Wrk:=⟨x,v,min (t-x.t) 16384*4194304,true⟩
def Ucg (x:Sta)(v:V3)(s:Smp):Wrk:=Ulq (U5t (U5s (U5r (Uhr x v s.t) (Uc0 (Uhr x v s.t) s.s)) (Uc0 (Uhr x v s.t) s.s)) (Uc0 (Uhr x v s.t) s.s)) s.s
def U8l (k:Wrk)(t:Int):Sta:={ k.x with out:=if k.f then k.x.out else k.x.out+1,n:=k.x.n+1,t:=t }
def Uej (x0:Sta)(c:Uag)(s:Smp):Sta×Int :=
 let x:=Zs x0
 let r:=Uei x c s
 if r.2≠0 then (if x.n<1099511627776∧x.out<1099511627776 then { x with out:=x.out+1 } else x,r.2) else (U8l (Ucg x r.1 s) s.t,0)
theorem U7s (k:Wrk)(s:Int):(Ulq k s).x.n=k.x.n∧(Ulq k s).x.out=k.x.out∧(Ulq k s).x.t=k.x.t:=by
 unfold Ulq;split
 ·exact⟨rfl,rfl,rfl⟩
 ·split
  ·exact⟨rfl,rfl,rfl⟩
  ·split<;>exact⟨rfl,rfl,rfl⟩
theorem Uuj (x:Sta)(v:V3)(s:Smp):(Ucg x v s).x.n=x.n∧(Ucg x v s).x.out=x.out∧(Ucg x v s).x.t=x.t:=U7s _ _
theorem Ufr (x:Sta):Ual (Zs x):=by
 unfold Zs;split
 ·assumption
 ·decide +kernel
theorem U22 (x:Sta)(v:V3)(dt:Int)(w:World):(Instr.build 187 #[(0,stv x),(1,.agg #[.int .i64 v.x,.int .i64 v.y,.int .i64 v.z]),(2,.int .i64 dt),(3,.bool true)]).run prog w = .ok (.agg (Wrk.mk x v dt true).cells) w:=by
 obtain⟨xt,xn,xo,⟨⟨q0,q1,q2,q3⟩,⟨u0,u1,u2⟩,bd⟩,⟨a0,a1,a2,a3,a4,a5⟩,⟨b0,b1,b2,b3,b4,b5⟩,⟨c0,c1,c2,c3,c4,c5⟩⟩:=x;obtain⟨v0,v1,v2⟩:=v;simp only[stv,Sta.cells,Sta.list,Pos.list,Axs.list,List.cons_append,List.nil_append,Wrk.cells,Wrk.list]
 kernel_rfl
def Us1:Array Value:=#[.func (.func 136) #[] #[],.func (.func 137) #[] #[],.func (.func 138) #[] #[],.func (.func 139) #[] #[]]
structure FdR (w:World) (xs cs ss:Array Value) (W:World):Prop where
 x:Box W w.heap.size 52 xs
 c:Box W (w.heap.size+1) 27 cs
 s:Box W (w.heap.size+1+1) 40 ss
 r:Box W (w.heap.size+1+1+1) 52 Uae.cells
 below:Below w.heap.size w W
theorem FdR.kept {w W W':World}{xs cs ss:Array Value}(H:FdR w xs cs ss W)(hb:Below W.heap.size W W'):FdR w xs cs ss W':=⟨H.x.kept hb,H.c.kept hb,H.s.kept hb,H.r.kept hb,Ua H.below hb H.below.size⟩
theorem FdR.new (w:World)(xs cs ss:Array Value):FdR w xs cs ss ((((w.alloc (.cells xs 52)).alloc (.cells cs 27)).alloc (.cells ss 40)).alloc (.cells Uae.cells 52)) :=
 ⟨(((Box.new w _ _).alloc _).alloc _).alloc _,((Box.at_ (by simp) _ _).alloc _).alloc _,(Box.at_ (by simp) _ _).alloc _,Box.at_ (by simp) _ _,((((Xb _ w).alloc (Xa _) _).alloc (by simp) _).alloc (by simp;omega) _).alloc (by simp;omega) _⟩
theorem FdR.known {w W:World}{xs ys cs ss:Array Value}(H:FdR w xs cs ss W):FdR w ys cs ss (W.setRow w.heap.size ys):=⟨H.x.row _,H.c.row_far (by omega) _,H.s.row_far (by omega) _,H.r.row_far (by omega) _,Uc H.below (Xa _) _⟩
theorem FdR.grown {w W W':World}{xs cs ss:Array Value}{b:Nat}(H:FdR w xs cs ss W)(hg:W.grownBy W' (some b))(hb:w.heap.size+1+1+1<b):FdR w xs cs ss W' :=
 ⟨H.x.grown hg (by omega),H.c.grown hg (by omega),H.s.grown hg (by omega),H.r.grown hg (by omega),Ucn H.below hg H.below.size (by omega)⟩
structure FdW (w:World) (xs cs ss:Array Value) (b:Nat) (k:Wrk) (ga:Nat) (a:V3) (W:World):Prop where
 base:FdR w xs cs ss W
 wk:Box W b 187 k.cells
 a:Box W ga 24 #[.int .i64 a.x,.int .i64 a.y,.int .i64 a.z]
 ne:ga≠b
 lb:w.heap.size+1+1+1<b
section
variable {w W W':World} {xs cs ss:Array Value} {b ga:Nat} {k k':Wrk} {a:V3}
theorem FdW.kept (H:FdW w xs cs ss b k ga a W)(hb:Below W.heap.size W W'):FdW w xs cs ss b k ga a W':=⟨H.base.kept hb,H.wk.kept hb,H.a.kept hb,H.ne,H.lb⟩
theorem FdW.drew (H:FdW w xs cs ss b k ga a W):FdW w xs cs ss b k ga a W.drew:=⟨⟨H.base.x,H.base.c,H.base.s,H.base.r,Ue H.base.below 1⟩,H.wk,H.a,H.ne,H.lb⟩
theorem FdW.turned (H:FdW w xs cs ss b k ga a W)(hk:Box W' b 187 k'.cells)(hg:W.grownBy W' (some b)):FdW w xs cs ss b k' ga a W':=⟨H.base.grown hg H.lb,hk,H.a.grown hg H.ne,H.ne,H.lb⟩
end
theorem Uwe (w:World):Calls prog 109 #[] w (Ub (.agg Us1) w):=by
 have F:Hid (Us1=#[.func (.func 136) #[] #[],.func (.func 137) #[] #[],.func (.func 138) #[] #[],.func (.func 139) #[] #[]]):=Qd rfl;rw[F.out];clear F;go_enter func109,ntmps109;go_wp2_with fail;exact Xk (results_cell_row results109 _ _ w.heap.size 191 _ (0,0) _ rfl (Box.new w _ _) underlying191 rfl (by kernel_rfl)) rfl ⟨rfl,(Xb _ w).alloc (Xa _) _⟩
end Go.Proofs.YtdaflmjfeoacaaaGreat
