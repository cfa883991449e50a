/- Part of the proof of TopTry, TopSplit: NumG, NumH, NumI, NumJ. Conditions: none. -/
import Derived.Test.YtdaflmjfeoacaaaGreatZbai
import Derived.Handy
set_option linter.all false
set_option maxHeartbeats 16000000
set_option maxRecDepth 4000
namespace Go.Proofs.YtdaflmjfeoacaaaGreat
open Tryz
open Go.RowKit
def orI (a b:Int):Int:=if a=0 then b else a
theorem Uub {a b:Int}{g c:Nat}{w:World}(c0:w.cell? ⟨g,0,none⟩=some (.int .i64 a))(c1:w.cell? ⟨g,1,none⟩=some (.int .i64 b)) :
  Calls prog 126 #[.slice (some ⟨g,0,none⟩) 2 c] w (fun e w'=>e = .returned (.int .i64 (orI a b))∧w=w'):=by
 unfold orI;by_cases ha:a=0
 ·subst ha;by_cases hb:b=0
  ·subst hb;go_enter func126,ntmps126;go_wp2_with fail;go_rounds 3;go_ret;exact⟨rfl,rfl⟩
  ·have e1:(b != 0)=true:=by simpa using hb
   go_enter func126,ntmps126;go_wp2_with fail;go_rounds 3;go_ret;exact⟨rfl,rfl⟩
 ·have e1:(a != 0)=true:=by simpa using ha
  rw[if_neg ha];go_enter func126,ntmps126;go_wp2_with fail;go_rounds 3;go_ret;exact⟨rfl,rfl⟩
def Bx2 (w0:World)(g:Nat)(a b c d:Value)(W:World):Prop:=Box W g 172 #[a,b]∧Box W (g+1) 172 #[c,d]∧Below w0.heap.size w0 W
theorem Bx2.kept {w0 W W':World}{g:Nat}{a b c d:Value}(h:Bx2 w0 g a b c d W)(hb:Below W.heap.size W W'):Bx2 w0 g a b c d W' :=
 ⟨h.1.kept hb,h.2.1.kept hb,Ua h.2.2 hb h.2.2.size⟩
theorem Bx2.seta {w0 W:World}{g:Nat}{a b c d:Value}(hg:w0.heap.size≤g)(h:Bx2 w0 g a b c d W):Bx2 w0 g a b c d ((W.setCell ⟨g,0,none⟩ a).setCell ⟨g,1,none⟩ b):=by
 obtain⟨h1,h2,h4⟩:=h;exact⟨set2 h1 a b,(h2.far (by simp) _).far (by simp) _,Y9 h4 hg _ _⟩
theorem Bx2.setb {w0 W:World}{g:Nat}{a b c d:Value}(hg:w0.heap.size≤g)(h:Bx2 w0 g a b c d W):Bx2 w0 g a b c d ((W.setCell ⟨g+1,0,none⟩ c).setCell ⟨g+1,1,none⟩ d):=by
 obtain⟨h1,h2,h4⟩:=h;exact⟨(h1.far (by simp) _).far (by simp) _,set2 h2 _ _,Y9 h4 (by omega) _ _⟩
theorem Bx2.cells {w0 W:World}{g:Nat}{a b c d:Value}(h:Bx2 w0 g a b c d W):W.cell? ⟨g,0,none⟩=some a∧W.cell? ⟨g,1,none⟩=some b∧W.cell? ⟨g+1,0,none⟩=some c∧W.cell? ⟨g+1,1,none⟩=some d :=
 ⟨h.1.cell 0,h.1.cell 1,h.2.1.cell 0,h.2.1.cell 1⟩
theorem Bx2.froz {w0 W:World}{g:Nat}{a b c d:Value}(h:Bx2 w0 g a b c d W):W.frozen? ⟨g,0,none⟩=false∧W.frozen? ⟨g,1,none⟩=false∧W.frozen? ⟨g+1,0,none⟩=false∧W.frozen? ⟨g+1,1,none⟩=false :=
 ⟨h.1.frozen 0,h.1.frozen 1,h.2.1.frozen 0,h.2.1.frozen 1⟩
theorem Bx2.drew {w0 W:World}{g:Nat}{a b c d:Value}(h:Bx2 w0 g a b c d W):Bx2 w0 g a b c d W.drew:=⟨h.1,h.2.1,Ue h.2.2 1⟩
theorem Bx2.alloc {w0 W:World}{g:Nat}{a b c d:Value}(h:Bx2 w0 g a b c d W)(o:Obj):Bx2 w0 g a b c d (W.alloc o):=⟨h.1.alloc o,h.2.1.alloc o,h.2.2.alloc h.2.2.size o⟩
theorem Uyu {h l h' l':Int}(hk:Wok h l)(hk':Wok h' l')(w:World) :
  Calls prog 118 #[wv h l,wv h' l'] w (Ub (.int .i64 (orI (Lib.compareInt h h') (Lib.compareInt l l'))) w):=by
 have K1:=Qd (fun w=>Ua8 hk w);have K2:=Qd (fun w=>Ua8 hk' w);unfold wv at K1 K2 ⊢;clear hk hk';go_enter func118,ntmps118;go_wp2_with fail;refine Uq fun W0 hW0=>?_
 have HB:Hid (Bx2 w w.heap.size (.int .i64 h) (.int .i64 l) (.int .i64 h') (.int .i64 l') W0):=Qd (by
  rw[hW0];exact⟨(Box.new w _ _).alloc _,Box.at_ (by simp) _ _,((Xb _ w).alloc (Xa _) _).alloc (by simp) _⟩)
 clear hW0;go_upto_region 1 with fail
 go_region_held3 (fun w'=>w'.cell? ⟨w.heap.size,0,none⟩=some (.int .i64 h)∧w'.cell? ⟨w.heap.size,1,none⟩=some (.int .i64 l)∧w'.cell? ⟨w.heap.size+1,0,none⟩=some (.int .i64 h')∧w'.cell? ⟨w.heap.size+1,1,none⟩=some (.int .i64 l'))
  (first|exact HB.out.cells|exact HB1.out.cells|exact HB2.out.cells|exact(HB2.out.seta (Xa _)).cells|exact((HB2.out.seta (Xa _)).setb (Xa _)).cells)
  (first|(go_at_call 146;refine(K1.out _).mono ?_;rintro e w1 ⟨rfl,hb1⟩;have HB1:=Qd (HB.out.kept (Uv hb1));clear hb1)|(go_at_call 146;refine(K2.out _).mono ?_;rintro e w1 ⟨rfl,hb1⟩;have HB2:=Qd (HB1.out.kept hb1);obtain⟨f1,f2,f3,f4⟩:=HB2.out.froz;obtain⟨g1,g2,g3,g4⟩:=((HB2.out.seta (Xa _))).froz;obtain⟨e1,e2,e3,e4⟩:=HB2.out.cells;obtain⟨i1,i2,i3,i4⟩:=((HB2.out.seta (Xa _))).cells;clear hb1))
 clear f1 f2 f3 f4 g1 g2 g3 g4 e1 e2 e3 e4 i1 i2 i3 i4 HB HB1;have HB3:=Qd ((HB2.out.seta (Xa _)).setb (Xa _));clear HB2;refine Yn fun W3 hW3=>?_
 rw[←hW3] at HB3;rename_i hz;clear hW3 hz;obtain⟨c1,c2,d1,d2⟩:=HB3.out.cells;go_upto_region 2 with fail
 go_region_held3 (fun w'=>w'.cell? ⟨w.heap.size,0,none⟩=some (.int .i64 h)∧w'.cell? ⟨w.heap.size,1,none⟩=some (.int .i64 l)∧w'.cell? ⟨w.heap.size+1,0,none⟩=some (.int .i64 h')∧w'.cell? ⟨w.heap.size+1,1,none⟩=some (.int .i64 l'))
  (first|exact HB3.out.cells|exact(HB3.out.drew.alloc _).cells)
  (first|(go_at_call 127;refine(Tryz.cmp_Compare_int _ _ _).mono ?_;rintro e w1 ⟨rfl,rfl⟩)|(go_at_call 126;refine(Uub (g:=W3.heap.size) ((Box.new W3.drew _ #[_,_]).cell 0) ((Box.new W3.drew _ #[_,_]).cell 1)).mono ?_;rintro e w1 ⟨rfl,rfl⟩))
 rename_i hz;clear hz;go_wp2_with fail;go_ret;exact⟨rfl,(HB3.out.drew.alloc _).2.2⟩
theorem U7f (x y:Int):orI (Lib.compareInt (x / 4611686018427387904) (y / 4611686018427387904)) (Lib.compareInt (x % 4611686018427387904) (y % 4611686018427387904))=Lib.compareInt x y:=by
 unfold orI Lib.compareInt;split<;>(split<;>(try split)<;>(try split)<;>(try split)<;>(try split)<;>(try split)<;>first|rfl|omega)
theorem U7g {x y:Int}(hx:Wz x)(hy:Wz y)(w:World):Calls prog 118 #[wz x,wz y] w (Ub (.int .i64 (Lib.compareInt x y)) w):=by
 have:=Uyu hx.ok hy.ok w;rw[U7f] at this;exact this
theorem Uhe {a b:Int}{g c:Nat}{w:World}(c0:w.cell? ⟨g,0,none⟩=some (.int .i64 a))(c1:w.cell? ⟨g,1,none⟩=some (.int .i64 b)) :
  Calls prog 186 #[.slice (some ⟨g,0,none⟩) 2 c] w (fun e w'=>e = .returned (.bool (chg a||chg b))∧w=w'):=by
 obtain⟨p,hp⟩:∃p,p=chg a:=⟨_,rfl⟩;obtain⟨q,hq⟩:∃q,q=chg b:=⟨_,rfl⟩;rw[←hp,←hq];have A:=Qd (fun w=>Yv a w);have B:=Qd (fun w=>Yv b w);rw[←hp] at A;rw[←hq] at B;generalize Um a=x at *;generalize Um b=y at *;clear hp hq;go_enter func186,ntmps186;go_wp2_with fail;refine wp_loop_rounds 3 ?_;rw[Xq];go_wp2_with fail;refine(A.out _).mono ?_;rintro e w1 ⟨rfl,rfl⟩;cases p
 ·go_wp2_with fail;rw[Xq];go_wp2_with fail;refine(B.out _).mono ?_;rintro e w1 ⟨rfl,rfl⟩;cases q
  ·go_wp2_with fail;rw[Xq];go_wp2_with fail;go_ret;exact⟨rfl,rfl⟩
  ·go_wp2_with fail;go_ret;exact⟨rfl,rfl⟩
 ·go_wp2_with fail;go_ret;exact⟨rfl,rfl⟩
def At1 (w:World)(h l:Value)(W:World):Prop:=Box W w.heap.size 172 #[h,l]∧Below w.heap.size w W
section
variable {w W W':World} {h l:Value}
theorem At1.kept (H:At1 w h l W)(hb:Below W.heap.size W W'):At1 w h l W':=⟨H.1.kept hb,Ua H.2 hb H.2.size⟩
theorem At1.alloc (H:At1 w h l W)(o:Obj):At1 w h l (W.alloc o):=⟨H.1.alloc o,H.2.alloc H.2.size o⟩
theorem At1.cells (H:At1 w h l W):W.cell? ⟨w.heap.size,0,none⟩=some h∧W.cell? ⟨w.heap.size,1,none⟩=some l:=⟨H.1.cell 0,H.1.cell 1⟩
theorem At1.new (H:At1 w h l W):W.heap.size≠w.heap.size:=Nat.ne_of_gt H.1.lt
theorem At1.le (H:At1 w h l W):w.heap.size≤W.heap.size:=H.2.size
theorem At1.far {g j:Nat}(H:At1 w h l W)(hg:w.heap.size≤g)(hne:g≠w.heap.size)(u:Value):At1 w h l (W.setCell ⟨g,j,none⟩ u):=by
 exact⟨(Below.heap_setCell W ⟨g,j,none⟩ u w.heap.size (fun e=>hne e.symm)).trans H.1,H.2.setCell hg u⟩
end
def U7h (w:World)(h l x y:Value)(g:Nat)(W:World):Prop:=g≠w.heap.size∧w.heap.size≤g∧Box W g 172 #[x,y]∧Box W w.heap.size 172 #[h,l]∧Below w.heap.size w W
theorem Um0 {z:Int}(hz:Wz z)(hs:Wz (z+2147483648))(w:World):Calls prog 185 #[wz z] w (Ub (.tuple #[.int .i64 (Ubn z).1,.bool (Ubn z).2]) w):=by
 have KO:=Qd (fun w=>Uyp 2147483648 w);have KA:=Qd (fun w=>Uys hs hz (show Wz 2147483648 by unfold Wz;omega) w);have KD:=Qd (fun w=>Uvn hs w);have KI:=Qd (fun w=>Uyt (z:=(z+2147483648) / 4294967296) (by unfold Wz at *;omega) w);have KS:=Qd (fun w=>Uik hz.ok w);have F:Hid (Ubn z=(Um ((z+2147483648) / 4294967296),chg ((z+2147483648) / 4294967296))):=Qd rfl;rw[F.out];clear F hz hs;obtain⟨h,l,e1⟩:∃h l,wz z = .agg #[.int .i64 h,.int .i64 l]:=⟨_,_,rfl⟩;obtain⟨h',l',e2⟩:∃h l,wz (z+2147483648) = .agg #[.int .i64 h,.int .i64 l]:=⟨_,_,rfl⟩;obtain⟨h3,l3,e3⟩:∃h l,wz ((z+2147483648) / 4294967296) = .agg #[.int .i64 h,.int .i64 l]:=⟨_,_,rfl⟩;obtain⟨h4,l4,e4⟩:∃h l,wz 2147483648 = .agg #[.int .i64 h,.int .i64 l]:=⟨_,_,rfl⟩;have e5:wv (z / 4611686018427387904) (z % 4611686018427387904) = .agg #[.int .i64 h,.int .i64 l]:=e1;rw[e4] at KO;rw[e1,e2,e4] at KA;rw[e2,e3] at KD;rw[e3] at KI;rw[e5] at KS;rw[e1];generalize Um ((z+2147483648) / 4294967296)=n at *;generalize chg ((z+2147483648) / 4294967296)=b at *;clear e1 e2 e3 e4 e5;go_enter func185,ntmps185;go_wp2_with fail;refine Uq fun W0 hW0=>?_
 have HB:Hid (At1 w (.int .i64 h) (.int .i64 l) W0):=Qd (by rw[hW0];exact⟨Box.new w _ _,(Xb _ w).alloc (Xa _) _⟩);clear hW0;go_upto_region 1 with fail
 go_cut [4,5] (fun p q wx=>∃g,p = .pointer (some ⟨g,0,none⟩)∧q = .bool true∧Hid (U7h w (.int .i64 h) (.int .i64 l) (.int .i64 h') (.int .i64 l') g wx))
 case first =>
  go_region_held3 (fun w'=>w'.cell? ⟨w.heap.size,0,none⟩=some (.int .i64 h)∧w'.cell? ⟨w.heap.size,1,none⟩=some (.int .i64 l))
   (first|exact HB.out.cells|exact(HB.out.alloc _).cells|exact(HB.out.drew.alloc _).cells|exact((HB.out.far HG.out hne _).far HG.out hne _).cells)
   (first|(go_at_call 121;refine(KO.out _).mono ?_;rintro e w1 ⟨rfl,hb1⟩;(first|(replace HB:=Qd (HB.out.kept (Uv hb1)))|(have HN:Hid (Box w1 W0.heap.size 172 #[.int .i64 0,.int .i64 0]):=Qd ((Box.new W0.drew 172 #[.int .i64 0,.int .i64 0]).kept hb1);have hne:=HB.out.new;have HG:=Qd HB.out.le;replace HB:=Qd (HB.out.kept (Uv (Zw hb1)))));clear hb1)|(go_at_call 120;refine(KA.out _).mono ?_;rintro e w2 ⟨rfl,hb2⟩;(first|((first|(replace HN:=Qd (HN.out.kept hb2);obtain⟨n1,n2,n3,n4⟩:=Ul9 HN.out)|skip);replace HB:=Qd (HB.out.kept hb2))|(have HN:=Qd ((Box.new w1 172 #[.int .i64 0,.int .i64 0]).kept hb2);obtain⟨n1,n2,n3,n4⟩:=Ul9 HN.out;have hne:=HB.out.new;have HG:=Qd HB.out.le;replace HB:=Qd (HB.out.kept (Zw hb2))));clear hb2))
  ·go_wp2_with fail;go_meet
   case rel=>exact⟨_,rfl,rfl,Qd ⟨HB.out.new,HB.out.le,Box.new _ _ _,(HB.out.alloc _).1,(HB.out.alloc _).2⟩⟩
  ·go_wp2_with fail;go_meet
   case rel=>exact⟨_,rfl,rfl,Qd ⟨hne,HG.out,set2 HN.out _ _,((HB.out.far HG.out hne _).far HG.out hne _).1,((HB.out.far HG.out hne _).far HG.out hne _).2⟩⟩
  ·go_wp2_with fail;go_meet
   case rel=>exact⟨_,rfl,rfl,Qd ⟨hne,HG.out,set2 HN.out _ _,((HB.out.far HG.out hne _).far HG.out hne _).1,((HB.out.far HG.out hne _).far HG.out hne _).2⟩⟩
 case rest =>
  obtain⟨g,rfl,rfl,HS⟩:=hcut;obtain⟨c1,c2,_,_⟩:=Ul9 HS.out.2.2.1;have HB1:=HS.out.2.2.2;clear HB;go_wp2_with fail;refine(KD.out _).mono ?_;rintro e w1 ⟨rfl,hb1⟩;replace HB1:=At1.kept HB1 hb1;clear hb1 c1 c2;go_wp2_with fail;refine(KI.out _).mono ?_;rintro e w2 ⟨rfl,hb1⟩;replace HB1:=Qd (At1.kept HB1 hb1);clear hb1;cases b
  ·obtain⟨c1,c2⟩:=HB1.out.cells;go_wp2_with fail;refine(KS.out _).mono ?_;rintro e w3 ⟨rfl,hb1⟩;have HL:=Qd (Ua HB1.out.2 hb1 HB1.out.2.size);clear hb1;go_wp2_with fail;go_ret2;exact⟨rfl,HL.out⟩
  ·go_wp2_with fail;go_ret2;exact⟨rfl,HB1.out.2⟩
open Tryz
open Go.RowKit
theorem Udq (a b:Int)(w:World):Calls prog 162 #[.int .i64 a,.int .i64 b] w (Ub (.tuple #[.int .i64 (Up a b).1,.bool (Up a b).2]) w):=by
 have hm:=Uom a b;have KM:=Qd (fun w=>Udp a b w);have KR:=Qd (fun w=>Um0 (z:=Uen a b) (Uyq a b) (by unfold Wz;omega) w);have F:Hid ((Up a b).1=(Ubn (Uen a b)).1∧(Up a b).2=((Ubn (Uen a b)).2||(chg a||chg b))):=Qd ⟨rfl,rfl⟩;rw[F.out.1,F.out.2];clear F hm;generalize hcc:(chg a||chg b)=q at *;generalize Ubn (Uen a b)=r at *;obtain⟨n,c⟩:=r;dsimp only at KR ⊢;obtain⟨h,l,e1⟩:∃h l,wz (Uen a b) = .agg #[.int .i64 h,.int .i64 l]:=⟨_,_,rfl⟩;rw[e1] at KM KR;clear e1;go_enter func162,ntmps162;go_wp2_with fail;refine(KM.out _).mono ?_;rintro e w1 ⟨rfl,hb1⟩;go_wp2_with fail;refine(KR.out _).mono ?_;rintro e w2 ⟨rfl,hb2⟩;have HB:=Qd (Ua hb1 hb2 hb1.size);clear hb1 hb2 KM KR;cases c
 ·go_wp2_with fail;refine(Uhe (a:=a) (b:=b) ((Box.new w2 _ #[_,_]).cell 0) ((Box.new w2 _ #[_,_]).cell 1)).mono ?_;rintro e w3 ⟨rfl,rfl⟩;rw[hcc];go_wp2_with fail;go_ret2;exact⟨rfl,HB.out.alloc HB.out.size _⟩
 ·go_wp2_with fail;go_ret2;exact⟨rfl,HB.out⟩
section
variable {y a b u d:Nat}
structure Dig (y a b u d:Nat):Prop where
 hy:y=a*4294967296+b
 hb:b<4294967296
 ha1:2147483648≤a
 ha2:a<4294967296
 hu:u<y
 hd:d<4294967296
theorem Dig.lt (h:Dig y a b u d):(u*4294967296+d) / y<4294967296:=by
 have:=h.hu;have:=h.hd;rw[Nat.div_lt_iff_lt_mul (by omega)];have e:4294967296*(u+1)≤4294967296*y:=Nat.mul_le_mul_left _ (by omega);omega
theorem Dig.start (h:Dig y a b u d):(u*4294967296+d) / y≤u / a∧u / a≤4294967297:=by
 obtain⟨h1,h2,h3,h4,h5,h6⟩:=h;have hy:0<y:=by omega
 generalize hq:(u*4294967296+d) / y=q;have h7:q*y≤u*4294967296+d:=by rw[←hq];exact Nat.div_mul_le_self _ _
 constructor
 ·rw[Nat.le_div_iff_mul_le (by omega)];rw[h1,Nat.mul_add,←Nat.mul_assoc] at h7;generalize q*a=P at *;generalize q*b=R at *;omega
 ·have:u / a<4294967298:=by
   rw[Nat.div_lt_iff_lt_mul (by omega)];omega
  omega
theorem Dig.more {k r:Nat}(h:Dig y a b u d)(hq:(u*4294967296+d) / y≤k)(hr:k*a+r=u)(hc:4294967296≤k∨4294967296*r+d<k*b):(u*4294967296+d) / y≤k-1∧1≤k:=by
 have hlt:=h.lt;obtain⟨h1,h2,h3,h4,h5,h6⟩:=h;rcases hc with hc|hc
 ·omega
 ·have hk:(u*4294967296+d) / y<k:=by
   rw[Nat.div_lt_iff_lt_mul (by omega),h1,Nat.mul_add,←Nat.mul_assoc];generalize k*a=P at *;generalize k*b=R at *;omega
  exact⟨Nat.le_sub_one_of_lt hk,Nat.lt_of_le_of_lt (Nat.zero_le _) hk⟩
theorem Dig.done {k r:Nat}(h:Dig y a b u d)(hq:(u*4294967296+d) / y≤k)(hr:k*a+r=u)(hc:(k<4294967296∧k*b≤4294967296*r+d)∨(k≤4294967296∧4294967296≤r)):k=(u*4294967296+d) / y:=by
 obtain⟨h1,h2,h3,h4,h5,h6⟩:=h;have hb:k*b≤4294967296*r+d:=by
  rcases hc with hc|hc
  ·exact hc.2
  ·have:=Nat.mul_le_mul hc.1 (show b≤4294967295 by omega);omega
 have:k≤(u*4294967296+d) / y:=by
  rw[Nat.le_div_iff_mul_le (by omega),h1,Nat.mul_add,←Nat.mul_assoc];generalize k*a=P at *;generalize k*b=R at *;omega
 omega
theorem Dig.rest {k:Nat}(h:Dig y a b u d)(hk:k=(u*4294967296+d) / y):k*y≤u*4294967296+d∧u*4294967296+d-k*y=(u*4294967296+d) % y∧k<4294967296:=by
 have:=Nat.div_add_mod (u*4294967296+d) y;have h2:k*y≤u*4294967296+d:=by rw[hk];exact Nat.div_mul_le_self _ _
 refine⟨h2,?_,by rw[hk];exact h.lt⟩;rw[hk,Nat.mul_comm (_ / y) y];exact(Nat.mod_eq_sub_mul_div).symm
theorem Uvo (y u d e:Nat)(hy:0<y):(u*18446744073709551616+d*4294967296+e) / y=(u*4294967296+d) / y*4294967296+((u*4294967296+d) % y*4294967296+e) / y ∧
  (u*18446744073709551616+d*4294967296+e) % y=((u*4294967296+d) % y*4294967296+e) % y:=by
 obtain⟨U,hU⟩:∃U,U=u*4294967296+d:=⟨_,rfl⟩;have e1:u*18446744073709551616+d*4294967296+e=U*4294967296+e:=by omega
 rw[e1,←hU];have h:=Nat.div_add_mod U y;obtain⟨q,hq⟩:∃q,q=U / y:=⟨_,rfl⟩;obtain⟨r,hr⟩:∃r,r=U % y:=⟨_,rfl⟩;rw[←hq,←hr] at h ⊢;have e2:U*4294967296+e=(r*4294967296+e)+y*(q*4294967296):=by
  rw[←h,Nat.add_mul,Nat.mul_assoc];omega
 rw[e2,Nat.add_mul_div_left _ _ hy,Nat.add_mul_mod_self_left];exact⟨Nat.add_comm _ _,rfl⟩
end
end Go.Proofs.YtdaflmjfeoacaaaGreat
