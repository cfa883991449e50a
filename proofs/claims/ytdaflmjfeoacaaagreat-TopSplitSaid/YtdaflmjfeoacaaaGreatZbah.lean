/- Part of the proof of TopTry, TopSplit: NumE. Conditions: none. -/
import Derived.Test.YtdaflmjfeoacaaaGreatZbag
import Derived.Deep.RegionHeld3
import Derived.Deep.Cut
import Derived.Deep.DeepCutAuto
set_option linter.all false
set_option maxHeartbeats 16000000
set_option maxRecDepth 4000
namespace Go.Proofs.YtdaflmjfeoacaaaGreat
open Tryz
open Go.RowKit
theorem Yn {Q:Exit→Act→World→Prop}{e:Exit}{a:Act}{W:World}(h:∀W0,W0=W→Q e a W0):Q e a W:=h W rfl
def Bx3 (w0:World)(g:Nat)(a b c d:Value)(W:World):Prop :=
 Box W g 172 #[a,b]∧Box W (g+1) 172 #[c,d]∧Box W (g+2) 172 #[.int .i64 0,.int .i64 0]∧Below w0.heap.size w0 W
theorem Bx3.kept {w0 W W':World}{g:Nat}{a b c d:Value}(h:Bx3 w0 g a b c d W)(hb:Below W.heap.size W W'):Bx3 w0 g a b c d W' :=
 ⟨h.1.kept hb,h.2.1.kept hb,h.2.2.1.kept hb,Ua h.2.2.2 hb h.2.2.2.size⟩
theorem Bx3.seta {w0 W:World}{g:Nat}{a b c d:Value}(hg:w0.heap.size≤g)(h:Bx3 w0 g a b c d W):Bx3 w0 g a b c d ((W.setCell ⟨g,0,none⟩ a).setCell ⟨g,1,none⟩ b):=by
 obtain⟨h1,h2,h3,h4⟩:=h;exact⟨set2 h1 a b,(h2.far (by simp) _).far (by simp) _,(h3.far (by simp) _).far (by simp) _,Y9 h4 hg _ _⟩
theorem Bx3.setb {w0 W:World}{g:Nat}{a b c d:Value}(hg:w0.heap.size≤g)(h:Bx3 w0 g a b c d W):Bx3 w0 g a b c d ((W.setCell ⟨g+1,0,none⟩ c).setCell ⟨g+1,1,none⟩ d):=by
 obtain⟨h1,h2,h3,h4⟩:=h;exact⟨(h1.far (by simp) _).far (by simp) _,set2 h2 _ _,(h3.far (by simp) _).far (by simp) _,Y9 h4 (by omega) _ _⟩
theorem Bx3.cells {w0 W:World}{g:Nat}{a b c d:Value}(h:Bx3 w0 g a b c d W):W.cell? ⟨g,0,none⟩=some a∧W.cell? ⟨g,1,none⟩=some b∧W.cell? ⟨g+1,0,none⟩=some c∧W.cell? ⟨g+1,1,none⟩=some d :=
 ⟨h.1.cell 0,h.1.cell 1,h.2.1.cell 0,h.2.1.cell 1⟩
theorem Bx3.froz {w0 W:World}{g:Nat}{a b c d:Value}(h:Bx3 w0 g a b c d W):W.frozen? ⟨g,0,none⟩=false∧W.frozen? ⟨g,1,none⟩=false∧W.frozen? ⟨g+1,0,none⟩=false∧W.frozen? ⟨g+1,1,none⟩=false :=
 ⟨h.1.frozen 0,h.1.frozen 1,h.2.1.frozen 0,h.2.1.frozen 1⟩
theorem Uyr {h l h' l':Int}(hk:Wok h l)(hk':Wok h' l')(hs:Wok (h+h'+(l+l') / 4611686018427387904) ((l+l') % 4611686018427387904))(w:World) :
  Calls prog 120 #[wv h l,wv h' l'] w (Ub (.tuple #[wv (h+h'+(l+l') / 4611686018427387904) ((l+l') % 4611686018427387904),.bool true]) w):=by
 have K1:=Qd (fun w=>Ua8 hk w);have K2:=Qd (fun w=>Ua8 hk' w);have K3:=Qd (fun w=>Ua8 hs w);have HK:=Qd hk;have HK':=Qd hk';have HS:=Qd hs;clear hk hk' hs;unfold wv at K1 K2 K3 ⊢;go_enter func120,ntmps120;go_wp2_with fail;refine Uq fun W0 hW0=>?_
 have HB:Hid (Bx3 w w.heap.size (.int .i64 h) (.int .i64 l) (.int .i64 h') (.int .i64 l') W0):=Qd (by
  rw[hW0];exact⟨((Box.new w _ _).alloc _).alloc _,(Box.at_ (by simp) _ _).alloc _,Box.at_ (by simp) _ _,(((Xb _ w).alloc (Xa _) _).alloc (by simp) _).alloc (by simp;omega) _⟩)
 clear hW0;go_upto_region 1 with fail
 go_region_held3 (fun w'=>w'.cell? ⟨w.heap.size,0,none⟩=some (.int .i64 h)∧w'.cell? ⟨w.heap.size,1,none⟩=some (.int .i64 l)∧w'.cell? ⟨w.heap.size+1,0,none⟩=some (.int .i64 h')∧w'.cell? ⟨w.heap.size+1,1,none⟩=some (.int .i64 l'))
  (first|exact HB.out.cells|exact HB1.out.cells|exact HB2.out.cells|exact(HB2.out.seta (Xa _)).cells|exact((HB2.out.seta (Xa _)).setb (Xa _)).cells)
  (first|(go_at_call 146;refine(K1.out _).mono ?_;rintro e w1 ⟨rfl,hb1⟩;have HB1:=Qd (HB.out.kept (Uv hb1));clear hb1)|(go_at_call 146;refine(K2.out _).mono ?_;rintro e w1 ⟨rfl,hb1⟩;have HB2:=Qd (HB1.out.kept hb1);obtain⟨f1,f2,f3,f4⟩:=HB2.out.froz;obtain⟨g1,g2,g3,g4⟩:=((HB2.out.seta (Xa _))).froz;obtain⟨e1,e2,e3,e4⟩:=HB2.out.cells;obtain⟨i1,i2,i3,i4⟩:=((HB2.out.seta (Xa _))).cells;clear hb1))
 clear f1 f2 f3 f4 g1 g2 g3 g4 e1 e2 e3 e4 i1 i2 i3 i4 HB HB1;have HB3:=Qd ((HB2.out.seta (Xa _)).setb (Xa _));clear HB2;refine Yn fun W3 hW3=>?_
 rw[←hW3] at HB3;rename_i hz;clear hW3 hz;obtain⟨c1,c2,d1,d2⟩:=HB3.out.cells;have hk:=HK.out;have hk':=HK'.out;have hs:=HS.out;have u1:IntKind.u64.wrap l=l:=by have:=hk.a;have:=hk.b;rw[Xg];omega
 have u2:IntKind.u64.wrap l'=l':=by have:=hk'.a;have:=hk'.b;rw[Xg];omega
 have u3:IntKind.u64.wrap (l+l')=l+l':=by have:=hk.a;have:=hk.b;have:=hk'.a;have:=hk'.b;rw[Xg];omega
 have u4:IntKind.i64.wrap (h+h')=h+h':=by have:=hk.c;have:=hk.d;have:=hk'.c;have:=hk'.d;rw[Xf];omega
 have u5:IntKind.i64.wrap ((l+l') / 4611686018427387904)=(l+l') / 4611686018427387904:=by have:=hk.a;have:=hk.b;have:=hk'.a;have:=hk'.b;rw[Xf];omega
 have u6:wrap64 (h+h'+(l+l') / 4611686018427387904)=h+h'+(l+l') / 4611686018427387904:=by have:=hs.c;have:=hs.d;exact IntWalk.wrap64_in _ (by omega)
 have u7:=Ut9 (l+l');have u8:IntKind.i64.wrap ((l+l') % 4611686018427387904)=(l+l') % 4611686018427387904:=by rw[Xf];omega
 obtain⟨H,hH⟩:∃H,H=h+h'+(l+l') / 4611686018427387904:=⟨_,rfl⟩;obtain⟨L,hL⟩:∃L,L=(l+l') % 4611686018427387904:=⟨_,rfl⟩;rw[←hL] at u7 u8 K3 ⊢;rw[←hH] at K3 ⊢;have u6':=u6.trans hH.symm;have HH:=Qd hH;have HL:=Qd hL;clear hk hk' hs hH hL u6;go_wp2_with fail;refine Uq fun W4 hW4=>?_
 have HB4:Hid (Bx3 w w.heap.size (.int .i64 h) (.int .i64 l) (.int .i64 h') (.int .i64 l') W4):=Qd (by rw[hW4];exact HB3.out.kept ((Xb _ _).alloc (Xa _) _));have BX:Hid (Box W4 W3.heap.size 172 #[.int .i64 H,.int .i64 L]):=Qd (by rw[hW4];exact Box.new _ _ _);generalize W3.heap.size=g7 at *;clear hW4 HB3 c1 c2 d1 d2 u1 u2 u3 u4 u5 u6' u7 u8 HS HK HK' K1 K2;go_region_held3 (fun w'=>w'.cell? ⟨g7,0,none⟩=some (.int .i64 H)∧w'.cell? ⟨g7,1,none⟩=some (.int .i64 L))
  (first|exact⟨BX.out.cell 0,BX.out.cell 1⟩|exact⟨BX1.out.cell 0,BX1.out.cell 1⟩)
  (first|(go_at_call 146;refine(K3.out _).mono ?_;rintro e w1 ⟨rfl,hb1⟩;have BX1:=Qd (BX.out.kept (Uv hb1));have HB5:=Qd (HB4.out.kept (Uv hb1));clear hb1))
 obtain⟨a1,a2,a3,a4⟩:=Ul9 BX1.out;obtain⟨b1,b2,b3,b4⟩:=Ul9 HB5.out.2.2.1;rename_i hz;clear hz BX HB4;go_wp2_with fail;exact Xk (Ud results120 _ _ (w.heap.size+2) 172 _ (0,0) _ rfl (set2 HB5.out.2.2.1 _ _) underlying172 rfl Uao) rfl ⟨by rw[←HH.out,←HL.out];rfl,Y9 HB5.out.2.2.2 (by omega) _ _⟩
theorem Uys {x y:Int}(hs:Wz (x+y))(hx:Wz x)(hy:Wz y)(w:World):Calls prog 120 #[wz x,wz y] w (Ub (.tuple #[wz (x+y),.bool true]) w):=by
 have e1:x / 4611686018427387904+y / 4611686018427387904+(x % 4611686018427387904+y % 4611686018427387904) / 4611686018427387904=(x+y) / 4611686018427387904:=by omega
 have e2:(x % 4611686018427387904+y % 4611686018427387904) % 4611686018427387904=(x+y) % 4611686018427387904:=by omega
 have:=Uyr (h:=x / 4611686018427387904) (l:=x % 4611686018427387904) (h':=y / 4611686018427387904) (l':=y % 4611686018427387904) hx.ok hy.ok (by rw[e1,e2];exact hs.ok) w;rw[e1,e2] at this;exact this
theorem Uyt {z:Int}(hz:Wz z)(w:World):Calls prog 197 #[wz z] w (Ub (.tuple #[.int .i64 (Um z),.bool (!chg z)]) w):=by
 have hk:=hz.ok;have K1:=Qd (fun w=>Ua8 hk w);have F0:Hid (z=z / 4611686018427387904*4611686018427387904+z % 4611686018427387904):=Qd (by omega);unfold wz wv;unfold wv at K1;generalize z / 4611686018427387904=h at *;generalize z % 4611686018427387904=l at *;obtain⟨l1,l2,h1,h2⟩:=hk;by_cases h0:h=0
 ·subst h0;obtain rfl:z=l:=by have:=F0.out;omega
  clear F0 hz;go_enter func197,ntmps197;go_wp2_with fail;refine(K1.out _).mono ?_;rintro e w1 ⟨rfl,hb⟩;obtain⟨c1,c2,c3,c4⟩:=Ul9 ((Box.new w 172 #[.int .i64 0,.int .i64 z]).kept hb);have HB:=Qd (Zw hb);clear hb K1;go_wp2_with fail;refine(Yv _ _).mono ?_;rintro e w2 ⟨rfl,rfl⟩;go_wp2_with fail;go_ret2;exact⟨rfl,Y9 HB.out (Xa _) _ _⟩
 by_cases h3:h = -1
 ·subst h3;obtain⟨y,hy⟩:∃y,y = -4611686018427387904+l:=⟨_,rfl⟩;obtain rfl:z=y:=by have:=F0.out;omega
  have hw:IntKind.i64.wrap (-4611686018427387904+l)=z:=by rw[Xf];omega
  clear F0 hz hy h0;go_enter func197,ntmps197;go_wp2_with fail;refine(K1.out _).mono ?_;rintro e w1 ⟨rfl,hb⟩;obtain⟨c1,c2,c3,c4⟩:=Ul9 ((Box.new w 172 #[.int .i64 (-1),.int .i64 l]).kept hb);have HB:=Qd (Zw hb);clear hb K1;go_wp2_with fail;refine(Yv _ _).mono ?_;rintro e w2 ⟨rfl,rfl⟩;go_wp2_with fail;go_ret2;exact⟨rfl,Y9 HB.out (Xa _) _ _⟩
 by_cases h4:h<0;rotate_right
 focus
  have F2:Hid (Um z=288230376151711744∧chg z=true):=Qd (by
   have:=F0.out;have:Um z=288230376151711744:=by unfold Um;rw[if_neg (by omega),if_pos (by omega)]
   refine⟨this,?_⟩;unfold chg;rw[this];simp;omega)
 rotate_right
 focus
  have F2:Hid (Um z = -288230376151711744∧chg z=true):=Qd (by
   have:=F0.out;have:Um z = -288230376151711744:=by unfold Um;rw[if_pos (by omega)]
   refine⟨this,?_⟩;unfold chg;rw[this];simp;omega)
 all_goals
  clear F0 hz l1 l2 h1 h2;have e0:(h==0)=false:=by simp[h0]
  have e3:(h == -1)=false:=by simp[h3]
 rotate_right
 focus
  have e4:decide (h<0)=false:=by simp;omega
 rotate_right
 all_goals
  go_enter func197,ntmps197;go_wp2_with fail;refine(K1.out _).mono ?_;rintro e w1 ⟨rfl,hb⟩;obtain⟨c1,c2,c3,c4⟩:=Ul9 ((Box.new w 172 #[.int .i64 h,.int .i64 l]).kept hb);have HB:=Qd (Zw hb);clear hb K1;go_wp2_with fail;go_ret2;exact⟨by rw[F2.out.1,F2.out.2];rfl,Y9 HB.out (Xa _) _ _⟩
end Go.Proofs.YtdaflmjfeoacaaaGreat
