/- Part of the proof of TopTry, TopSplit: NumV, NumW, NumX, NumY. Conditions: none. -/
import Derived.Test.YtdaflmjfeoacaaaGreatZbam
set_option linter.all false
set_option maxHeartbeats 16000000
set_option maxRecDepth 4000
namespace Go.Proofs.YtdaflmjfeoacaaaGreat
open Tryz
open Go.RowKit
def Tri (w:World)(t:TypeId)(cs:Array Value)(t':TypeId)(cs':Array Value)(t2:TypeId)(cs2:Array Value)(W:World):Prop:=Box W w.heap.size t cs∧Box W (w.heap.size+1) t' cs'∧Box W (w.heap.size+1+1) t2 cs2∧Below w.heap.size w W
section
variable {w W W':World} {t t' t2:TypeId} {cs cs' cs2:Array Value}
theorem Tri.kept (H:Tri w t cs t' cs' t2 cs2 W)(hb:Below W.heap.size W W'):Tri w t cs t' cs' t2 cs2 W':=⟨H.1.kept hb,H.2.1.kept hb,H.2.2.1.kept hb,Ua H.2.2.2 hb H.2.2.2.size⟩
theorem Tri.new (w:World)(t:TypeId)(cs:Array Value)(t':TypeId)(cs':Array Value)(t2:TypeId)(cs2:Array Value):Tri w t cs t' cs' t2 cs2 (((w.alloc (.cells cs t)).alloc (.cells cs' t')).alloc (.cells cs2 t2)) :=
 ⟨((Box.new w _ _).alloc _).alloc _,(Box.at_ (by simp) _ _).alloc _,Box.at_ (by simp) _ _,(((Xb _ w).alloc (Xa _) _).alloc (by simp) _).alloc (by simp;omega) _⟩
theorem Tri.alloc (H:Tri w t cs t' cs' t2 cs2 W)(o:Obj):Tri w t cs t' cs' t2 cs2 (W.alloc o):=⟨H.1.alloc o,H.2.1.alloc o,H.2.2.1.alloc o,H.2.2.2.alloc H.2.2.2.size o⟩
theorem Duo.alloc (H:Duo w t cs t' cs' W)(o:Obj):Duo w t cs t' cs' (W.alloc o):=⟨H.1.alloc o,H.2.1.alloc o,H.2.2.alloc H.2.2.size o⟩
end
theorem Usi {v:V3}{w:World}{g:Nat}{t:TypeId}(h:Box w g t v.cells):Ujv g 0 v.list w:=by
 intro i hi;have hi:i<3:=hi;rcases (show i=0∨i=1∨i=2 by omega) with rfl|rfl|rfl
 ·exact h.cell 0
 ·exact h.cell 1
 ·exact h.cell 2
theorem Usj {v:V4}{w:World}{g:Nat}{t:TypeId}(h:Box w g t v.cells):Ujv g 0 v.list w:=by
 intro i hi;have hi:i<4:=hi;rcases (show i=0∨i=1∨i=2∨i=3 by omega) with rfl|rfl|rfl|rfl
 ·exact h.cell 0
 ·exact h.cell 1
 ·exact h.cell 2
 ·exact h.cell 3
theorem Uhj (a:V3)(b:V3)(w:World):Calls prog 130 #[v3 a,v3 b] w (Ub (.tuple #[v3 (Uev a b).1,.bool (Uev a b).2]) w):=by
 have KE:Hid (∀W,Tri w 24 a.cells 24 b.cells 24 #[.int .i64 0,.int .i64 0,.int .i64 0] W→Calls prog 158 #[.func (.func 159) #[] #[.pointer (some ⟨w.heap.size,0,none⟩),.pointer (some ⟨w.heap.size+1,0,none⟩)]] W (Ub (.tuple #[v3 (Uev a b).1,.bool (Uev a b).2]) W)) :=
  Qd (fun W H=>Uqc (fun i=>Ueh (a.at i) (b.at i)) W (fun i hi w' hb=>Uyz hi (H.1.kept hb) (H.2.1.kept hb)))
 generalize Uev a b=r at *;obtain⟨⟨x,y,z⟩,d⟩:=r;obtain⟨a1,a2,a3⟩:=a;obtain⟨b1,b2,b3⟩:=b;dsimp only[v3,V3.cells] at KE ⊢;go_enter func130,ntmps130;go_wp2_with fail;refine Y7 fun W hW=>?_
 have H:=Qd (Tri.new w 24 #[.int .i64 a1,.int .i64 a2,.int .i64 a3] 24 #[.int .i64 b1,.int .i64 b2,.int .i64 b3] 24 #[.int .i64 0,.int .i64 0,.int .i64 0]);rw[←hW] at H;clear hW;refine(KE.out W H.out).mono ?_;rintro e w1 ⟨rfl,hb⟩;have H2:=Qd (H.out.kept hb);clear hb H KE;obtain⟨c1,c2,c3,c4,c5,c6⟩:=Ubz H2.out.2.2.1;go_wp2_with fail;exact Xk (Ud results130 _ _ (w.heap.size+1+1) 24 _ (0,0) _ rfl (set3 H2.out.2.2.1 _ _ _) underlying24 rfl Za) rfl ⟨rfl,Yd H2.out.2.2.2 (show _≤w.heap.size+1+1 by omega) _ _ _⟩
theorem Udz (a:V3)(b:Int)(w:World):Calls prog 153 #[v3 a,.int .i64 b] w (Ub (.tuple #[v3 (Zb a b).1,.bool (Zb a b).2]) w):=by
 have KE:Hid (∀W,Tri w 24 a.cells 3 #[.int .i64 b] 24 #[.int .i64 0,.int .i64 0,.int .i64 0] W→Calls prog 158 #[.func (.func 174) #[] #[.pointer (some ⟨w.heap.size,0,none⟩),.pointer (some ⟨w.heap.size+1,0,none⟩)]] W (Ub (.tuple #[v3 (Zb a b).1,.bool (Zb a b).2]) W)) :=
  Qd (fun W H=>Umk (fun i=>Up (a.at i) b) W (fun i hi w' hb=>Ush hi (H.1.kept hb) (H.2.1.kept hb)))
 generalize Zb a b=r at *;obtain⟨⟨x,y,z⟩,d⟩:=r;obtain⟨a1,a2,a3⟩:=a
 skip
 dsimp only[v3,V3.cells] at KE ⊢;go_enter func153,ntmps153;go_wp2_with fail;refine Y7 fun W hW=>?_
 have H:=Qd (Tri.new w 24 #[.int .i64 a1,.int .i64 a2,.int .i64 a3] 3 #[.int .i64 b] 24 #[.int .i64 0,.int .i64 0,.int .i64 0]);rw[←hW] at H;clear hW;refine(KE.out W H.out).mono ?_;rintro e w1 ⟨rfl,hb⟩;have H2:=Qd (H.out.kept hb);clear hb H KE;obtain⟨c1,c2,c3,c4,c5,c6⟩:=Ubz H2.out.2.2.1;go_wp2_with fail;exact Xk (Ud results153 _ _ (w.heap.size+1+1) 24 _ (0,0) _ rfl (set3 H2.out.2.2.1 _ _ _) underlying24 rfl Za) rfl ⟨rfl,Yd H2.out.2.2.2 (show _≤w.heap.size+1+1 by omega) _ _ _⟩
theorem Uy0 (a:V3)(w:World):Calls prog 204 #[v3 a] w (Ub (.tuple #[.int .i64 (Uok a).1,.bool (Uok a).2]) w):=by
 have KN:Hid (∀W,Box W w.heap.size 24 a.cells→Calls prog 70 #[.slice (some ⟨w.heap.size,0,none⟩) 3 3] W (Ub (.tuple #[.int .i64 (Uok a).1,.bool (Uok a).2]) W)) :=
  Qd (fun W H=>Uqb (g:=w.heap.size) (o:=0) (c:=3) (n:=3) a.list rfl (by omega) (by omega) H.lt (Usi H))
 generalize Uok a=r at *;obtain⟨n,d⟩:=r;obtain⟨a1,a2,a3⟩:=a;dsimp only[v3,V3.cells] at KN ⊢;go_enter func204,ntmps204;go_wp2_with fail;refine(KN.out _ (Box.new w _ _)).mono ?_;rintro e w1 ⟨rfl,hb⟩;have HB:=Qd (Zw hb);clear hb;go_wp2_with fail;go_ret2;exact⟨rfl,HB.out⟩
theorem Um3 (a:V3)(w:World):Calls prog 190 #[v3 a] w (Ub (.tuple #[v3 (Ub5 a).1,.bool (Ub5 a).2]) w):=by
 have KN:=Qd (fun w=>Uy0 a w);have KE:Hid (∀W g,Box W w.heap.size 24 a.cells→Box W g 3 #[.int .i64 (Uok a).1]→Calls prog 158 #[.func (.func 205) #[] #[.pointer (some ⟨w.heap.size,0,none⟩),.pointer (some ⟨g,0,none⟩)]] W (Ub (.tuple #[v3 (Ucx fun i=>Y5 (a.at i) (Uok a).1).1,.bool (Ucx fun i=>Y5 (a.at i) (Uok a).1).2]) W)) :=
  Qd (fun W g H H2=>Uop (fun i=>Y5 (a.at i) (Uok a).1) W (fun i hi w' hb=>Uv0 hi (H.kept hb) (H2.kept hb)))
 have F:Hid (Ub5 a=if (Uok a).1=0 then (⟨0,0,0⟩,true) else ((Ucx fun i=>Y5 (a.at i) (Uok a).1).1,(Uok a).2||(Ucx fun i=>Y5 (a.at i) (Uok a).1).2)):=Qd rfl;generalize Ub5 a=u at *;generalize (Ucx fun i=>Y5 (a.at i) (Uok a).1)=r at *;generalize Uok a=q at *;obtain⟨⟨x,y,z⟩,d⟩:=r;obtain⟨n,c⟩:=q;obtain⟨a1,a2,a3⟩:=a;dsimp only[v3,V3.cells] at KN KE F;by_cases h0:n=0
 ·have F2:Hid (u=(⟨0,0,0⟩,true)):=Qd (by rw[F.out,if_pos h0]);rw[F2.out];subst h0;clear F F2 KE;dsimp only[v3];have H0:=Qd (Duo.new w 24 #[.int .i64 a1,.int .i64 a2,.int .i64 a3] 24 #[.int .i64 0,.int .i64 0,.int .i64 0]);go_enter func190,ntmps190;go_wp2_with fail;refine(KN.out _).mono ?_;rintro e w1 ⟨rfl,hb⟩;have H1:=Qd ((H0.out.kept hb).alloc (.cells #[.int .i64 0] 3));clear hb KN;obtain⟨c1,c2,c3,c4,c5,c6⟩:=Ubz H1.out.2.1;go_wp2_with fail;exact Xk (Ud results190 _ _ (w.heap.size+1) 24 _ (0,0) _ rfl (set3 H1.out.2.1 _ _ _) underlying24 rfl Za) rfl ⟨rfl,Yd H1.out.2.2 (show _≤w.heap.size+1 by omega) _ _ _⟩
 ·have F2:Hid (u=(⟨x,y,z⟩,c||d)):=Qd (by rw[F.out,if_neg h0]);rw[F2.out];have e0:(n==0)=false:=by simp[h0]
  clear F F2 h0;dsimp only[v3];have H0:=Qd (Duo.new w 24 #[.int .i64 a1,.int .i64 a2,.int .i64 a3] 24 #[.int .i64 0,.int .i64 0,.int .i64 0]);cases c
  all_goals
   go_enter func190,ntmps190;go_wp2_with fail;refine(KN.out _).mono ?_;rintro e w1 ⟨rfl,hb⟩;have H1:=Qd ((H0.out.kept hb).alloc (.cells #[.int .i64 n] 3));clear hb KN;go_wp2_with fail;refine(KE.out _ _ H1.out.1 (Box.new _ _ _)).mono ?_;rintro e w2 ⟨rfl,hb⟩;have H2:=Qd ((H1.out.kept hb).alloc (.cells #[.int .i64 x,.int .i64 y,.int .i64 z] 24));clear hb KE;obtain⟨c1,c2,c3,c4,c5,c6⟩:=Ubz H2.out.2.1;go_wp2_with fail;exact Xk (Ud results190 _ _ (w.heap.size+1) 24 _ (0,0) _ rfl (set3 H2.out.2.1 _ _ _) underlying24 rfl Za) rfl ⟨by simp,Yd H2.out.2.2 (show _≤w.heap.size+1 by omega) _ _ _⟩
open Tryz
open Go.RowKit
theorem Usk {pa pb i j k:Nat}{aj ak bj bk nb n:Int}{c d:Bool}{w:World}(hi:i<3)(hj:j=(i+1) % 3)(hk:k=(i+2) % 3)(l1:pa<w.heap.size)(l2:pb<w.heap.size)
  (c1:w.cell? ⟨pa,j,none⟩=some (.int .i64 aj)) (c2:w.cell? ⟨pa,k,none⟩=some (.int .i64 ak)) (c3:w.cell? ⟨pb,j,none⟩=some (.int .i64 bj)) (c4:w.cell? ⟨pb,k,none⟩=some (.int .i64 bk))
  (KL:∀w,Calls prog 69 #[.int .i64 bj] w (fun e w'=>e = .returned (.tuple #[.int .i64 (Um bj),.bool c])∧w=w'))
  (KN:∀w,Calls prog 184 #[.int .i64 bj] w (fun e w'=>e = .returned (.int .i64 nb)∧w=w'))
  (KD:∀W gA gB,Box W gA 3 #[.int .i64 aj,.int .i64 ak]→Box W gB 3 #[.int .i64 bk,.int .i64 nb]→Calls prog 183 #[.slice (some ⟨gA,0,none⟩) 2 2,.slice (some ⟨gB,0,none⟩) 2 2] W (Ub (.tuple #[.int .i64 n,.bool d]) W)) :
  Calls prog 207 #[.int .i64 i,.pointer (some ⟨pb,0,none⟩),.pointer (some ⟨pa,0,none⟩)] w (Ub (.tuple #[.int .i64 n,.bool (c||d)]) w):=by
 have CE:Hid (∀W,Below w.heap.size w W→W.cell? ⟨pa,j,none⟩=some (.int .i64 aj)∧W.cell? ⟨pa,k,none⟩=some (.int .i64 ak)∧W.cell? ⟨pb,j,none⟩=some (.int .i64 bj)∧W.cell? ⟨pb,k,none⟩=some (.int .i64 bk)) :=
  Qd (fun W hb=>⟨(hb.cell (p:=⟨pa,j,none⟩) l1).trans c1,(hb.cell (p:=⟨pa,k,none⟩) l1).trans c2,(hb.cell (p:=⟨pb,j,none⟩) l2).trans c3,(hb.cell (p:=⟨pb,k,none⟩) l2).trans c4⟩)
 have HB0:Hid (Below w.heap.size w w.drew):=Qd (Ue (Xb _ w) 1);have HL:=Qd KL;have HN:=Qd KN;have HD:=Qd KD;clear KL KN KD;have j3:(j:Int)<3:=by omega
 have j0:(0:Int)≤j:=by omega
 have k3:(k:Int)<3:=by omega
 have k0:(0:Int)≤k:=by omega
 have i3:(i:Int)<3:=by omega
 have i0:(0:Int)≤i:=by omega
 have t1:Int.tmod ((i:Int)+1) 3=j:=by rw[Int.tmod_eq_emod_of_nonneg (by omega)];omega
 have t2:Int.tmod ((i:Int)+2) 3=k:=by rw[Int.tmod_eq_emod_of_nonneg (by omega)];omega
 have HJ:=Qd hj;have HK:=Qd hk;clear hj hk;go_enter func207,ntmps207;go_wp2_with fail;refine(HL.out _).mono ?_;rintro e w1 ⟨rfl,rfl⟩;go_upto_region 3 with fail
 go_region_held3 (fun w'=>w'.cell? ⟨pa,j,none⟩=some (.int .i64 aj)∧w'.cell? ⟨pa,k,none⟩=some (.int .i64 ak)∧w'.cell? ⟨pb,j,none⟩=some (.int .i64 bj)∧w'.cell? ⟨pb,k,none⟩=some (.int .i64 bk))
  (first|exact CE.out _ (Xb _ _)|exact CE.out _ HB0.out|exact CE.out _ (HB0.out.alloc (Xa _) _)|exact CE.out _ ((HB0.out.alloc (Xa _) _).alloc (by simp) _)|exact CE.out _ HB1.out)
  (first|(go_at_call 184;refine(HN.out _).mono ?_;rintro e w1 ⟨rfl,rfl⟩)|(go_at_call 183;refine(HD.out _ _ _ ?_ ?_).mono ?_;(first|exact((Box.new _ _ _).alloc _).drew|exact(Box.at_ (by simp) _ _).drew|exact(Box.new _ _ _).alloc _|exact Box.at_ (by simp) _ _);(first|exact((Box.new _ _ _).alloc _).drew|exact(Box.at_ (by simp) _ _).drew|exact(Box.new _ _ _).alloc _|exact Box.at_ (by simp) _ _);rintro e w1 ⟨rfl,hb1⟩;(first|(have HB1:=Qd (Ufm (Uv hb1)))|(have HB1:=Qd (HB0.out.trans (Ufm hb1))));clear hb1))
 all_goals
  rename_i hz;clear hz;cases c
  all_goals
   go_wp2_with fail;go_ret2;exact⟨by simp,HB1.out⟩
theorem U7k {x y:Int}{w:World}{g:Nat}{t:TypeId}(h:Box w g t #[.int .i64 x,.int .i64 y]):Ujv g 0 [x,y] w:=by
 intro i hi;have hi:i<2:=hi;rcases (show i=0∨i=1 by omega) with rfl|rfl
 ·exact h.cell 0
 ·exact h.cell 1
theorem Usl {pa pb i:Nat}{a b:V3}{w:World}(hi:i<3)(hA:Box w pa 24 a.cells)(hB:Box w pb 24 b.cells) :
  Calls prog 207 #[.int .i64 i,.pointer (some ⟨pb,0,none⟩),.pointer (some ⟨pa,0,none⟩)] w (Ub (.tuple #[.int .i64 (Ut7 a b i).1,.bool (Ut7 a b i).2]) w):=by
 have hj:(i+1) % 3<3:=Nat.mod_lt _ (by omega);have hk:(i+2) % 3<3:=Nat.mod_lt _ (by omega);exact Usk hi rfl rfl hA.lt hB.lt (V3.cell hA hj) (V3.cell hA hk) (V3.cell hB hj) (V3.cell hB hk) (fun w=>Yv _ w) (fun w=>Uhd _ w)
  (fun W gA gB h1 h2=>Uhi (ga:=gA) (gb:=gB) (oa:=0) (ob:=0) (n:=2) _ _ rfl rfl (by omega) (by omega) (by omega) h1.lt h2.lt (U7k h1) (U7k h2))
theorem Usm (a:V3)(b:V3)(w:World):Calls prog 191 #[v3 a,v3 b] w (Ub (.tuple #[v3 (Ubd a b).1,.bool (Ubd a b).2]) w):=by
 have KE:Hid (∀W,Tri w 24 a.cells 24 b.cells 24 #[.int .i64 0,.int .i64 0,.int .i64 0] W→Calls prog 158 #[.func (.func 207) #[] #[.pointer (some ⟨w.heap.size+1,0,none⟩),.pointer (some ⟨w.heap.size,0,none⟩)]] W (Ub (.tuple #[v3 (Ubd a b).1,.bool (Ubd a b).2]) W)) :=
  Qd (fun W H=>Uml (fun i=>Ut7 a b i) W (fun i hi w' hb=>Usl hi (H.1.kept hb) (H.2.1.kept hb)))
 generalize Ubd a b=r at *;obtain⟨⟨x,y,z⟩,d⟩:=r;obtain⟨a1,a2,a3⟩:=a;obtain⟨b1,b2,b3⟩:=b;dsimp only[v3,V3.cells] at KE ⊢;go_enter func191,ntmps191;go_wp2_with fail;refine Y7 fun W hW=>?_
 have H:=Qd (Tri.new w 24 #[.int .i64 a1,.int .i64 a2,.int .i64 a3] 24 #[.int .i64 b1,.int .i64 b2,.int .i64 b3] 24 #[.int .i64 0,.int .i64 0,.int .i64 0]);rw[←hW] at H;clear hW;refine(KE.out W H.out).mono ?_;rintro e w1 ⟨rfl,hb⟩;have H2:=Qd (H.out.kept hb);clear hb H KE;obtain⟨c1,c2,c3,c4,c5,c6⟩:=Ubz H2.out.2.2.1;go_wp2_with fail;exact Xk (Ud results191 _ _ (w.heap.size+1+1) 24 _ (0,0) _ rfl (set3 H2.out.2.2.1 _ _ _) underlying24 rfl Za) rfl ⟨rfl,Yd H2.out.2.2.2 (show _≤w.heap.size+1+1 by omega) _ _ _⟩
theorem Ucm {α:Type}(l:List α)(p:α→Bool){k:Nat}(hk:k<l.length)(h:(l.take k).any p=false)(h2:p l[k]=false):(l.take (k+1)).any p=false:=by
 rw[List.take_succ_eq_append_getElem hk,List.any_append,h];simp[h2]
theorem Uhk {α:Type}(l:List α)(p:α→Bool){k:Nat}(hk:k<l.length)(h2:p l[k]=true):l.any p=true:=List.any_eq_true.2 ⟨_,List.getElem_mem hk,h2⟩
theorem Uy1 {g o c n:Nat}(l:List Int)(p:Int→Bool)(w:World)(hn:l.length=n)(hl:n≤1000)(hg:g<w.heap.size)(H:Ujv g o l w)(hC:∀x w',Calls prog 196 #[.int .i64 x] w' (Ub (.bool (p x)) w')) :
  Calls prog 100 #[.slice (some ⟨g,o,none⟩) n c,.func (.func 196) #[] #[]] w (fun e w'=>∃r:Int,e = .returned (.int .i64 r)∧decide (0≤r)=l.any p∧Below w.heap.size w w'):=by
 have HC:=Qd hC;have HN:=Qd hn;have HH:=Qd H;clear hC hn H;go_enter func100,ntmps100;go_wp2_with fail;go_loopw [8] (fun i wr=>∃k:Nat,k≤n∧i = .int .i64 (k:Int)∧Hid ((l.take k).any p=false∧Below w.heap.size w wr)) (fun i _=>n-(intOf i).toNat)
 case atStart=>exact⟨0,Nat.zero_le _,rfl,Qd ⟨rfl,Xb _ _⟩⟩
 case round =>
  obtain⟨k,hk,rfl,HB⟩:=hrel;by_cases hlt:k<n
  ·have hkl:k<l.length:=by rw[HN.out];exact hlt
   obtain⟨x,hx⟩:∃x,x=l[k]:=⟨_,rfl⟩;have c0:wr.cell? ⟨g,o+k,none⟩=some (.int .i64 x):=by
    have:=(HH.out.below HB.out.2 hg) k hkl;rw[show l.getD k 0=l[k] by simp[hkl],←hx] at this;exact this
   have HX:=Qd hx;have hki:(k:Int)<n:=by omega
   have hk0:(0:Int)≤k:=by omega
   clear hx;go_wp2_with fail;refine(HC.out x _).mono ?_;rintro e w1 ⟨rfl,hb⟩;have HB1:=Qd (Ua HB.out.2 hb HB.out.2.size);clear hb;obtain⟨b,hb⟩:∃b,p x=b:=⟨_,rfl⟩;rw[hb];have HPX:=Qd hb;clear hb;cases b
   ·go_wp2_with fail;go_roundw
    case rel=>exact⟨k+1,by omega,by simp,Qd ⟨Ucm l p hkl HB.out.1 (by rw[←HX.out];exact HPX.out),HB1.out⟩⟩
    case measure=>simp[intOf];omega
   ·go_wp2_with fail;go_ret;exact⟨k,rfl,by rw[Uhk l p hkl (by rw[←HX.out];exact HPX.out)];simp,HB1.out⟩
  ·obtain rfl:k=n:=by omega
   go_wp2_with fail;go_ret;exact⟨-1,rfl,by have:=HB.out.1;rw[←HN.out,List.take_length] at this;rw[this];rfl,HB.out.2⟩
theorem Uy2 {g o c n:Nat}(l:List Int)(p:Int→Bool)(w:World)(hn:l.length=n)(hl:n≤1000)(hg:g<w.heap.size)(H:Ujv g o l w)(hC:∀x w',Calls prog 196 #[.int .i64 x] w' (Ub (.bool (p x)) w')) :
  Calls prog 71 #[.slice (some ⟨g,o,none⟩) n c,.func (.func 196) #[] #[]] w (Ub (.bool (l.any p)) w):=by
 have K:=Qd (Uy1 (c:=c) l p w hn hl hg H hC);clear hC H hn;generalize l.any p=b at *;go_enter func71,ntmps71;go_wp2_with fail;refine K.out.mono ?_;rintro e w1 ⟨r,rfl,hr,hb⟩;have HB:=Qd hb;clear hb;go_wp2_with fail;go_ret;exact⟨rfl,HB.out⟩
theorem Uy3 {g o c n:Nat}(l:List Int)(p:Int→Bool)(w:World)(hn:l.length=n)(hl:n≤1000)(hg:g<w.heap.size)(H:Ujv g o l w)(hC:∀x w',Calls prog 72 #[.int .i64 x] w' (Ub (.bool (p x)) w')) :
  Calls prog 100 #[.slice (some ⟨g,o,none⟩) n c,.func (.func 72) #[] #[]] w (fun e w'=>∃r:Int,e = .returned (.int .i64 r)∧decide (0≤r)=l.any p∧Below w.heap.size w w'):=by
 have HC:=Qd hC;have HN:=Qd hn;have HH:=Qd H;clear hC hn H;go_enter func100,ntmps100;go_wp2_with fail;go_loopw [8] (fun i wr=>∃k:Nat,k≤n∧i = .int .i64 (k:Int)∧Hid ((l.take k).any p=false∧Below w.heap.size w wr)) (fun i _=>n-(intOf i).toNat)
 case atStart=>exact⟨0,Nat.zero_le _,rfl,Qd ⟨rfl,Xb _ _⟩⟩
 case round =>
  obtain⟨k,hk,rfl,HB⟩:=hrel;by_cases hlt:k<n
  ·have hkl:k<l.length:=by rw[HN.out];exact hlt
   obtain⟨x,hx⟩:∃x,x=l[k]:=⟨_,rfl⟩;have c0:wr.cell? ⟨g,o+k,none⟩=some (.int .i64 x):=by
    have:=(HH.out.below HB.out.2 hg) k hkl;rw[show l.getD k 0=l[k] by simp[hkl],←hx] at this;exact this
   have HX:=Qd hx;have hki:(k:Int)<n:=by omega
   have hk0:(0:Int)≤k:=by omega
   clear hx;go_wp2_with fail;refine(HC.out x _).mono ?_;rintro e w1 ⟨rfl,hb⟩;have HB1:=Qd (Ua HB.out.2 hb HB.out.2.size);clear hb;obtain⟨b,hb⟩:∃b,p x=b:=⟨_,rfl⟩;rw[hb];have HPX:=Qd hb;clear hb;cases b
   ·go_wp2_with fail;go_roundw
    case rel=>exact⟨k+1,by omega,by simp,Qd ⟨Ucm l p hkl HB.out.1 (by rw[←HX.out];exact HPX.out),HB1.out⟩⟩
    case measure=>simp[intOf];omega
   ·go_wp2_with fail;go_ret;exact⟨k,rfl,by rw[Uhk l p hkl (by rw[←HX.out];exact HPX.out)];simp,HB1.out⟩
  ·obtain rfl:k=n:=by omega
   go_wp2_with fail;go_ret;exact⟨-1,rfl,by have:=HB.out.1;rw[←HN.out,List.take_length] at this;rw[this];rfl,HB.out.2⟩
theorem Uy4 {g o c n:Nat}(l:List Int)(p:Int→Bool)(w:World)(hn:l.length=n)(hl:n≤1000)(hg:g<w.heap.size)(H:Ujv g o l w)(hC:∀x w',Calls prog 72 #[.int .i64 x] w' (Ub (.bool (p x)) w')) :
  Calls prog 71 #[.slice (some ⟨g,o,none⟩) n c,.func (.func 72) #[] #[]] w (Ub (.bool (l.any p)) w):=by
 have K:=Qd (Uy3 (c:=c) l p w hn hl hg H hC);clear hC H hn;generalize l.any p=b at *;go_enter func71,ntmps71;go_wp2_with fail;refine K.out.mono ?_;rintro e w1 ⟨r,rfl,hr,hb⟩;have HB:=Qd hb;clear hb;go_wp2_with fail;go_ret;exact⟨rfl,HB.out⟩
theorem Uy5 {g o c n:Nat}(l:List Int)(p:Int→Bool)(w:World)(hn:l.length=n)(hl:n≤1000)(hg:g<w.heap.size)(H:Ujv g o l w)(hC:∀x w',Calls prog 194 #[.int .i64 x] w' (Ub (.bool (p x)) w')) :
  Calls prog 100 #[.slice (some ⟨g,o,none⟩) n c,.func (.func 194) #[] #[]] w (fun e w'=>∃r:Int,e = .returned (.int .i64 r)∧decide (0≤r)=l.any p∧Below w.heap.size w w'):=by
 have HC:=Qd hC;have HN:=Qd hn;have HH:=Qd H;clear hC hn H;go_enter func100,ntmps100;go_wp2_with fail;go_loopw [8] (fun i wr=>∃k:Nat,k≤n∧i = .int .i64 (k:Int)∧Hid ((l.take k).any p=false∧Below w.heap.size w wr)) (fun i _=>n-(intOf i).toNat)
 case atStart=>exact⟨0,Nat.zero_le _,rfl,Qd ⟨rfl,Xb _ _⟩⟩
 case round =>
  obtain⟨k,hk,rfl,HB⟩:=hrel;by_cases hlt:k<n
  ·have hkl:k<l.length:=by rw[HN.out];exact hlt
   obtain⟨x,hx⟩:∃x,x=l[k]:=⟨_,rfl⟩;have c0:wr.cell? ⟨g,o+k,none⟩=some (.int .i64 x):=by
    have:=(HH.out.below HB.out.2 hg) k hkl;rw[show l.getD k 0=l[k] by simp[hkl],←hx] at this;exact this
   have HX:=Qd hx;have hki:(k:Int)<n:=by omega
   have hk0:(0:Int)≤k:=by omega
   clear hx;go_wp2_with fail;refine(HC.out x _).mono ?_;rintro e w1 ⟨rfl,hb⟩;have HB1:=Qd (Ua HB.out.2 hb HB.out.2.size);clear hb;obtain⟨b,hb⟩:∃b,p x=b:=⟨_,rfl⟩;rw[hb];have HPX:=Qd hb;clear hb;cases b
   ·go_wp2_with fail;go_roundw
    case rel=>exact⟨k+1,by omega,by simp,Qd ⟨Ucm l p hkl HB.out.1 (by rw[←HX.out];exact HPX.out),HB1.out⟩⟩
    case measure=>simp[intOf];omega
   ·go_wp2_with fail;go_ret;exact⟨k,rfl,by rw[Uhk l p hkl (by rw[←HX.out];exact HPX.out)];simp,HB1.out⟩
  ·obtain rfl:k=n:=by omega
   go_wp2_with fail;go_ret;exact⟨-1,rfl,by have:=HB.out.1;rw[←HN.out,List.take_length] at this;rw[this];rfl,HB.out.2⟩
theorem Uy6 {g o c n:Nat}(l:List Int)(p:Int→Bool)(w:World)(hn:l.length=n)(hl:n≤1000)(hg:g<w.heap.size)(H:Ujv g o l w)(hC:∀x w',Calls prog 194 #[.int .i64 x] w' (Ub (.bool (p x)) w')) :
  Calls prog 71 #[.slice (some ⟨g,o,none⟩) n c,.func (.func 194) #[] #[]] w (Ub (.bool (l.any p)) w):=by
 have K:=Qd (Uy5 (c:=c) l p w hn hl hg H hC);clear hC H hn;generalize l.any p=b at *;go_enter func71,ntmps71;go_wp2_with fail;refine K.out.mono ?_;rintro e w1 ⟨r,rfl,hr,hb⟩;have HB:=Qd hb;clear hb;go_wp2_with fail;go_ret;exact⟨rfl,HB.out⟩
theorem Uy7 {g o c n:Nat}(bd:Array Value)(l:List Int)(p:Int→Bool)(w:World)(hn:l.length=n)(hl:n≤1000)(hg:g<w.heap.size)(H:Ujv g o l w)(hC:∀x w',Calls prog 155 #[.agg bd,.int .i64 x] w' (Ub (.bool (p x)) w')) :
  Calls prog 100 #[.slice (some ⟨g,o,none⟩) n c,.func (.func 155) #[.agg bd] #[]] w (fun e w'=>∃r:Int,e = .returned (.int .i64 r)∧decide (0≤r)=l.any p∧Below w.heap.size w w'):=by
 have HC:=Qd hC;have HN:=Qd hn;have HH:=Qd H;clear hC hn H;go_enter func100,ntmps100;go_wp2_with fail;go_loopw [8] (fun i wr=>∃k:Nat,k≤n∧i = .int .i64 (k:Int)∧Hid ((l.take k).any p=false∧Below w.heap.size w wr)) (fun i _=>n-(intOf i).toNat)
 case atStart=>exact⟨0,Nat.zero_le _,rfl,Qd ⟨rfl,Xb _ _⟩⟩
 case round =>
  obtain⟨k,hk,rfl,HB⟩:=hrel;by_cases hlt:k<n
  ·have hkl:k<l.length:=by rw[HN.out];exact hlt
   obtain⟨x,hx⟩:∃x,x=l[k]:=⟨_,rfl⟩;have c0:wr.cell? ⟨g,o+k,none⟩=some (.int .i64 x):=by
    have:=(HH.out.below HB.out.2 hg) k hkl;rw[show l.getD k 0=l[k] by simp[hkl],←hx] at this;exact this
   have HX:=Qd hx;have hki:(k:Int)<n:=by omega
   have hk0:(0:Int)≤k:=by omega
   clear hx;go_wp2_with fail;refine(HC.out x _).mono ?_;rintro e w1 ⟨rfl,hb⟩;have HB1:=Qd (Ua HB.out.2 hb HB.out.2.size);clear hb;obtain⟨b,hb⟩:∃b,p x=b:=⟨_,rfl⟩;rw[hb];have HPX:=Qd hb;clear hb;cases b
   ·go_wp2_with fail;go_roundw
    case rel=>exact⟨k+1,by omega,by simp,Qd ⟨Ucm l p hkl HB.out.1 (by rw[←HX.out];exact HPX.out),HB1.out⟩⟩
    case measure=>simp[intOf];omega
   ·go_wp2_with fail;go_ret;exact⟨k,rfl,by rw[Uhk l p hkl (by rw[←HX.out];exact HPX.out)];simp,HB1.out⟩
  ·obtain rfl:k=n:=by omega
   go_wp2_with fail;go_ret;exact⟨-1,rfl,by have:=HB.out.1;rw[←HN.out,List.take_length] at this;rw[this];rfl,HB.out.2⟩
theorem Uy8 {g o c n:Nat}(bd:Array Value)(l:List Int)(p:Int→Bool)(w:World)(hn:l.length=n)(hl:n≤1000)(hg:g<w.heap.size)(H:Ujv g o l w)(hC:∀x w',Calls prog 155 #[.agg bd,.int .i64 x] w' (Ub (.bool (p x)) w')) :
  Calls prog 71 #[.slice (some ⟨g,o,none⟩) n c,.func (.func 155) #[.agg bd] #[]] w (Ub (.bool (l.any p)) w):=by
 have K:=Qd (Uy7 (c:=c) bd l p w hn hl hg H hC);clear hC H hn;generalize l.any p=b at *;go_enter func71,ntmps71;go_wp2_with fail;refine K.out.mono ?_;rintro e w1 ⟨r,rfl,hr,hb⟩;have HB:=Qd hb;clear hb;go_wp2_with fail;go_ret;exact⟨rfl,HB.out⟩
theorem Umm (x:Int)(w:World):Calls prog 196 #[.int .i64 x] w (Ub (.bool (chg x)) w):=by
 have KL:=Qd (fun w=>Yv x w);generalize Um x=b at *;generalize chg x=c at *;go_enter func196,ntmps196;go_wp2_with fail;refine(KL.out _).mono ?_;rintro e w1 ⟨rfl,rfl⟩;go_wp2_with fail;go_ret;exact⟨rfl,Xb _ _⟩
theorem Uoq (x:Int)(w:World):Calls prog 72 #[.int .i64 x] w (Ub (.bool (chg x)) w):=by
 have KL:=Qd (fun w=>Yv x w);generalize Um x=b at *;generalize chg x=c at *;go_enter func72,ntmps72;go_wp2_with fail;refine(KL.out _).mono ?_;rintro e w1 ⟨rfl,rfl⟩;go_wp2_with fail;go_ret;exact⟨rfl,Xb _ _⟩
theorem Uge (x:Int)(w:World):Calls prog 176 #[.int .i64 x] w (Ub (.bool (!chg x)) w):=by
 have KL:=Qd (fun w=>Yv x w);generalize Um x=b at *;generalize chg x=c at *;go_enter func176,ntmps176;go_wp2_with fail;refine(KL.out _).mono ?_;rintro e w1 ⟨rfl,rfl⟩;go_wp2_with fail;go_ret;exact⟨rfl,Xb _ _⟩
theorem Uor (x:Int)(w:World):Calls prog 194 #[.int .i64 x] w (Ub (.bool (chg x)) w):=by
 have KL:=Qd (fun w=>Uge x w);generalize chg x=c at *;go_enter func194,ntmps194;go_wp2_with fail;refine(KL.out _).mono ?_;rintro e w1 ⟨rfl,hb⟩;have HB:=Qd hb;clear hb;go_wp2_with fail;go_ret;exact⟨by simp,HB.out⟩
theorem Uhl {g o c n:Nat}(l:List Int)(w:World)(hn:l.length=n)(hl:n≤1000)(hg:g<w.heap.size)(H:Ujv g o l w):Calls prog 182 #[.slice (some ⟨g,o,none⟩) n c] w (Ub (.bool (Ua3 l)) w):=by
 have K:Hid (Calls prog 71 #[.slice (some ⟨g,o,none⟩) n c,.func (.func 196) #[] #[]] w (Ub (.bool (Ua3 l)) w)):=Qd (Uy2 l chg w hn hl hg H Umm);generalize Ua3 l=b at *;clear H hn;go_enter func182,ntmps182;go_wp2_with fail;refine K.out.mono ?_;rintro e w1 ⟨rfl,hb⟩;have HB:=Qd hb;clear hb;go_wp2_with fail;go_ret;exact⟨rfl,HB.out⟩
theorem Ub6 {g o c n:Nat}(l:List Int)(w:World)(hn:l.length=n)(hl:n≤1000)(hg:g<w.heap.size)(H:Ujv g o l w):Calls prog 45 #[.slice (some ⟨g,o,none⟩) n c] w (Ub (.bool (!Ua3 l)) w):=by
 have K:Hid (Calls prog 71 #[.slice (some ⟨g,o,none⟩) n c,.func (.func 72) #[] #[]] w (Ub (.bool (Ua3 l)) w)):=Qd (Uy4 l chg w hn hl hg H Uoq);generalize Ua3 l=b at *;clear H hn;go_enter func45,ntmps45;go_wp2_with fail;refine K.out.mono ?_;rintro e w1 ⟨rfl,hb⟩;have HB:=Qd hb;clear hb;go_wp2_with fail;go_ret;exact⟨rfl,HB.out⟩
theorem Uos (a b c d:Int)(w:World):Calls prog 177 #[.agg #[.int .i64 a,.int .i64 b,.int .i64 c,.int .i64 d]] w (Ub (.int .i64 a) w):=by
 go_enter func177,ntmps177;go_wp2_with fail;go_ret;exact⟨rfl,(Xb _ w).alloc (Xa _) _⟩
theorem Usn (a b c d:Int)(w:World):Calls prog 179 #[.agg #[.int .i64 a,.int .i64 b,.int .i64 c,.int .i64 d]] w (Ub (.int .i64 b) w):=by
 go_enter func179,ntmps179;go_wp2_with fail;go_ret;exact⟨rfl,(Xb _ w).alloc (Xa _) _⟩
theorem Uso (a b c d:Int)(w:World):Calls prog 180 #[.agg #[.int .i64 a,.int .i64 b,.int .i64 c,.int .i64 d]] w (Ub (.int .i64 c) w):=by
 go_enter func180,ntmps180;go_wp2_with fail;go_ret;exact⟨rfl,(Xb _ w).alloc (Xa _) _⟩
theorem Usp (a b c d:Int)(w:World):Calls prog 181 #[.agg #[.int .i64 a,.int .i64 b,.int .i64 c,.int .i64 d]] w (Ub (.int .i64 d) w):=by
 go_enter func181,ntmps181;go_wp2_with fail;go_ret;exact⟨rfl,(Xb _ w).alloc (Xa _) _⟩
theorem Uv1 (w:World):Calls prog 178 #[.func (.func 179) #[] #[]] w (fun e w'=>e = .returned (.func (.func 195) #[] #[.pointer (some ⟨w.heap.size,0,none⟩)])∧w.alloc (.cells #[.func (.func 179) #[] #[]] 257)=w'):=by
 go_enter func178,ntmps178;go_wp2_with fail;go_ret;exact⟨rfl,rfl⟩
theorem Uk6 {g:Nat}(a b c d:Int)(w:World)(h:w.cell? ⟨g,0,none⟩=some (.func (.func 179) #[] #[])):Calls prog 195 #[.agg #[.int .i64 a,.int .i64 b,.int .i64 c,.int .i64 d],.pointer (some ⟨g,0,none⟩)] w (Ub (.int .i64 (Uem b)) w):=by
 have K:=Qd (fun w=>Usn a b c d w);have KN:=Qd (fun w=>Uhd b w);generalize Uem b=r at *;have hl:=Uga h;have hne:g≠w.heap.size:=by omega
 go_enter func195,ntmps195;go_wp2_with fail;refine(K.out _).mono ?_;rintro e w1 ⟨rfl,hb⟩;have HB:=Qd (Zw hb);clear hb;go_wp2_with fail;refine(KN.out _).mono ?_;rintro e w1 ⟨rfl,rfl⟩;go_wp2_with fail;go_ret;exact⟨rfl,HB.out⟩
theorem Uv2 (w:World):Calls prog 178 #[.func (.func 180) #[] #[]] w (fun e w'=>e = .returned (.func (.func 195) #[] #[.pointer (some ⟨w.heap.size,0,none⟩)])∧w.alloc (.cells #[.func (.func 180) #[] #[]] 257)=w'):=by
 go_enter func178,ntmps178;go_wp2_with fail;go_ret;exact⟨rfl,rfl⟩
theorem Uk7 {g:Nat}(a b c d:Int)(w:World)(h:w.cell? ⟨g,0,none⟩=some (.func (.func 180) #[] #[])):Calls prog 195 #[.agg #[.int .i64 a,.int .i64 b,.int .i64 c,.int .i64 d],.pointer (some ⟨g,0,none⟩)] w (Ub (.int .i64 (Uem c)) w):=by
 have K:=Qd (fun w=>Uso a b c d w);have KN:=Qd (fun w=>Uhd c w);generalize Uem c=r at *;have hl:=Uga h;have hne:g≠w.heap.size:=by omega
 go_enter func195,ntmps195;go_wp2_with fail;refine(K.out _).mono ?_;rintro e w1 ⟨rfl,hb⟩;have HB:=Qd (Zw hb);clear hb;go_wp2_with fail;refine(KN.out _).mono ?_;rintro e w1 ⟨rfl,rfl⟩;go_wp2_with fail;go_ret;exact⟨rfl,HB.out⟩
theorem Uv3 (w:World):Calls prog 178 #[.func (.func 181) #[] #[]] w (fun e w'=>e = .returned (.func (.func 195) #[] #[.pointer (some ⟨w.heap.size,0,none⟩)])∧w.alloc (.cells #[.func (.func 181) #[] #[]] 257)=w'):=by
 go_enter func178,ntmps178;go_wp2_with fail;go_ret;exact⟨rfl,rfl⟩
theorem Uk8 {g:Nat}(a b c d:Int)(w:World)(h:w.cell? ⟨g,0,none⟩=some (.func (.func 181) #[] #[])):Calls prog 195 #[.agg #[.int .i64 a,.int .i64 b,.int .i64 c,.int .i64 d],.pointer (some ⟨g,0,none⟩)] w (Ub (.int .i64 (Uem d)) w):=by
 have K:=Qd (fun w=>Usp a b c d w);have KN:=Qd (fun w=>Uhd d w);generalize Uem d=r at *;have hl:=Uga h;have hne:g≠w.heap.size:=by omega
 go_enter func195,ntmps195;go_wp2_with fail;refine(K.out _).mono ?_;rintro e w1 ⟨rfl,hb⟩;have HB:=Qd (Zw hb);clear hb;go_wp2_with fail;refine(KN.out _).mono ?_;rintro e w1 ⟨rfl,rfl⟩;go_wp2_with fail;go_ret;exact⟨rfl,HB.out⟩
theorem Uk9 (w:World):Calls prog 73 #[] w (Ub (v4 U4b) w):=by
 go_enter func73,ntmps73;go_wp2_with fail;exact Xk (results_cell_row results73 _ _ w.heap.size 38 _ (0,0) _ rfl (Box.new w _ _) underlying38 rfl Ugd) rfl ⟨rfl,(Xb _ w).alloc (Xa _) _⟩
theorem Um4 (a:V4)(w:World):Calls prog 44 #[v4 a] w (Ub (.tuple #[.int .i64 (Zv a).1,.bool (Zv a).2]) w):=by
 have KN:Hid (∀W,Box W w.heap.size 38 a.cells→Calls prog 70 #[.slice (some ⟨w.heap.size,0,none⟩) 4 4] W (Ub (.tuple #[.int .i64 (Zv a).1,.bool (Zv a).2]) W)) :=
  Qd (fun W H=>Uqb (g:=w.heap.size) (o:=0) (c:=4) (n:=4) a.list rfl (by omega) (by omega) H.lt (Usj H))
 generalize Zv a=r at *;obtain⟨n,d⟩:=r;obtain⟨a1,a2,a3,a4⟩:=a;dsimp only[v4,V4.cells] at KN ⊢;go_enter func44,ntmps44;go_wp2_with fail;refine(KN.out _ (Box.new w _ _)).mono ?_;rintro e w1 ⟨rfl,hb⟩;have HB:=Qd (Zw hb);clear hb;go_wp2_with fail;go_ret2;exact⟨rfl,HB.out⟩
end Go.Proofs.YtdaflmjfeoacaaaGreat
