/- Part of the proof of TopTry, TopSplit: NumD. Conditions: none. -/
import Derived.Test.YtdaflmjfeoacaaaGreatZbae
import Derived.Test.YtdaflmjfeoacaaaGreatZbaf
set_option linter.all false
set_option maxHeartbeats 16000000
set_option maxRecDepth 4000
namespace Go.Proofs.YtdaflmjfeoacaaaGreat
open Tryz
open Go.RowKit
theorem Ud {P:Program}{fn:Func}{p q:Tmp}{ty:TypeId}(h:fn.results=#[.cell p ty,.tmp q])(tmps:Array Value)(w:World)(g:Nat)(t:TypeId)(cs:Array Value)(fr:Nat×Nat)(d:TypeDesc)
  (hp:tmps.getD p undef = .pointer (some ⟨g,0,none⟩)) (hg:w.heap[g]? = some (.cells cs t fr))
  (hu:P.underlying ty=some d) (hd:(match d with | .struct _ | .array _ _=>true|_=>false)=true) (hi:(P.info? ty).map (·.size)=some cs.size) :
  (results fn tmps).run P w = .ok (.tuple #[.agg cs,tmps.getD q undef]) w:=by
 have hp':tmps[p]?.getD undef = .pointer (some ⟨g,0,none⟩):=by simpa using hp
 simp[results,h,hp',asAddr,run_loadVar_row w g t ty cs fr d hg hu hd hi]
def wv (h l:Int):Value := .agg #[.int .i64 h,.int .i64 l]
structure Wok (h l:Int):Prop where
 a:0≤l
 b:l≤4611686018427387903
 c : -2305843009213693952≤h
 d:h<2305843009213693952
theorem Ul9 {w:World}{g:Nat}{t:TypeId}{x y:Value}(h:Box w g t #[x,y]):w.cell? ⟨g,0,none⟩=some x∧w.cell? ⟨g,1,none⟩=some y∧w.frozen? ⟨g,0,none⟩=false∧w.frozen? ⟨g,1,none⟩=false :=
 ⟨h.cell 0,h.cell 1,h.frozen 0,h.frozen 1⟩
def Ub (v:Value)(w:World)(e:Ending)(w':World):Prop:=e = .returned v∧Below w.heap.size w w'
theorem set2 {w1:World}{g:Nat}{t:TypeId}{x y:Value}(hB:Box w1 g t #[x,y])(u v:Value):Box ((w1.setCell ⟨g,0,none⟩ u).setCell ⟨g,1,none⟩ v) g t #[u,v]:=(hB.set_ 0 u).set_ 1 v
theorem Y9 {w w1:World}(hb:Below w.heap.size w w1){g:Nat}(hg:w.heap.size≤g)(u v:Value):Below w.heap.size w ((w1.setCell ⟨g,0,none⟩ u).setCell ⟨g,1,none⟩ v):=(hb.setCell hg u).setCell hg v
theorem Ufm {w w1:World}{o o':Obj}(hb:Below ((w.alloc o).alloc o').heap.size ((w.alloc o).alloc o') w1):Below w.heap.size w w1 :=
 (((Xb _ w).alloc (Xa _) _).alloc (by simp) _).trans (hb.mono (by simp;omega))
theorem Zw {w w1:World}{o:Obj}(hb:Below (w.alloc o).heap.size (w.alloc o) w1):Below w.heap.size w w1 :=
 ((Xb _ w).alloc (Xa _) _).trans (hb.mono (by simp))
theorem Uao:(prog.info? 172).map (·.size)=some 2:=by kernel_rfl
theorem Uik {h l:Int}(hk:Wok h l)(w:World):Calls prog 117 #[wv h l] w (Zj true w):=by
 obtain⟨h1,h2,h3,h4⟩:=hk;unfold wv;go_enter func117,ntmps117;go_wp2;go_ret;exact⟨rfl,(Xb _ w).alloc (Xa _) _⟩
theorem Ua8 {h l:Int}(hk:Wok h l)(w:World):Calls prog 146 #[wv h l] w (Ub (wv h l) w):=by
 have S:=Qd (fun w=>Uik hk w);unfold wv at S ⊢;clear hk;go_enter func146,ntmps146;go_wp2_with fail;refine(S.out _).mono ?_;rintro e w1 ⟨rfl,hb⟩;obtain⟨c1,c2,c3,c4⟩:=Ul9 (((Box.new w 172 #[.int .i64 h,.int .i64 l]).alloc _).kept hb);have BX:=Qd ((Box.at_ (g:=w.heap.size+1) (by simp) 172 #[.int .i64 0,.int .i64 0]).kept hb);obtain⟨d1,d2,d3,d4⟩:=Ul9 BX.out;have HB:=Qd (Ufm hb);clear hb S;go_wp2;exact Xk (results_cell_row results146 _ _ (w.heap.size+1) 172 _ (0,0) _ rfl (set2 BX.out _ _) underlying172 rfl Uao) rfl ⟨rfl,Y9 HB.out (by omega) _ _⟩
theorem Uol {n:Int}(h1 : -9223372036854775808≤n)(h2:n≤9223372036854775807):IntKind.i64.wrap n=n:=by rw[Xf];omega
theorem Uk2 (n:Int):(BitVec.ofInt 64 n &&& BitVec.ofInt 64 4611686018427387903).toNat=(n % 4611686018427387904).toNat:=by
 have hb:(BitVec.ofInt 64 4611686018427387903).toNat=4611686018427387903:=rfl;rw[BitVec.toNat_and,hb,show(4611686018427387903:Nat)=2 ^ 62-1 from rfl,Nat.and_two_pow_sub_one_eq_mod,BitVec.toNat_ofInt];omega
theorem Uyo (n:Int):bits .and .i64 n 4611686018427387903=n % 4611686018427387904:=by
 show IntKind.i64.wrap (((BitVec.ofInt 64 n &&& BitVec.ofInt 64 4611686018427387903).toNat:Nat):Int)=_;rw[Uk2,Xf];omega
theorem Ut9 (n:Int):bits .and .u64 n 4611686018427387903=n % 4611686018427387904:=by
 show IntKind.u64.wrap (((BitVec.ofInt 64 n &&& BitVec.ofInt 64 4611686018427387903).toNat:Nat):Int)=_;rw[Uk2,Xg];omega
theorem U5b (n:Int)(h:I64 n):bits .xor .i64 (-1) n = -n-1:=by
 obtain⟨h1,h2⟩:=h;have e:(BitVec.ofInt 64 (-1) ^^^ BitVec.ofInt 64 n) = ~~~ (BitVec.ofInt 64 n):=by
  have:BitVec.ofInt 64 (-1)=BitVec.allOnes 64:=rfl;rw[this,BitVec.allOnes_xor]
 show IntKind.i64.wrap (((BitVec.ofInt 64 (-1) ^^^ BitVec.ofInt 64 n).toNat:Nat):Int)=_;rw[e,BitVec.toNat_not,BitVec.toNat_ofInt,Xf];omega
theorem U4c (i:Nat)(hi:i≤63){x b:Int}(hx:x % 2 ^ i=0)(hb:0≤b)(hb':b<2 ^ i):(BitVec.ofInt 64 x ||| BitVec.ofInt 64 b).toNat=((x+b) % 18446744073709551616).toNat:=by
 have hp:(2:Int) ^ i≤2 ^ 63:=by
  have:=Nat.pow_le_pow_right (show 1≤2 by omega) hi
  exact_mod_cast this
 have e1:(BitVec.ofInt 64 b).toNat=b.toNat:=by rw[BitVec.toNat_ofInt];omega
 obtain⟨k,hk⟩:∃k:Int,x=2 ^ i*k:=⟨x / 2 ^ i,by have:=Int.mul_ediv_add_emod x (2 ^ i);omega⟩;have hdv:(18446744073709551616:Int)=2 ^ i*2 ^ (64-i):=by
  rw[←Int.pow_add,show i+(64-i)=64 by omega];rfl
 have e2:((BitVec.ofInt 64 x).toNat:Int)=2 ^ i*(k % 2 ^ (64-i)):=by
  rw[BitVec.toNat_ofInt];have:x % (2 ^ 64:Nat)=2 ^ i*(k % 2 ^ (64-i)):=by
   rw[hk,show((2 ^ 64:Nat):Int)=2 ^ i*2 ^ (64-i) from hdv,Int.mul_emod_mul_of_pos _ _ (Int.pow_pos (by omega))]
  omega
 obtain⟨m,hm⟩:=Int.eq_ofNat_of_zero_le (show 0≤k % 2 ^ (64-i) from Int.emod_nonneg _ (by have:=Int.pow_pos (n:=2) (m:=64-i) (by omega);omega));have hml:k % 2 ^ (64-i)<2 ^ (64-i):=Int.emod_lt_of_pos _ (Int.pow_pos (by omega));rw[hm] at e2 hml;have e3:(BitVec.ofInt 64 x).toNat=2 ^ i*m:=by exact_mod_cast e2
 have hb2:b.toNat<2 ^ i:=by
  have:((b.toNat:Nat):Int)<((2 ^ i:Nat):Int):=by rw[Int.toNat_of_nonneg hb];exact_mod_cast hb'
  exact_mod_cast this
 rw[BitVec.toNat_or,e1,e3,←Nat.two_pow_add_eq_or_of_lt hb2];have hx':x % 18446744073709551616=2 ^ i*(m:Int):=by
  rw[hk,hdv,Int.mul_emod_mul_of_pos _ _ (Int.pow_pos (by omega)),hm]
 have hlt:2 ^ i*(m:Int)+b<18446744073709551616:=by
  have h1:2 ^ i*((m:Int)+1)≤2 ^ i*2 ^ (64-i):=Int.mul_le_mul_of_nonneg_left (by omega) (Int.le_of_lt (Int.pow_pos (by omega)));rw[←hdv,Int.mul_add,Int.mul_one] at h1;omega
 have hz:0≤2 ^ i*(m:Int):=Int.mul_nonneg (Int.le_of_lt (Int.pow_pos (by omega))) (by omega);have hs:(x+b) % 18446744073709551616=2 ^ i*(m:Int)+b:=by omega
 rw[hs];have:(((2 ^ i*m+b.toNat:Nat)):Int)=2 ^ i*(m:Int)+b:=by
  rw[Int.natCast_add,Int.toNat_of_nonneg hb];norm_cast
 omega
theorem U7d (i:Nat)(hi:i≤63){x b:Int}(hx:x % 2 ^ i=0)(hb:0≤b)(hb':b<2 ^ i):bits .or .i64 x b=IntKind.i64.wrap (x+b):=by
 show IntKind.i64.wrap (((BitVec.ofInt 64 x ||| BitVec.ofInt 64 b).toNat:Nat):Int)=_;rw[U4c i hi hx hb hb',Xf,Xf];omega
theorem U4d (i:Nat)(hi:i≤63){x b:Int}(hx:x % 2 ^ i=0)(hb:0≤b)(hb':b<2 ^ i):bits .or .u64 x b=IntKind.u64.wrap (x+b):=by
 show IntKind.u64.wrap (((BitVec.ofInt 64 x ||| BitVec.ofInt 64 b).toNat:Nat):Int)=_;rw[U4c i hi hx hb hb',Xg,Xg];omega
def wz (z:Int):Value:=wv (z / 4611686018427387904) (z % 4611686018427387904)
def Wz (z:Int):Prop := -10633823966279326983230456482242756608≤z∧z<10633823966279326983230456482242756608
theorem Wz.ok {z:Int}(h:Wz z):Wok (z / 4611686018427387904) (z % 4611686018427387904):=by
 unfold Wz at h;exact⟨by omega,by omega,by omega,by omega⟩
theorem Uyp (n:Int)(w:World):Calls prog 121 #[.int .i64 n] w (Ub (wz n) w):=by
 have H:=Uyo n;unfold wz wv;go_enter func121,ntmps121;go_wp2;exact Xk (results_cell_row results121 _ _ w.heap.size 172 _ (0,0) _ rfl (Box.new w _ _) underlying172 rfl Uao) rfl ⟨rfl,(Xb _ w).alloc (Xa _) _⟩
theorem Up7 {h l:Int}(hk:Wok h l)(w:World):Calls prog 149 #[wv h l] w (Ub (if l=0 then wv (-h) 0 else wv (-h-1) (4611686018427387904-l)) w):=by
 obtain⟨h1,h2,h3,h4⟩:=hk;have g1:=Uol (n := -h) (by omega) (by omega);have g2:=Uol (n:=4611686018427387904-l) (by omega) (by omega);have g3:=U5b h ⟨by omega,by omega⟩;unfold wv;by_cases h0:l=0;rotate_right
 focus
  rw[if_neg h0]
 rotate_right
 focus
  subst h0
 all_goals
  go_enter func149,ntmps149;go_wp2;exact Xk (results_cell_row results149 _ _ (w.heap.size+1) 172 _ (0,0) _ rfl (Box.at_ (by simp) _ _) underlying172 rfl Uao) rfl ⟨rfl,((Xb _ w).alloc (Xa _) _).alloc (by simp) _⟩
theorem U7e (z:Int):(if z % 4611686018427387904=0 then wv (-(z / 4611686018427387904)) 0 else wv (-(z / 4611686018427387904)-1) (4611686018427387904-z % 4611686018427387904))=wz (-z):=by
 unfold wz wv;split<;>congr 5<;>omega
theorem Uil (a:Int):0≤Uc5 a∧Uc5 a≤288230376151711744:=by
 have:=Uan a;unfold Uc5;split<;>omega
theorem Uvm (a:Int):(Um a<0)↔(a<0):=by unfold Um;split;omega;split<;>omega
theorem Uua (a b:Int):Uen a b=if decide (a<0) != decide (b<0) then -(Uc5 a*Uc5 b) else Uc5 a*Uc5 b:=by
 unfold Uen Uc5;by_cases h1:a<0<;>by_cases h2:b<0<;>simp[Uvm,h1,h2,Int.neg_mul,Int.mul_neg]
theorem Uom (a b:Int) : -83076749736557242056487941267521536≤Uen a b∧Uen a b≤83076749736557242056487941267521536:=by
 have h1:=Uil a;have h2:=Uil b;have h3:0≤Uc5 a*Uc5 b:=Int.mul_nonneg h1.1 h2.1;have h4:Uc5 a*Uc5 b≤288230376151711744*288230376151711744:=Int.mul_le_mul h1.2 h2.2 h2.1 (by omega);rw[Uua];split<;>omega
theorem Uyq (a b:Int):Wz (Uen a b):=by have:=Uom a b;unfold Wz;omega
theorem Udp (a b:Int)(w:World):Calls prog 119 #[.int .i64 a,.int .i64 b] w (Ub (wz (Uen a b)) w):=by
 have F:=Qd (Uua a b);have hx:=Uil a;have hy:=Uil b;go_enter func119,ntmps119;go_wp2_with fail;refine(Ufl a _).mono ?_;rintro e w1 ⟨rfl,rfl⟩;generalize Uc5 a=x at *;obtain⟨x,rfl⟩:=Int.eq_ofNat_of_zero_le hx.1;have ux:IntKind.u64.wrap (x:Int)=x:=by rw[Xg];omega
 go_wp2_with fail;refine(Ufl b _).mono ?_;rintro e w1 ⟨rfl,rfl⟩;generalize Uc5 b=y at *;obtain⟨y,rfl⟩:=Int.eq_ofNat_of_zero_le hy.1;have uy:IntKind.u64.wrap (y:Int)=y:=by rw[Xg];omega
 go_wp2_with fail;refine(Tryz.bits_Mul64 x y (by omega) (by omega) _).mono ?_;rintro e w1 ⟨rfl,rfl⟩;obtain⟨p,hp⟩:∃p,p=x*y:=⟨_,rfl⟩;have hpl:p≤83076749736557242056487941267521536:=by rw[hp];exact Nat.mul_le_mul (show x≤288230376151711744 by omega) (show y≤288230376151711744 by omega)
 have FP:Hid (Uen a b=if decide (a<0) != decide (b<0) then -(p:Int) else (p:Int)):=Qd (by rw[F.out,hp,Int.natCast_mul]);rw[←hp];clear hp F hx hy ux uy;obtain⟨U,hU⟩:∃U:Int,U=((p / 18446744073709551616:Nat):Int):=⟨_,rfl⟩;obtain⟨V,hV⟩:∃V:Int,V=((p % 18446744073709551616:Nat):Int):=⟨_,rfl⟩;have s1:IntKind.u64.wrap (U*4)=U*4:=by rw[Xg];omega
 have s2:bits .or .u64 (U*4) (V / 4611686018427387904)=(p:Int) / 4611686018427387904:=by
  rw[U4d 2 (by omega) (by omega) (by omega) (by omega),Xg];omega
 have s3:bits .and .u64 V 4611686018427387903=(p:Int) % 4611686018427387904:=by rw[Ut9];omega
 rw[←hU,←hV];have hk:Wok ((p:Int) / 4611686018427387904) ((p:Int) % 4611686018427387904):=⟨by omega,by omega,by omega,by omega⟩;have FN:Hid (∀c:Bool,c=true→wz (Uen a b)=_):=Qd (fun c hc=>rfl);have s4:IntKind.i64.wrap ((p:Int) / 4611686018427387904)=(p:Int) / 4611686018427387904:=by rw[Xf];omega
 have s5:IntKind.i64.wrap ((p:Int) % 4611686018427387904)=(p:Int) % 4611686018427387904:=by rw[Xf];omega
 have FZ:Hid (wz (Uen a b)=if decide (a<0) != decide (b<0) then (if (p:Int) % 4611686018427387904=0 then wv (-((p:Int) / 4611686018427387904)) 0 else wv (-((p:Int) / 4611686018427387904)-1) (4611686018427387904-(p:Int) % 4611686018427387904)) else wv ((p:Int) / 4611686018427387904) ((p:Int) % 4611686018427387904)):=Qd (by
  rw[FP.out,U7e];split<;>rfl)
 clear FN FP hU hV hpl;generalize wz (Uen a b)=Z at *;generalize (p:Int) / 4611686018427387904=H at *;generalize (p:Int) % 4611686018427387904=L at *;have HK:=Qd hk;clear hk;by_cases h1:a<0<;>by_cases h2:b<0
 ·have FF:Hid (wv H L=Z):=Qd (by rw[FZ.out];simp[h1,h2]);clear FZ;go_wp2_with fail;exact Xk (results_cell_row results119 _ _ w.heap.size 172 _ (0,0) _ rfl ((Box.new w _ _).alloc _) underlying172 rfl Uao) rfl ⟨by rw[←FF.out];rfl,((Xb _ w).alloc (Xa _) _).alloc (by simp) _⟩
 ·have FF:Hid ((if L=0 then wv (-H) 0 else wv (-H-1) (4611686018427387904-L))=Z):=Qd (by rw[FZ.out];simp[h1,h2]);clear FZ;have e2:decide (b<0)=false:=by simp;omega
  clear h2;go_wp2_with fail;refine(Up7 HK.out _).mono ?_;rintro e w1 ⟨rfl,hb⟩;have EX:∃x y,Z=wv x y:=by rw[←FF.out];split<;>exact⟨_,_,rfl⟩
  rw[FF.out];obtain⟨zx,zy,hz⟩:=EX;rw[hz];unfold wv;have BX:=Qd (((Box.new w 172 #[.int .i64 0,.int .i64 0]).alloc _).kept hb);obtain⟨d1,d2,d3,d4⟩:=Ul9 BX.out;have HB:=Qd (Ufm hb);clear hb FF;go_wp2_with fail;exact Xk (results_cell_row results119 _ _ w.heap.size 172 _ (0,0) _ rfl (set2 BX.out _ _) underlying172 rfl Uao) rfl ⟨by rw[hz];rfl,Y9 HB.out (Xa _) _ _⟩
 ·have FF:Hid ((if L=0 then wv (-H) 0 else wv (-H-1) (4611686018427387904-L))=Z):=Qd (by rw[FZ.out];simp[h1,h2]);clear FZ;have e1:decide (a<0)=false:=by simp;omega
  clear h1;go_wp2_with fail;refine(Up7 HK.out _).mono ?_;rintro e w1 ⟨rfl,hb⟩;have EX:∃x y,Z=wv x y:=by rw[←FF.out];split<;>exact⟨_,_,rfl⟩
  rw[FF.out];obtain⟨zx,zy,hz⟩:=EX;rw[hz];unfold wv;have BX:=Qd (((Box.new w 172 #[.int .i64 0,.int .i64 0]).alloc _).kept hb);obtain⟨d1,d2,d3,d4⟩:=Ul9 BX.out;have HB:=Qd (Ufm hb);clear hb FF;go_wp2_with fail;exact Xk (results_cell_row results119 _ _ w.heap.size 172 _ (0,0) _ rfl (set2 BX.out _ _) underlying172 rfl Uao) rfl ⟨by rw[hz];rfl,Y9 HB.out (Xa _) _ _⟩
 ·have FF:Hid (wv H L=Z):=Qd (by rw[FZ.out];simp[h1,h2]);clear FZ;have e1:decide (a<0)=false:=by simp;omega
  have e2:decide (b<0)=false:=by simp;omega
  clear h1 h2;go_wp2_with fail;exact Xk (results_cell_row results119 _ _ w.heap.size 172 _ (0,0) _ rfl ((Box.new w _ _).alloc _) underlying172 rfl Uao) rfl ⟨by rw[←FF.out];rfl,((Xb _ w).alloc (Xa _) _).alloc (by simp) _⟩
end Go.Proofs.YtdaflmjfeoacaaaGreat
