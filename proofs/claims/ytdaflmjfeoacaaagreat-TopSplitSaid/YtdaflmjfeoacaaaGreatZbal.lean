/- Part of the proof of TopTry, TopSplit: NumN, NumO, NumP, NumQ. Conditions: none. -/
import Derived.Test.YtdaflmjfeoacaaaGreatZbak
import Derived.WalkMore
import Derived.ScopeJumps
import Derived.RangeFuncNested
import Derived.RangeFuncBound
import Derived.RangeFuncCalls
import Derived.RangeFuncLeaves
import Derived.Shelf.Abstract
import Derived.Shelf.RegionOpen
import Derived.WalkKit
import Derived.OwnWalkIn
import Derived.TacticsInMore
import Derived.LoopNIn
import Derived.LoopIn
set_option linter.all false
set_option maxHeartbeats 16000000
set_option maxRecDepth 4000
namespace Go.Proofs.YtdaflmjfeoacaaaGreat
open Tryz
open Go.RowKit
def Uxt (z lo hi:Int):Prop:=∃f,hi-lo<2 ^ f∧bsN z f lo hi=Uat z∧0≤lo∧lo≤hi∧hi≤288230376151711744
theorem Uxt.start (z:Int):Uxt z 0 288230376151711744:=⟨59,by decide,rfl,by omega,by omega,by omega⟩
theorem Uxt.up {z lo hi mid:Int}(h:Uxt z lo hi)(hl:lo<hi)(hm:mid=hi-(hi-lo) / 2)(hz:mid*mid≤z):Uxt z mid hi:=by
 obtain⟨f,h1,h2,h3,h4,h5⟩:=h;cases f with
 | zero=>simp at h1;omega
 | succ f =>
  rw[Int.pow_succ] at h1;simp only[bsN] at h2;rw[if_pos hl,←hm,if_pos hz] at h2;exact⟨f,by omega,h2,by omega,by omega,h5⟩
theorem Uxt.down {z lo hi mid:Int}(h:Uxt z lo hi)(hl:lo<hi)(hm:mid=hi-(hi-lo) / 2)(hz:¬mid*mid≤z):Uxt z lo (mid-1):=by
 obtain⟨f,h1,h2,h3,h4,h5⟩:=h;cases f with
 | zero=>simp at h1;omega
 | succ f =>
  rw[Int.pow_succ] at h1;simp only[bsN] at h2;rw[if_pos hl,←hm,if_neg hz] at h2;exact⟨f,by omega,h2,by omega,by omega,by omega⟩
theorem Uxt.stop {z lo hi:Int}(h:Uxt z lo hi)(hl:¬lo<hi):lo=Uat z:=by
 obtain⟨f,h1,h2,h3,h4,h5⟩:=h;cases f with
 | zero=>exact h2
 | succ f =>
  simp only[bsN] at h2;rw[if_neg hl] at h2;exact h2
theorem Usc {n:Int}(h1:0≤n)(h2:n≤288230376151711744):Uen n n=n*n:=by
 unfold Uen;rw[Yq (by omega) h2]
theorem Uyv {x y:Int}:decide (Lib.compareInt x y≤0)=decide (x≤y):=by
 unfold Lib.compareInt;split
 ·simp;omega
 ·split
  ·simp;omega
  ·simp;omega
theorem Um1 {z:Int}(hz:Wz z)(w:World):Calls prog 96 #[wz z] w (Ub (.tuple #[.int .i64 (Ucd z).1,.bool (Ucd z).2]) w):=by
 have KS:=Qd (fun w=>Uik hz.ok w);have KC:=Qd (fun x (hx:Wz x) w=>U7g hx hz w);by_cases h0:z<0
 ·have F:Hid ((Ucd z).1=0∧(Ucd z).2=true):=Qd (by unfold Ucd;rw[if_pos h0];exact⟨rfl,rfl⟩);rw[F.out.1,F.out.2];unfold wz wv;have e1:decide (z / 4611686018427387904<0)=true:=by simp;omega
  unfold wv at KS;generalize z / 4611686018427387904=h at *;generalize z % 4611686018427387904=l at *;clear F KC h0 hz;go_enter func96,ntmps96;go_wp2_with fail;go_step3;go_wp2_with fail;refine(KS.out _).mono ?_;rintro e w1 ⟨rfl,hb⟩;have HB:=Qd (Zw hb);obtain⟨c1,c2,_,_⟩:=Ul9 ((Box.new w 172 #[.int .i64 h,.int .i64 l]).kept hb);clear hb;go_wp2_with fail;go_ret2;exact⟨rfl,HB.out⟩
 ·have FZ:=Qd hz;have F0:=Qd (show 0≤z by omega);obtain⟨h,l,e1,e2⟩:∃h l,wz z = .agg #[.int .i64 h,.int .i64 l]∧decide (h<0)=false:=⟨_,_,rfl,by simp;omega⟩;have e3:wv (z / 4611686018427387904) (z % 4611686018427387904) = .agg #[.int .i64 h,.int .i64 l]:=e1;rw[e1] at KC;rw[e3] at KS;rw[e1];clear e1 e3 h0 hz;go_enter func96,ntmps96;go_wp2_with fail;refine wp_scope_jumps 0 (fun a' w'=>Hid (At1 w (.int .i64 h) (.int .i64 l) w')∧∃(lo hi:Int) (u7 u8 u9 u10 u11 u12 u13 u14 u15 u16 u17 u18 u19 u20 u21 u22 u23 u24 u25 u26 u27 u28 u29 u30 u31 u32 u33 u34 u35 u36 u37 u38 u39 u40 u41 u42 u43 u44 u45 u46 u47 u48 u49 u50 u51 u52:Value),a'={ tmps:=#[.agg #[.int .i64 h,.int .i64 l],.pointer (some ⟨w.heap.size,0,none⟩),.int .i64 0,.bool false,.bool false,.int .i64 lo,.int .i64 hi,u7,u8,u9,u10,u11,u12,u13,u14,u15,u16,u17,u18,u19,u20,u21,u22,u23,u24,u25,u26,u27,u28,u29,u30,u31,u32,u33,u34,u35,u36,u37,u38,u39,u40,u41,u42,u43,u44,u45,u46,u47,u48,u49,u50,u51,u52],defers:=[] }∧Hid (Uxt z lo hi)) (fun a' _=>(intOf (a'.tmps.getD 6 undef)-intOf (a'.tmps.getD 5 undef)).toNat) rfl ?_ ?_
  ·go_wp2_with fail;refine(KS.out _).mono ?_;rintro e w1 ⟨rfl,hb⟩;have HB:Hid (At1 w (.int .i64 h) (.int .i64 l) w1):=Qd ⟨(Box.new w 172 #[.int .i64 h,.int .i64 l]).kept hb,Zw hb⟩;obtain⟨c1,c2⟩:=HB.out.cells;clear hb KS;have HR:=Qd (Uxt.start z);have FSQ:Hid ((144115188075855872:Int)*144115188075855872≤288230376151711744*288230376151711744):=Qd (by decide);go_wp2_with fail;go_step3;go_wp2_with fail;have KM:=Qd (fun w=>Udp 144115188075855872 144115188075855872 w);rw[Usc (n:=144115188075855872) (by omega) (by omega)] at KM;have KC2:=Qd (fun w=>KC.out (144115188075855872*144115188075855872) (by have:=FSQ.out;unfold Wz;omega) w);obtain⟨p,q,hpq⟩:∃p q,wz (144115188075855872*144115188075855872) = .agg #[.int .i64 p,.int .i64 q]:=⟨_,_,rfl⟩;rw[hpq] at KM KC2;obtain⟨b,hbb⟩:∃b,decide (144115188075855872*144115188075855872≤z)=b:=⟨_,rfl⟩;have HC:Hid (decide (Lib.compareInt (144115188075855872*144115188075855872) z≤0)=b):=Qd (by rw[Uyv];exact hbb);generalize Lib.compareInt (144115188075855872*144115188075855872) z=c at KC2 HC;have hc:=HC.out;have HBB:=Qd hbb;clear hpq hbb HC;go_region_held3 (fun w'=>w'.cell? ⟨w.heap.size,0,none⟩=some (.int .i64 h)∧w'.cell? ⟨w.heap.size,1,none⟩=some (.int .i64 l))
    (first|exact HB.out.cells|exact HB1.out.cells|exact HB2.out.cells)
    (first|(go_at_call 119;refine(KM.out _).mono ?_;rintro e w2 ⟨rfl,hb1⟩;have HB1:=Qd (HB.out.kept (Uv hb1));clear hb1)|(go_at_call 118;refine(KC2.out _).mono ?_;rintro e w3 ⟨rfl,hb2⟩;have HB2:=Qd (HB1.out.kept hb2);clear hb2))
   rename_i hz;clear hz;cases b
   ·go_wp2_with fail;go_step3;exact⟨rfl,HB2,_,_,_,_,_,_,_,_,_,_,_,_,_,_,_,_,_,_,_,_,_,_,_,_,_,_,_,_,_,_,_,_,_,_,_,_,_,_,_,_,_,_,_,_,_,_,_,_,rfl,Qd (HR.out.down (mid:=144115188075855872) (by decide) (by decide) (of_decide_eq_false HBB.out))⟩
   ·go_wp2_with fail;go_step3;exact⟨rfl,HB2,_,_,_,_,_,_,_,_,_,_,_,_,_,_,_,_,_,_,_,_,_,_,_,_,_,_,_,_,_,_,_,_,_,_,_,_,_,_,_,_,_,_,_,_,_,_,_,_,rfl,Qd (HR.out.up (by decide) (by decide) (of_decide_eq_true HBB.out))⟩
  ·rintro a' w' ⟨HB,lo,hi,u7,u8,u9,u10,u11,u12,u13,u14,u15,u16,u17,u18,u19,u20,u21,u22,u23,u24,u25,u26,u27,u28,u29,u30,u31,u32,u33,u34,u35,u36,u37,u38,u39,u40,u41,u42,u43,u44,u45,u46,u47,u48,u49,u50,u51,u52,rfl,HR⟩;obtain⟨c1,c2⟩:=HB.out.cells;have hr:0≤lo∧lo≤hi∧hi≤288230376151711744:=by obtain⟨f,_,_,a1,a2,a3⟩:=HR.out;exact⟨a1,a2,a3⟩
   obtain⟨r1,r2,r3⟩:=hr;by_cases hl:lo<hi
   ·obtain⟨E,hE⟩:∃E,E=hi-lo:=⟨_,rfl⟩;obtain⟨D,hD⟩:∃D,D=E / 2:=⟨_,rfl⟩;obtain⟨mid,hm⟩:∃mid,mid=hi-D:=⟨_,rfl⟩;have f1:wrap64 (hi-lo)=E:=by rw[←hE];exact IntWalk.wrap64_in _ (by omega)
    have f2:wrap64 (E.tdiv 2)=D:=by
     have:E.tdiv 2=D:=by rw[hD];exact Int.tdiv_eq_ediv_of_nonneg (by omega)
     rw[this];exact IntWalk.wrap64_in _ (by omega)
    have f3:wrap64 (hi-D)=mid:=by rw[←hm];exact IntWalk.wrap64_in _ (by omega)
    have f4:wrap64 (mid-1)=mid-1:=IntWalk.wrap64_in _ (by omega);have f5:IntKind.i64.wrap (mid-1)=mid-1:=by rw[Xf];omega
    have FM:Hid (mid=hi-(hi-lo) / 2∧lo<mid∧mid≤hi):=Qd ⟨by omega,by omega,by omega⟩;have FSQ:Hid (mid*mid≤288230376151711744*288230376151711744∧0≤mid*mid):=Qd ⟨Int.mul_le_mul (by omega) (by omega) (by omega) (by omega),Int.mul_nonneg (by omega) (by omega)⟩;have m1:0≤mid∧mid≤288230376151711744:=by omega
    obtain⟨m1,m2⟩:=m1;have HE:=Qd hE;clear hE hD hm r1 r2 r3;go_wp2_with fail;have KM:=Qd (fun w=>Udp mid mid w);rw[Usc (n:=mid) (by omega) (by omega)] at KM;have KC2:=Qd (fun w=>KC.out (mid*mid) (by have:=FSQ.out;unfold Wz;omega) w);obtain⟨p,q,hpq⟩:∃p q,wz (mid*mid) = .agg #[.int .i64 p,.int .i64 q]:=⟨_,_,rfl⟩;rw[hpq] at KM KC2;obtain⟨b,hbb⟩:∃b,decide (mid*mid≤z)=b:=⟨_,rfl⟩;have HC:Hid (decide (Lib.compareInt (mid*mid) z≤0)=b):=Qd (by rw[Uyv];exact hbb);generalize Lib.compareInt (mid*mid) z=c at KC2 HC;have hc:=HC.out;have HBB:=Qd hbb;clear hpq hbb HC;go_region_held3 (fun w'=>w'.cell? ⟨w.heap.size,0,none⟩=some (.int .i64 h)∧w'.cell? ⟨w.heap.size,1,none⟩=some (.int .i64 l))
     (first|exact HB.out.cells|exact HB1.out.cells|exact HB2.out.cells)
     (first|(go_at_call 119;refine(KM.out _).mono ?_;rintro e w2 ⟨rfl,hb1⟩;have HB1:=Qd (HB.out.kept (Uv hb1));clear hb1)|(go_at_call 118;refine(KC2.out _).mono ?_;rintro e w3 ⟨rfl,hb2⟩;have HB2:=Qd (HB1.out.kept hb2);clear hb2))
    rename_i hz;clear hz;cases b
    ·go_wp2_with fail;go_step3;refine⟨rfl,⟨HB2,_,_,_,_,_,_,_,_,_,_,_,_,_,_,_,_,_,_,_,_,_,_,_,_,_,_,_,_,_,_,_,_,_,_,_,_,_,_,_,_,_,_,_,_,_,_,_,_,rfl,Qd (HR.out.down hl FM.out.1 (of_decide_eq_false HBB.out))⟩,?_⟩;have:=FM.out;simp[intOf];omega
    ·go_wp2_with fail;go_step3;refine⟨rfl,⟨HB2,_,_,_,_,_,_,_,_,_,_,_,_,_,_,_,_,_,_,_,_,_,_,_,_,_,_,_,_,_,_,_,_,_,_,_,_,_,_,_,_,_,_,_,_,_,_,_,_,rfl,Qd (HR.out.up hl FM.out.1 (of_decide_eq_true HBB.out))⟩,?_⟩;have:=FM.out;simp[intOf];omega
   ·have e3:decide (lo<hi)=false:=by simp;omega
    have HL:=Qd (HR.out.stop hl)
    have FN:Hid ((Ucd z).1=lo∧(Ucd z).2=if lo<288230376151711744 then false else decide (lo*lo+576460752303423489≤z)):=Qd (by
     unfold Ucd;rw[if_neg (by have:=F0.out;omega),←HL.out];split<;>exact⟨rfl,rfl⟩)
    clear hl HR;by_cases hq:lo<288230376151711744
    ·have e4:decide (lo<288230376151711744)=true:=Xi hq;have FN2:Hid ((Ucd z).1=lo∧(Ucd z).2=false):=Qd (by have:=FN.out;rw[if_pos hq] at this;exact this);rw[FN2.out.1,FN2.out.2];clear FN FN2 r1 r2 r3 hq;go_wp2_with fail;simp only[Exit.jump];go_ret2;exact⟨rfl,HB.out.2⟩
    ·have e4:decide (lo<288230376151711744)=false:=Xh hq;obtain rfl:lo=288230376151711744:=by omega
     have FN2:Hid ((Ucd z).1=288230376151711744∧(Ucd z).2=decide (83076749736557242632948693570945025≤z)):=Qd (by have:=FN.out;rw[if_neg hq] at this;exact this);rw[FN2.out.1,FN2.out.2]
     have KM:Hid (∀w,Calls prog 119 #[.int .i64 288230376151711744,.int .i64 288230376151711744] w (Ub (wz 83076749736557242056487941267521536) w)):=Qd (fun w=>by
      have:=Udp 288230376151711744 288230376151711744 w;rw[Usc (by omega) (by omega)] at this
      exact this)
     have KO:=Qd (fun w=>Uyp 576460752303423489 w);have KA:Hid (∀w,Calls prog 120 #[wz 83076749736557242056487941267521536,wz 576460752303423489] w (Ub (.tuple #[wz 83076749736557242632948693570945025,.bool true]) w)) :=
      Qd (fun w=>Uys (x:=83076749736557242056487941267521536) (y:=576460752303423489) (by unfold Wz;omega) (by unfold Wz;omega) (by unfold Wz;omega) w)
     have KC2:=Qd (fun w=>KC.out 83076749736557242632948693570945025 (by unfold Wz;omega) w);obtain⟨p,q,hpq⟩:∃p q,wz 83076749736557242056487941267521536 = .agg #[.int .i64 p,.int .i64 q]:=⟨_,_,rfl⟩;obtain⟨p1,q1,hpq1⟩:∃p q,wz 576460752303423489 = .agg #[.int .i64 p,.int .i64 q]:=⟨_,_,rfl⟩;obtain⟨p2,q2,hpq2⟩:∃p q,wz 83076749736557242632948693570945025 = .agg #[.int .i64 p,.int .i64 q]:=⟨_,_,rfl⟩;rw[hpq] at KM KA;rw[hpq1] at KO KA;rw[hpq2] at KC2 KA;have HC:Hid (decide (Lib.compareInt 83076749736557242632948693570945025 z≤0)=decide (83076749736557242632948693570945025≤z)):=Qd Uyv;generalize Lib.compareInt 83076749736557242632948693570945025 z=c at KC2 HC;generalize decide (83076749736557242632948693570945025≤z)=b at HC;have hc:=HC.out;clear FN FN2 hpq hpq1 hpq2 HC r1 r2 r3 hq KC HL F0 FZ;go_wp2_with fail;refine(KM.out _).mono ?_;rintro e w2 ⟨rfl,hb⟩;have HB1:=Qd (HB.out.kept hb);clear hb;go_wp2_with fail;refine(KO.out _).mono ?_;rintro e w3 ⟨rfl,hb⟩;have HB2:=Qd (HB1.out.kept hb);clear hb;go_wp2_with fail;refine(KA.out _).mono ?_;rintro e w4 ⟨rfl,hb⟩;have HB3:=Qd (HB2.out.kept hb);have HB4:Hid (At1 w (.int .i64 h) (.int .i64 l) (w4.alloc (.cells #[.int .i64 p2,.int .i64 q2] 172))):=Qd (HB3.out.alloc _);obtain⟨g1,g2⟩:=HB4.out.cells;clear hb c1 c2;go_wp2_with fail;refine(KC2.out _).mono ?_;rintro e w5 ⟨rfl,hb⟩;have HB5:=Qd (HB4.out.kept hb);clear hb;go_wp2_with fail;simp only[Exit.jump];go_ret2;exact⟨rfl,HB5.out.2⟩
theorem Up8 (a:Int)(w:World):Calls prog 209 #[.int .i64 a] w (Ub (.tuple #[.int .i64 (Ujt a).1,.bool (Ujt a).2]) w):=by
 have KL:=Qd (fun w=>Yv a w);have KM:=Qd (fun w=>Udp a 4294967296 w);have KR:=Qd (fun w=>Um1 (z:=Uen a 4294967296) (Uyq a 4294967296) w);have F:Hid ((Ujt a).1=(Ucd (Uen a 4294967296)).1∧(Ujt a).2=(chg a||(Ucd (Uen a 4294967296)).2)):=Qd ⟨rfl,rfl⟩;rw[F.out.1,F.out.2];obtain⟨p,q,hpq⟩:∃p q,wz (Uen a 4294967296) = .agg #[.int .i64 p,.int .i64 q]:=⟨_,_,rfl⟩;rw[hpq] at KM KR;generalize Ucd (Uen a 4294967296)=r at *;generalize Um a=b at *;generalize chg a=c at *;obtain⟨n,d⟩:=r;dsimp only at KR ⊢;clear F hpq;cases c
 all_goals
  go_enter func209,ntmps209;go_wp2_with fail;refine(KL.out _).mono ?_;rintro e w1 ⟨rfl,rfl⟩;go_wp2_with fail;refine(KM.out _).mono ?_;rintro e w1 ⟨rfl,hb1⟩;go_wp2_with fail;refine(KR.out _).mono ?_;rintro e w2 ⟨rfl,hb2⟩;have HB:=Qd (Ua hb1 hb2 hb1.size);clear hb1 hb2;go_wp2_with fail;go_ret2;exact⟨by simp,HB.out⟩
open Go.RowKit Go.Shelf
theorem Uga {w:World}{g j:Nat}{v:Value}(h:w.cell? ⟨g,j,none⟩=some v):g<w.heap.size:=by
 apply Nat.lt_of_not_le;intro hn;have:w.heap[g]? = none:=by simp;exact hn
 simp[World.cell?,this] at h
def Pr4 (pa pb ga gb oa ob i n ca cb:Nat)(x y:Int)(w:World):Prop :=
 w.cell? ⟨pa,0,none⟩=some (.slice (some ⟨ga,oa,none⟩) n ca)∧w.cell? ⟨pb,0,none⟩=some (.slice (some ⟨gb,ob,none⟩) n cb)∧w.cell? ⟨ga,oa+i,none⟩=some (.int .i64 x)∧w.cell? ⟨gb,ob+i,none⟩=some (.int .i64 y)
theorem Pr4.below {n₀ pa pb ga gb oa ob i n ca cb:Nat}{x y:Int}{w w':World}(h:Pr4 pa pb ga gb oa ob i n ca cb x y w)(hb:Below n₀ w w')(l1:pa<n₀)(l2:pb<n₀)(l3:ga<n₀)(l4:gb<n₀):Pr4 pa pb ga gb oa ob i n ca cb x y w' :=
 ⟨(hb.cell (p:=⟨pa,0,none⟩) l1).trans h.1,(hb.cell (p:=⟨pb,0,none⟩) l2).trans h.2.1,(hb.cell (p:=⟨ga,oa+i,none⟩) l3).trans h.2.2.1,(hb.cell (p:=⟨gb,ob+i,none⟩) l4).trans h.2.2.2⟩
theorem Pr4.lts {pa pb ga gb oa ob i n ca cb:Nat}{x y:Int}{w:World}(h:Pr4 pa pb ga gb oa ob i n ca cb x y w):pa<w.heap.size∧pb<w.heap.size∧ga<w.heap.size∧gb<w.heap.size :=
 ⟨Uga h.1,Uga h.2.1,Uga h.2.2.1,Uga h.2.2.2⟩
def U5d (w:World)(pa pb ga gb oa ob i n ca cb:Nat)(x y:Int)(h l:Value)(W:World):Prop:=Pr4 pa pb ga gb oa ob i n ca cb x y W∧At1 w h l W
section
variable {w W W':World} {pa pb ga gb oa ob i n ca cb:Nat} {x y:Int} {h l:Value}
theorem U5d.kept (H:U5d w pa pb ga gb oa ob i n ca cb x y h l W)(hb:Below W.heap.size W W'):U5d w pa pb ga gb oa ob i n ca cb x y h l W' :=
 ⟨H.1.below hb H.1.lts.1 H.1.lts.2.1 H.1.lts.2.2.1 H.1.lts.2.2.2,H.2.kept hb⟩
theorem U5d.set (H:U5d w pa pb ga gb oa ob i n ca cb x y h l W)(l1:pa<w.heap.size)(l2:pb<w.heap.size)(l3:ga<w.heap.size)(l4:gb<w.heap.size)(u v:Value) :
  U5d w pa pb ga gb oa ob i n ca cb x y u v ((W.setCell ⟨w.heap.size,0,none⟩ u).setCell ⟨w.heap.size,1,none⟩ v) :=
 ⟨H.1.below (((Xb w.heap.size W).setCell (p:=⟨w.heap.size,0,none⟩) (Xa _) u).setCell (p:=⟨w.heap.size,1,none⟩) (Xa _) v) l1 l2 l3 l4,set2 H.2.1 u v,Y9 H.2.2 (Xa _) u v⟩
end
theorem Umi {w:World}{pa pb ga gb oa ob i n ca cb:Nat}{x y:Int}(hi:i<n)(H:Pr4 pa pb ga gb oa ob i n ca cb x y w) :
  Calls prog 123 #[.int .i64 i,.pointer (some ⟨pa,0,none⟩),.pointer (some ⟨pb,0,none⟩)] w (Ub (wz (Uen x y)) w):=by
 have KM:=Qd (fun w=>Udp x y w);obtain⟨p,q,hpq⟩:∃p q,wz (Uen x y) = .agg #[.int .i64 p,.int .i64 q]:=⟨_,_,rfl⟩;rw[hpq] at KM ⊢;clear hpq;have hlt:=H.lts;go_enter func123,ntmps123;go_wp2_with fail;refine Uq fun W0 hW0=>?_
 have HB:Hid (U5d w pa pb ga gb oa ob i n ca cb x y (.int .i64 0) (.int .i64 0) W0):=Qd (by
  rw[hW0];have hb:=(Xb w.heap.size w).alloc (Xa _) (.cells #[.int .i64 0,.int .i64 0] 172)
  exact⟨H.below hb hlt.1 hlt.2.1 hlt.2.2.1 hlt.2.2.2,Box.new w _ _,hb⟩)
 clear hW0 H;obtain⟨l1,l2,l3,l4⟩:=hlt;go_upto_region 1 with fail
 go_region_held3 (fun w'=>w'.cell? ⟨pa,0,none⟩=some (.slice (some ⟨ga,oa,none⟩) n ca)∧w'.cell? ⟨pb,0,none⟩=some (.slice (some ⟨gb,ob,none⟩) n cb)∧w'.cell? ⟨ga,oa+i,none⟩=some (.int .i64 x)∧w'.cell? ⟨gb,ob+i,none⟩=some (.int .i64 y))
  (first|exact HB.out.1|exact HB1.out.1|exact(HB1.out.set l1 l2 l3 l4 _ _).1)
  (first|(go_at_call 119;refine(KM.out _).mono ?_;rintro e w1 ⟨rfl,hb1⟩;have HB1:=Qd (HB.out.kept (Uv hb1));obtain⟨d1,d2,d3,d4⟩:=Ul9 HB1.out.2.1;clear hb1))
 rename_i hz;clear hz;go_wp2_with fail;exact Xk (results_cell_row results123 _ _ w.heap.size 172 _ (0,0) _ rfl (HB1.out.set l1 l2 l3 l4 _ _).2.1 underlying172 rfl Uao) rfl ⟨rfl,(HB1.out.set l1 l2 l3 l4 _ _).2.2⟩
theorem Ugb {w w':World}(h:Below w.heap.size w w')(row:Option Nat):w.grownBy w' row:=⟨h.os,h.tape,h.output,h.size,fun k hk _=>h.block k hk⟩
theorem Uk3 {β:Type}{B:Nat}{J:β→World→Prop}(h:AbidesFrom B J){s:β}{w w':World}(hs:J s w)(hb:Below w.heap.size w w'):J s w':=h s w w' none hs (Ugb hb none) (fun r e=>by cases e)
theorem Ujb {β:Type}(f:Nat→β){k n:Nat}(h:k<n):(List.range k).map f++[f k] <+: (List.range n).map f:=by
 have e1:(List.range k).map f++[f k]=(List.range (k+1)).map f:=by rw[List.range_succ,List.map_append];rfl
 have e2:List.range (k+1)=(List.range n).take (k+1):=by
  apply List.ext_getElem
  ·simp;omega
  ·intro i h1 h2;simp
 rw[e1,e2];exact(List.take_prefix _ _).map f
def U2q (pn pf:Nat)(n:Nat)(v:Value)(w:World):Prop:=w.cell? ⟨pn,0,none⟩=some (.int .i64 n)∧w.cell? ⟨pf,0,none⟩=some v
set_option maxRecDepth 100000 in
theorem Usd {α:Type}(enc:α→Value)(N pn pf n₀ n:Nat){pa pb:Value}(f:Nat→α)(hn:n≤1000)(w:World)(hn₀:n₀≤w.heap.size)(hpn:pn<n₀)(hpf:pf<n₀)(hF:U2q pn pf n (.func (.func 123) #[] #[pa,pb]) w)
  (hC:∀i,i<n→∀w',Below n₀ w w'→Calls prog 123 #[.int .i64 i,pa,pb] w' (Ub (enc (f i)) w')) :
  SeqStopsK Fence.wide (N+1) prog 150 #[.pointer (some ⟨pn,0,none⟩),.pointer (some ⟨pf,0,none⟩)] (fun z:α=>#[enc z]) (Below n₀) (fun ys=>ys=(List.range n).map f) (fun pre=>pre <+: (List.range n).map f) n w:=by
 intro l J Jx W hW hJ hJx hY h0;have HJ:=Qd hJ;clear hJ hJx;obtain⟨f1,f2⟩:U2q pn pf n (.func (.func 123) #[] #[pa,pb]) W:=⟨(hW.cell (p:=⟨pn,0,none⟩) (show pn<_ by omega)).trans hF.1,(hW.cell (p:=⟨pf,0,none⟩) (show pf<_ by omega)).trans hF.2⟩;have HY:=Qd hY;have HC:Hid (∀i,i<n→∀w',Below n₀ W w'→Calls prog 123 #[.int .i64 i,pa,pb] w' (Ub (enc (f i)) w')):=Qd (fun i hi w' hb=>hC i hi w' ((hW.mono hn₀).trans hb));clear hY hC hF;refine callsIn_of_wp func150 rfl trivial ?_ rfl;simp only[ntmps150,List.size_toArray,List.length_cons,List.length_nil,Nat.reduceAdd,Nat.reduceSub,Array.replicate_succ,Array.replicate_zero,List.push_toArray,List.append_toArray,List.nil_append,List.cons_append]
 gi_wp2
 gi_loopw [6] (fun i wr=>∃k:Nat,k≤n∧i = .int .i64 k∧J ((List.range k).map f) wr∧Below n₀ W wr)
  (fun i _=>n-(intOf i).toNat)
 case atStart=>exact⟨0,Nat.zero_le _,rfl,h0,Xb _ _⟩
 case round =>
  obtain⟨k,hk,rfl,hJs,hnx⟩:=hrel;by_cases hlt:k<n
  ·have g2:wr.cell? ⟨pf,0,none⟩=some (.func (.func 123) #[] #[pa,pb]):=(hnx.cell (p:=⟨pf,0,none⟩) hpf).trans f2;have KF:=HC.out k hlt wr hnx
   gi_wp2
   refine⟨trivial,?_⟩;refine(callsIn_wide.2 KF).mono ?_;rintro e w1 ⟨rfl,hb1⟩;obtain⟨fn,tmps,assign,body,hy,hR⟩:=HY.out _ (f k) w1 (Uk3 HJ.out hJs hb1) (by simpa using hlt);rw[show N+1-1=N from rfl] at hR
   gi_wp2
   refine hR.mono ?_;rintro e W3 (⟨rfl,hJ3,hk3⟩|⟨rfl,hJx3⟩)
   ·gi_wp2
    go_roundw
    case rel=>exact⟨k+1,by omega,by simp,by rw[List.range_succ,List.map_append];exact hJ3,(hnx.trans (hb1.mono (by have:=hnx.size;have:=hW.size;omega))).trans hk3⟩
    case measure=>simp[intOf];omega
   ·gi_wp2
    refine Xk (results_none rfl _ _ _) rfl ?_;exact⟨⟨_,rfl⟩,.inr ⟨_,Ujb f hlt,hJx3⟩⟩
  ·obtain rfl:k=n:=by omega
   gi_wp2
   go_end0;exact⟨⟨_,rfl⟩,.inl ⟨_,rfl,hJs⟩⟩
open Tryz
open Go.RowKit Go.Shelf
attribute [local go_sem] Oper.semAt_some
theorem Uvu (n:Nat)(fn:Fn)(bd cp:Array Value)(w:World):Calls prog 122 #[.int .i64 n,.func fn bd cp] w fun e w' =>
  e = .returned (.func (.func 150) #[] #[.pointer (some ⟨w.heap.size,0,none⟩),.pointer (some ⟨w.heap.size+1,0,none⟩)])∧(w.alloc (.cells #[.int .i64 n] 3)).alloc (.cells #[.func fn bd cp] 206)=w':=by
 go_enter func122,ntmps122;go_wp2_with fail;go_ret;exact⟨rfl,rfl⟩
def Uhf (va vb:Value)(n:Nat)(w:World):World :=
 (((w.alloc (.cells #[va] 28)).alloc (.cells #[vb] 28)).alloc (.cells #[.int .i64 n] 3)).alloc (.cells #[.func (.func 123) #[] #[.pointer (some ⟨w.heap.size,0,none⟩),.pointer (some ⟨w.heap.size+1,0,none⟩)]] 206)
theorem Uhg (ga oa ca gb ob cb n:Nat)(w:World):Calls prog 98 #[.slice (some ⟨ga,oa,none⟩) n ca,.slice (some ⟨gb,ob,none⟩) n cb] w fun e w' =>
  e = .returned (.func (.func 150) #[] #[.pointer (some ⟨w.heap.size+2,0,none⟩),.pointer (some ⟨w.heap.size+3,0,none⟩)])∧Uhf (.slice (some ⟨ga,oa,none⟩) n ca) (.slice (some ⟨gb,ob,none⟩) n cb) n w=w':=by
 have KE:=Qd (fun n fn bd cp w=>Uvu n fn bd cp w);go_enter func98,ntmps98;go_wp2_with fail;refine(KE.out _ _ _ _ _).mono ?_;rintro e w1 ⟨rfl,rfl⟩;go_wp2_with fail;go_ret;exact⟨rfl,rfl⟩
theorem Uk4 (g:Nat)(t:TypeId){β:Type}(f:β→Array Value):Go.Own (fun(s:β) (W:World)=>Box W g t (f s)):=fun s X Y row hs hg hr =>
 (hg.block g (Box.lt hs) (fun e=>by obtain⟨_,ho,hc⟩:=hr g e.symm;rw[show X.heap[g]? = _ from hs] at ho;cases ho;cases hc)).trans hs
theorem Uvv {w w':World}(hb:Below w.heap.size w w'):KeepsOthers w w':=⟨hb.size,fun k o hk _=>(hb.block k (Array.getElem?_eq_some_iff.1 hk).1).trans hk⟩
structure Sm where
 v:Int
 lo : -83076749736557242056487941267521536≤v
 hi:v≤83076749736557242056487941267521536
def Ucl:List Sm→Int
 | []=>0
 | x::l=>x.v+Ucl l
theorem Um2 (l:List Sm)(x:Sm):Ucl (l++[x])=Ucl l+x.v:=by
 induction l with
 | nil=>simp[Ucl]
 | cons y l ih=>simp only[List.cons_append,Ucl,ih];omega
theorem Uuc (l:List Sm) : -(83076749736557242056487941267521536*(l.length:Int))≤Ucl l∧Ucl l≤83076749736557242056487941267521536*(l.length:Int):=by
 induction l with
 | nil=>simp[Ucl]
 | cons x l ih =>
  have h1:=x.lo;have h2:=x.hi;simp only[Ucl,List.length_cons];push_cast;omega
theorem Uud {l:List Sm}(h:l.length≤64):Wz (Ucl l):=by
 have:=Uuc l;unfold Wz;omega
theorem Sm.wz (x:Sm):Wz x.v:=by have h1:=x.lo;have h2:=x.hi;unfold Wz;omega
def wc (z:Int):Array Value:=#[.int .i64 (z / 4611686018427387904),.int .i64 (z % 4611686018427387904)]
theorem Uhh (z:Int):∃p q,wz z = .agg #[.int .i64 p,.int .i64 q]∧wc z=#[.int .i64 p,.int .i64 q]:=⟨_,_,rfl,rfl⟩
set_option maxRecDepth 100000 in
theorem Use {w:World}{lb:Array Value}(L:List Sm)(n₀ N₀:Nat)(hn₀:n₀≤w.heap.size)(hN:N₀≤64)
  (hS:SeqStopsK Fence.wide 2 prog 150 lb (fun z:Sm=>#[wz z.v]) (Below n₀) (fun ys=>ys=L) (fun pre=>pre <+: L) N₀ w) :
  Calls prog 97 #[.func (.func 150) #[] lb] w (Ub (wz (Ucl L)) w):=by
 refine(callsIn_wide (n:=3)).1 ?_;refine callsIn_of_wp_marks func97 rfl trivial ?_ rfl;simp only[ntmps97,List.size_toArray,List.length_cons,List.length_nil,Nat.reduceAdd,Nat.reduceSub,Array.replicate_succ,Array.replicate_zero,List.push_toArray,List.append_toArray,List.nil_append,List.cons_append]
 gi_wp2
 have b0:Box ((w.alloc (.cells #[.int .i64 0,.int .i64 0] 172)).alloc (.cells #[.int .i64 0,.int .i64 0] 172)) w.heap.size 172 #[.int .i64 0,.int .i64 0]:=(Box.new w _ _).alloc _;have b1:Box ((w.alloc (.cells #[.int .i64 0,.int .i64 0] 172)).alloc (.cells #[.int .i64 0,.int .i64 0] 172)) (w.heap.size+1) 172 (wc (Ucl [])):=Box.at_ (by simp) _ _;have hB0:Below w.heap.size w ((w.alloc (.cells #[.int .i64 0,.int .i64 0] 172)).alloc (.cells #[.int .i64 0,.int .i64 0] 172)):=((Xb _ w).alloc (Xa _) _).alloc (by simp) _;have hsz:((w.alloc (.cells #[.int .i64 0,.int .i64 0] 172)).alloc (.cells #[.int .i64 0,.int .i64 0] 172)).heap.size=w.heap.size+2:=by simp
 generalize ((w.alloc (.cells #[.int .i64 0,.int .i64 0] 172)).alloc (.cells #[.int .i64 0,.int .i64 0] 172))=W0 at *;refine wpIn_rangeFunc_ownH rfl (by omega) (gf:=150) (lb:=lb) rfl trivial (enters_of func150 (by kernel_rfl) rfl)
  hS belowK_t (belowK_b (by omega)) hB0 (fun _=>rfl)
  (fun pre W=>(Box W (w.heap.size+1) 172 (wc (Ucl pre))∧Box W w.heap.size 172 #[.int .i64 0,.int .i64 0])∧Below w.heap.size w W)
  (fun _ _ _=>False)
  (OwnFrom.and (OwnFrom.and (Own.from (Uk4 _ _ _) _) (Own.from (Uk4 _ _ (fun _=>_)) _)) (ownFrom_below (Xa _) (by omega)))
  (fun _ _ _ _ _ hs _ _=>hs)
  ⟨⟨b1,b0⟩,hB0⟩
  (fun x a' W=>∃Bx,w.heap.size+1<Bx∧Box W Bx 172 (wc x.v)∧a'={ tmps:=#[.func (.func 150) #[] lb,undef,.pointer (some ⟨w.heap.size,0,none⟩),.pointer (some ⟨w.heap.size+1,0,none⟩),.pointer (some ⟨Bx,0,none⟩),.func (.func 150) #[] lb,wz x.v,undef,undef,undef,undef,undef,undef,undef],defers:=[] })
  (fun x a' _ X Y row hs hg hr=>by obtain⟨Bx,h1,h2,h3⟩:=hs;exact⟨Bx,h1,Uk4 Bx _ (fun(_:Unit)=>wc x.v) () X Y row h2 hg (fun r e=>(hr r e).2),h3⟩)
  ?assign ?body ?done ?stop
 case assign =>
  rintro l pre x W K ⟨⟨bS1,bB1⟩,hB1⟩ hK;obtain⟨p,q,e1,e2⟩:=Uhh x.v;rw[e1,e2] at hK;rw[e1]
  gi_wp2
  exact hK _ _ ((KeepsOthers.alloc _ _).from _) ((Xb _ W).alloc (by have:=hB1.size;omega) _) ⟨⟨bS1.alloc _,bB1.alloc _⟩,hB1.alloc hB1.size _⟩ ⟨W.heap.size,bS1.lt,Box.new W _ _,rfl⟩
 case body =>
  rintro l pre x a' W hl ⟨r,hr⟩ ⟨⟨bS1,bB1⟩,hB1⟩ ⟨Bx,hBx,bX,rfl⟩ hlt;have hsum:Ucl (pre++[x])=Ucl pre+x.v:=Um2 pre x;have KA:=fun w=>Uys (x:=Ucl pre) (y:=x.v) (by rw[←Um2];exact Uud (by simp;omega)) (Uud (by omega)) x.wz w
  obtain⟨p,q,e1,e2⟩:=Uhh (Ucl pre);obtain⟨p',q',e1',e2'⟩:=Uhh x.v;obtain⟨p2,q2,e3,e4⟩:=Uhh (Ucl pre+x.v);rw[e1,e1',e3] at KA;rw[e2] at bS1;rw[e2'] at bX;obtain⟨c1,c2,c3,c4⟩:=Ul9 bS1;obtain⟨d1,d2,d3,d4⟩:=Ul9 bX;have HA:=Qd KA;clear KA
  gi_wp2
  refine⟨trivial,?_⟩;refine(CallsIn.inRound l (callsIn_wide.2 (HA.out W))).mono ?_;rintro e w1 ⟨rfl,hb1⟩;clear c1 c2 c3 c4 d1 d2 d3 d4;have bS2:=Box.kept bS1 hb1;have bB2:=Box.kept bB1 hb1;have hB2:=Ua hB1 hb1 hB1.size;obtain⟨c1,c2,c3,c4⟩:=Ul9 bS2
  gi_wp2
  refine⟨((Uvv hb1).trans ((KeepsOthers.setCell _ _ _).trans (KeepsOthers.setCell _ _ _))).from _,?_,⟨⟨?_,?_⟩,?_⟩⟩
  ·exact((hb1.mono (by have:=hB1.size;omega)).setCell (p:=⟨w.heap.size+1,0,none⟩) (show n₀≤w.heap.size+1 by omega) _).setCell (p:=⟨w.heap.size+1,1,none⟩) (show n₀≤w.heap.size+1 by omega) _
  ·rw[hsum,e4];exact set2 bS2 _ _
  ·exact(Box.far bB2 (by simp) _).far (by simp) _
  ·exact(hB2.setCell (p:=⟨w.heap.size+1,0,none⟩) (show _≤w.heap.size+1 by omega) _).setCell (p:=⟨w.heap.size+1,1,none⟩) (show _≤w.heap.size+1 by omega) _
 case done =>
  rintro D ys W hD rfl ⟨⟨bS1,bB1⟩,hB1⟩ hK;obtain⟨p,q,e1,e2⟩:=Uhh (Ucl ys);rw[e2] at bS1;obtain⟨c1,c2,c3,c4⟩:=Ul9 bS1;obtain⟨d1,d2,d3,d4⟩:=Ul9 bB1
  gi_wp2
  have hK2:=((KeepsOthers.setCell W ⟨w.heap.size,0,none⟩ (.int .i64 p)).trans (KeepsOthers.setCell _ ⟨w.heap.size,1,none⟩ (.int .i64 q))).same D _ hK rfl;have bB2:=set2 bB1 (.int .i64 p) (.int .i64 q);have hB2:=Y9 hB1 (Xa _) (.int .i64 p) (.int .i64 q);refine⟨by simp,.inl ⟨_,_,rfl,run_takeDeferred hK2,?_⟩⟩;have bB3:Box (((W.setCell ⟨w.heap.size,0,none⟩ (.int .i64 p)).setCell ⟨w.heap.size,1,none⟩ (.int .i64 q)).putObj D (.deferred none)) w.heap.size 172 #[.int .i64 p,.int .i64 q] :=
   ((grownBy_putObj' _ D (.deferred none)).block _ bB2.lt (fun e=>by cases e;omega)).trans bB2
  have hB3:=hB2.trans (belowK_b (w:=w) (Xa _) _ D _ (.deferred none) (by omega) hK2 rfl rfl);exact⟨_,results_cell_row results97 _ _ w.heap.size 172 _ (0,0) _ rfl bB3 underlying172 rfl Uao,by rw[e1],hB3⟩
 case stop =>
  rintro D c pre W _ _ h _;exact h.elim
end Go.Proofs.YtdaflmjfeoacaaaGreat
