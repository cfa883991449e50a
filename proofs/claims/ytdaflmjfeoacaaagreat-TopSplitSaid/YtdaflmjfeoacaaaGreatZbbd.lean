/- Part of the proof of TopTry, TopSplit: MeD, MeE. Conditions: none. -/
import Derived.Test.YtdaflmjfeoacaaaGreatZbbb
import Derived.Deep.RegionLawGrows
set_option linter.all false
set_option maxHeartbeats 16000000
set_option maxRecDepth 4000
namespace Go.Proofs.YtdaflmjfeoacaaaGreat
open Tryz
open Go.RowKit
def U8u (n:Nat)(i:Value):Prop:=∃j:Nat,j≤n∧i = .int .i64 (j:Int)
theorem Uqr:prog.plainKey 3=true:=by kernel_rfl
theorem Uqs:prog.cellsOf 3=1:=by kernel_rfl
theorem Ujf {xs ys:List Int}(d:Nat)(is:List Nat)(w:World)(hi:∀i∈is,i<xs.length∧i<ys.length) :
  (Op.eqItems (d+1) 3 1 (xs.map (Value.int .i64)).toArray (ys.map (Value.int .i64)).toArray is).run prog w = .ok (decide (∀i∈is,xs.getD i 0=ys.getD i 0)) w:=by
 induction is with
 | nil=>simp[Op.eqItems]
 | cons i is ih =>
  obtain⟨hx,hy⟩:=hi i (by simp);have h1:(part 3 (xs.map (Value.int .i64)).toArray i).run prog w = .ok (.int .i64 (xs.getD i 0)) w:=run_part_plain w Uqr (by simp[hx]);have h2:(part 3 (ys.map (Value.int .i64)).toArray i).run prog w = .ok (.int .i64 (ys.getD i 0)) w:=run_part_plain w Uqr (by simp[hy]);have h3:=run_equalIn_int w d 3 .i64 .i64 (xs.getD i 0) (ys.getD i 0) underlying3;have ih':=ih (fun j hj=>hi j (by simp[hj]));simp only[Op.eqItems,Nat.mul_one,Sem.run_bind,h1,h2,h3,Result.andThen_ok,List.mem_cons,forall_eq_or_imp];clear h1 h2 h3;generalize xs.getD i 0=p at *;generalize ys.getD i 0=q at *;by_cases he:p=q
  ·subst he;rw[if_neg (by simp),ih'];simp only[true_and]
  ·rw[if_pos (by simpa using he)];simp only[Sem.run_pure,he,false_and,decide_false]
theorem U5v (a b c:Int):∃r,∀w,(Op.equalIn 9999 24 (.agg #[.int .i64 a,.int .i64 b,.int .i64 c]) (.agg #[.int .i64 0,.int .i64 0,.int .i64 0])).run prog w = .ok r w:=by
 have hi:∃i,prog.info? 3=some i:=by
  obtain⟨i0,hi,_⟩:=info_parts Uj7;exact⟨i0,hi⟩
 obtain⟨i0,hi⟩:=hi;refine⟨decide (∀i∈List.range 3,[a,b,c].getD i 0=[0,0,0].getD i 0),fun w=>?_⟩;have h1:=run_equalIn_array (P:=prog) w 9998 #[.int .i64 a,.int .i64 b,.int .i64 c] #[.int .i64 0,.int .i64 0,.int .i64 0] (t:=24) (n:=3) (e:=3) (by kernel_rfl) hi;rw[Uqs] at h1;exact h1.trans (Ujf (xs:=[a,b,c]) (ys:=[0,0,0]) 9997 (List.range 3) w (fun i hi=>by simpa using hi))
theorem U5w (s:Smp):∃r,∀w,(binOp .eql 40 (.agg (sml s).toArray) (.agg #[.int .i64 0,.int .i64 0,.int .i64 0,.int .i64 0,.int .i64 0])).run prog w = .ok (.bool r) w:=by
 obtain⟨t,s,⟨a,b,c⟩⟩:=s;obtain⟨r,hr⟩:=U5v a b c;refine⟨(t==0)&&((s==0)&&r),fun w=>?_⟩;show(binOp .eql 40 (.agg #[.int .i64 t,.int .i64 s,.int .i64 a,.int .i64 b,.int .i64 c]) (.agg #[.int .i64 0,.int .i64 0,.int .i64 0,.int .i64 0,.int .i64 0])).run prog w=_;rw[run_eql_struct,run_equalIn_struct _ 9999 40 _ _ (by kernel_rfl) (by kernel_rfl)];by_cases h1:t=0
 ·by_cases h2:s=0
  ·simp[go_sem,h1,h2,hr];cases r<;>simp
  ·simp[go_sem,h1,h2]
 ·simp[go_sem,h1]
theorem U24:∀w,(binOp .eql 40 (.agg (sml Ujx).toArray) (.agg #[.int .i64 0,.int .i64 0,.int .i64 0,.int .i64 0,.int .i64 0])).run prog w = .ok (.bool true) w:=fun w=>by kernel_rfl
theorem RwL.kept {w W W':World}{ml:List Value}(H:RwL w ml W)(hb:Below W.heap.size W W'):RwL w ml W':=⟨H.m.kept hb,Ua H.below hb H.below.size⟩
theorem RwL.drew {w W:World}{ml:List Value}(H:RwL w ml W):RwL w ml W.drew:=⟨H.m.drew,Ue H.below 1⟩
theorem RwL.alloc {w W:World}{ml:List Value}(H:RwL w ml W)(o:Obj):RwL w ml (W.alloc o):=⟨H.m.alloc o,H.below.alloc H.below.size o⟩
theorem Unf {X:Nat→Prop}{m:Mrg}{vs:List Value}{w:World}(h:QsX X w vs m)(hs:Uaz m):Calls prog 76 #[mv m vs] w (Ub (.bool true) w):=by
 obtain⟨i0,hi,hz0,hz1,hz2⟩:=info_parts Uj7;have HM0:Hid ((prog.info? 45).map (·.size)=some (mcs m vs).size):=Qd (Uaj h.len h.nl);have KR:Hid (∀(k:Nat) W,k<4→Below w.heap.size w W→Calls prog 101 #[mv m vs,.int .i64 (k:Int)] W (Ub (.bool true) W)):=Qd (fun k W hk hb=>Uz4 (h.below hb) hk (hs.row k hk));have hl64:Zh m≤64:=by
  have h0:=(hs.row 0 (by omega)).1;have h1:=(hs.row 1 (by omega)).1;have h2:=(hs.row 2 (by omega)).1;have h3:=(hs.row 3 (by omega)).1;unfold Zh;omega
 have KL:Hid (∀W,Below w.heap.size w W→Calls prog 103 #[mv m vs] W (Ub (.int .i64 (Zh m:Int)) W)):=Qd (fun W hb=>Uwh (h.below hb) hl64);have CM:Hid (∀W,Box W w.heap.size 45 (mcs m vs)→W.cell? ⟨w.heap.size,0,none⟩=some (.int .i64 m.mark)):=Qd (fun W H=>Uuk H);have CS:Hid (∀W,Box W w.heap.size 45 (mcs m vs)→W.cell? ⟨w.heap.size,1,none⟩=some (.bool m.some)):=Qd (fun W H=>Uzx H);have CL:Hid (∀W,Box W w.heap.size 45 (mcs m vs)→W.rangeAt w.heap.size 2 (sml m.last)):=Qd (fun W H=>Uzy H);have CT:Hid (∀W,Box W w.heap.size 45 (mcs m vs)→W.cell? ⟨w.heap.size,18,none⟩=some (.int .i64 m.taken)):=Qd (fun W H=>Uzz H h.len h.nl);have C0:Hid (∀W,Box W w.heap.size 45 (mcs m vs)→W.cell? ⟨w.heap.size,11,none⟩=some (.int .i64 (m.n.getD 0 0))):=Qd (fun W H=>m_n (k:=0) H h.len h.nl (by omega))
 have CN:Hid (∀W,Box W w.heap.size 45 (mcs m vs)→∀j u,(m.n.map (Value.int .i64))[j]? = some u→W.cell? ⟨w.heap.size,11+j,none⟩=some u):=Qd (fun W H j u hu=>by
  have hj:j<7:=by have:=(List.getElem?_eq_some_iff.1 hu).1;rw[List.length_map,h.nl] at this;exact this
  rw[m_n H h.len h.nl hj,←hu,List.getElem?_map,Xj (by rw[h.nl];exact hj)]
  simp[List.getD_eq_getElem?_getD,Xj (show j<m.n.length by rw[h.nl];exact hj)])
 have HC:Hid (∀j,j<9→∃x,(m.n.map (Value.int .i64)++[.int .i64 m.mark,.int .i64 m.taken])[j]? = some (.int .i64 x)∧Ua0 x):=Qd (fun j hj=>by
  have hnl:=h.nl;by_cases hj7:j<7
  ·refine⟨m.n.getD j 0,?_,hs.cnt j hj7⟩;rw[List.getElem?_append_left (by rw[List.length_map];omega),List.getElem?_map,Xj (by omega)];simp[List.getD_eq_getElem?_getD,Xj (show j<m.n.length by omega)]
  ·rcases (show j=7∨j=8 by omega) with rfl|rfl
   ·exact⟨m.mark,by rw[List.getElem?_append_right (by rw[List.length_map];omega),List.length_map,hnl];rfl,hs.mark⟩
   ·exact⟨m.taken,by rw[List.getElem?_append_right (by rw[List.length_map];omega),List.length_map,hnl];rfl,hs.taken⟩)
 have HNL:=Qd h.nl;obtain⟨rz,hrz⟩:=U5w m.last;have ERZ:=Qd hrz;have ER0:=Qd U24
 have HL:Hid ((m.some=true∧Ubg m.last)∨(m.some=false∧m.last=Ujx)):=Qd (by
  have:=hs.last;cases hb:m.some with
  | true=>rw[hb] at this;exact Or.inl ⟨rfl,this⟩
  | false=>rw[hb] at this;exact Or.inr ⟨rfl,this⟩)
 have KS:=Qd (fun w=>Uds m.last w);have e0:Udr m.last = .agg (sml m.last).toArray:=rfl;rw[e0] at KS;have hlf:=hs.left;have hcl:=hs.cnt 0 (by omega);dsimp only[mv,mcs] at *;generalize Ul m vs=ml at *;have HM:Hid ((prog.info? 45).map (·.size)=some ml.length):=Qd (by simpa using HM0.out);have hwl:IntKind.i64.wrap (m.taken+(Zh m:Int))=m.n.getD 0 0:=by unfold Ua0 at hcl;rw[Xf];omega
 clear h hs hrz HM0 e0 hl64 hlf hcl;generalize m.n=nl at *;generalize nl.getD 0 0=n0 at *;generalize m.mark=mk at *;generalize m.taken=tk at *;generalize m.some=sm at *;generalize (Zh m:Int)=lf at *;have HWL:=Qd hwl;clear hwl;have L0:Hid (RwL w ml (w.alloc (.cells ml.toArray 45))):=Qd ⟨Box.new _ _ _,(Xb _ w).alloc (Xa _) _⟩;go_enter func76,ntmps76;go_upto_region 1 with fail
 refine Uq fun W0 hW0=>?_
 rw[←hW0] at L0;clear hW0;go_wp2_with fail;refine wp_loop_rounds 5 ?_;rw[Xq];go_wp2_with (with_reducible first|refine Qi 45 ?_|refine Qi 40 ?_);refine Ubl.go rfl w.heap.size 0 rfl L0.out.m.rangeA underlying45 rfl HM.out ?_;go_wp2_with fail;refine(KR.out 0 _ (by omega) L0.out.below).mono ?_;rintro e v1 ⟨rfl,hb⟩;have L1:=Qd (L0.out.kept hb);clear hb L0;go_wp2_with fail;rw[Xq];go_wp2_with (with_reducible first|refine Qi 45 ?_|refine Qi 40 ?_);refine Ubl.go rfl w.heap.size 0 rfl L1.out.m.rangeA underlying45 rfl HM.out ?_;go_wp2_with fail;refine(KR.out 1 _ (by omega) L1.out.below).mono ?_;rintro e v2 ⟨rfl,hb⟩;have L2:=Qd (L1.out.kept hb);clear hb L1;go_wp2_with fail;rw[Xq];go_wp2_with (with_reducible first|refine Qi 45 ?_|refine Qi 40 ?_);refine Ubl.go rfl w.heap.size 0 rfl L2.out.m.rangeA underlying45 rfl HM.out ?_;go_wp2_with fail;refine(KR.out 2 _ (by omega) L2.out.below).mono ?_;rintro e v3 ⟨rfl,hb⟩;have L3:=Qd (L2.out.kept hb);clear hb L2;go_wp2_with fail;rw[Xq];go_wp2_with (with_reducible first|refine Qi 45 ?_|refine Qi 40 ?_);refine Ubl.go rfl w.heap.size 0 rfl L3.out.m.rangeA underlying45 rfl HM.out ?_;go_wp2_with fail;refine(KR.out 3 _ (by omega) L3.out.below).mono ?_;rintro e v4 ⟨rfl,hb⟩;have L4:=Qd (L3.out.kept hb);clear hb L3;go_wp2_with fail;rw[Xq];go_upto_region 7 with fail
 refine Uq fun w1 hw1=>?_
 have R1:Hid (RwL w ml w1):=Qd (by rw[hw1];exact L4.out);clear hw1 L4;refine Xm (S:=fun w'=>RwL w ml w') (by kernel_rfl) R1.out.drew (fun hHeld=>?_);refine Qn 0 (.pointer (some ⟨w.heap.size,11,none⟩)) ?_;refine Qn 1 (.slice (some ⟨w.heap.size,11,none⟩) 7 7) ?_;refine Qn 2 (.pointer (some ⟨w.heap.size,0,none⟩)) ?_;refine Qe 3 (.int .i64 mk) (fun w hw=>?_) ?_
 ·have xm:=CM.out _ hw.m;go_simp
 simp only[Qz];refine Qn 4 (.pointer (some ⟨w.heap.size,18,none⟩)) ?_;refine Qe 5 (.int .i64 tk) (fun w hw=>?_) ?_
 ·have xt:=CT.out _ hw.m;go_simp
 simp only[Qz];refine Qn 9 (.int .i64 0) ?_;refine Qc 6 fun KQ hKQ=>?_
 go_simp;refine hKQ.out _ _ (R1.out.drew.alloc _) (fun hHeld=>?_);clear hKQ KQ;refine Ut fun W2 hW2=>?_
 have R2:Hid (RwL w ml W2):=Qd (by rw[hW2];exact R1.out.drew.alloc _);have B2:Hid (Box W2 w1.drew.heap.size 3 #[.int .i64 mk,.int .i64 tk]):=Qd (by rw[hW2];exact Box.new _ _ _);replace hHeld:=R2.out;clear hW2 R1;refine Qc 7 fun KQ hKQ=>?_
 refine step_append_grows rfl _ _ 28 rfl 3 i0 _ 1 8 underlying28 hi hz0 hz1 hz2 rfl (by decide) (some ⟨w.heap.size,11,none⟩) 7 7 (nl.map (Value.int .i64)) rfl (fun h=>by cases h) (by rw[List.length_map,HNL.out]) (fun b hb j u hu=>by cases hb;rw[Ua7];exact CN.out _ R2.out.m j u hu) ⟨w1.drew.heap.size,0,none⟩ 2 2 [.int .i64 mk,.int .i64 tk] rfl rfl (World.news_of_block B2.out) (by intro u hu;simp at hu;rcases hu with h|h<;>subst h<;>rfl) (by decide) (by simp[maxLen]) (by decide) ?_;intro v9 w3 hown hgrow;have R3:Hid (RwL w ml w3):=Qd ⟨(hgrow.block _ R2.out.m.lt (fun e=>by cases e)).trans R2.out.m,R2.out.below.grown hgrow R2.out.below.size (fun k e=>by cases e)⟩;obtain⟨A9,c9,rfl,hc9,hc8⟩:=Zz hown;unfold maxLen at hc8;have O3:=Qd hown;refine hKQ.out _ _ R3.out (fun hHeld=>?_);clear hKQ KQ hown hgrow B2 R2;refine Qn 8 (.int .i64 9) ?_;refine Xl (by kernel_rfl) ?_ _;clear hHeld CN CM;go_wp2_with fail;go_loopw [24] (fun i wr=>U8u 9 i∧Hid (w3=wr)) (fun i _=>9-(intOf i).toNat)
 case atStart=>exact⟨⟨0,Nat.zero_le _,rfl⟩,Qd rfl⟩
 case round =>
  obtain⟨⟨j,hj,rfl⟩,HE⟩:=hrel;have he:=HE.out;subst he;clear HE;by_cases hlt:j<9
  ·obtain⟨x,hx,hcx⟩:=HC.out j hlt;obtain⟨b,off,rfl,hbl,hcc⟩:=Sl.at_ (Sl.of_own O3.out) (by omega) (by omega);have cx:=hcc j _ hx;have KC:=Qd (fun w=>Us3 x hcx w);have hji:(j:Int)<9:=by omega
   clear hcc hx hcx;go_wp2_with fail;refine(KC.out _).mono ?_;rintro e w4 ⟨rfl,rfl⟩;go_wp2_with fail;refine⟨?_,?_⟩
   ·refine⟨_,_,_,_,_,_,_,_,_,_,?_,rfl⟩;exact⟨⟨j+1,by omega,by go_num⟩,Qd trivial⟩
   ·simp[intOf];omega
  ·have hge:¬(j:Int)<9:=by omega
   have x1:=CS.out _ R3.out.m;rcases HL.out with ⟨hsm,hsl⟩|⟨hsm,hsl⟩
   rotate_right
   focus
    subst hsm;rw[hsl] at CL;clear hsl KS ERZ;have S5:Hid ((prog.info? 40).map (·.size)=some (sml Ujx).length):=Qd Ye;generalize sml Ujx=ls at *;have erz:=fun w=>ER0.out w
   rotate_right
   focus
    subst hsm;rw[Xi hsl] at KS;clear hsl;have S5:Hid ((prog.info? 40).map (·.size)=some (sml m.last).length):=Qd Ye;generalize sml m.last=ls at *;have erz:=fun w=>ERZ.out w
    go_wp2_with (with_reducible first|refine Qi 45 ?_|refine Qi 40 ?_);refine Ubl.go rfl w.heap.size 2 rfl (CL.out _ R3.out.m) underlying40 rfl S5.out ?_
   all_goals
    go_wp2_with (with_reducible first|refine Qi 45 ?_|refine Qi 40 ?_);refine Ubl.go rfl w.heap.size 2 rfl (CL.out _ R3.out.m) underlying40 rfl S5.out ?_
   rotate_right
   focus
    go_upto_region 16 with fail
    clear erz;have hwl:=HWL.out;refine Uq fun w5 hw5=>?_
    have R5:Hid (RwL w ml w5):=Qd (by rw[hw5];exact R3.out);clear hw5 x1
   rotate_right
   focus
    clear erz;go_wp2_with fail;refine(KS.out _).mono ?_;rintro e w5 ⟨rfl,hb⟩;have R5:=Qd (R3.out.kept hb);clear hb x1 KS;go_upto_region 16 with fail
    have hwl:=HWL.out
   all_goals
    refine Xm (S:=fun w'=>RwL w ml w') (by kernel_rfl) R5.out.drew (fun hHeld=>?_);refine Qn 0 (.bool true) ?_;refine Qn 1 (.bool true) ?_;refine Qn 2 (.pointer (some ⟨w.heap.size,11,none⟩)) ?_;refine Qn 3 (.pointer (some ⟨w.heap.size,11,none⟩)) ?_;refine Qe 4 (.int .i64 n0) (fun w hw=>?_) ?_
    ·have x0:=C0.out _ hw.m;go_simp
    simp only[Qz];refine Qn 5 (.pointer (some ⟨w.heap.size,18,none⟩)) ?_;refine Qe 6 (.int .i64 tk) (fun w hw=>?_) ?_
    ·have xt:=CT.out _ hw.m;go_simp
    simp only[Qz];refine Ux (i:=7) (v := .agg (ml).toArray) rfl rfl (by kernel_rfl) (by kernel_rfl) (by kernel_rfl) (fun _ _ _ h=>h)
     (Xn (by rfl) 45 _ rfl (w.heap.size) (0) rfl (ml) _ (fun _ h=>h.m.rangeA) underlying45 rfl HM.out) hHeld ?_
    simp only[Qz];refine Qc 8 fun KQ hKQ=>?_
    go_simp;refine(KL.out _ R5.out.drew.below).mono ?_;rintro e w8 ⟨rfl,hb⟩;have R8:=Qd (R5.out.drew.kept hb);clear hb;refine hKQ.out _ _ (R8.out) (fun hHeld=>?_);clear hKQ KQ;refine Qn 9 (.int .i64 n0) ?_;refine Qn 10 (.bool true) ?_;refine Qn 11 (.bool true) ?_;refine Qn 12 (.bool true) ?_;refine Xl (by kernel_rfl) ?_ _;clear hHeld;go_wp2_with fail;go_ret;exact⟨rfl,R8.out.below⟩
def mz:Array Value:=mcs Ulr [.slice none 0 0,.slice none 0 0,.slice none 0 0,.slice none 0 0]
theorem Uir:mz.size=19:=rfl
theorem Ud1 {X:Nat→Prop}{m:Mrg}{vs:List Value}{w:World}(h:QsX X w vs m)(hs:Uaz m):Calls prog 77 #[mv m vs] w (Ub (mv m vs) w):=by
 have KS:Hid (∀W,Below w.heap.size w W→Calls prog 76 #[mv m vs] W (Ub (.bool true) W)):=Qd (fun W hb=>Unf (h.below hb) hs);have D0:=Qd (Duo.new w 45 (mcs m vs) 45 mz);have HM:Hid ((prog.info? 45).map (·.size)=some (mcs m vs).size):=Qd (Uaj h.len h.nl);have HZ:Hid (mz.size=(mcs m vs).size):=Qd (by rw[Uaf h.len h.nl];rfl);have HO:=Qd (Uah h);dsimp only[mv] at *;clear h hs;generalize mcs m vs=cs at *;go_enter func77,ntmps77;go_upto_region 1 with fail
 refine Uq fun W0 hW0=>?_
 have D1:Hid (Duo w 45 cs 45 mz W0):=Qd (by rw[hW0];exact D0.out);clear hW0 D0;go_wp2_with (with_reducible first|refine Qh 45 ?_|refine Qg 45 ?_);refine Uo.go w.heap.size rfl D1.out.1 underlying45 rfl HM.out ?_;go_wp2_with fail;refine(KS.out _ D1.out.2.2).mono ?_;rintro e w3 ⟨rfl,hb⟩;have D2:=Qd (D1.out.kept hb);clear hb D1;go_wp2_with (with_reducible first|refine Qh 45 ?_|refine Qg 45 ?_);refine Uo.go w.heap.size rfl D2.out.1 underlying45 rfl HM.out ?_;go_wp2_with (with_reducible first|refine Qh 45 ?_|refine Qg 45 ?_);refine Uf.go (w.heap.size+1) rfl rfl D2.out.2.1 HM.out HZ.out HO.out ?_;go_wp2_with fail;exact Xk (results_cell_row results77 _ _ (w.heap.size+1) 45 _ (0,0) _ rfl (D2.out.2.1.row _) underlying45 rfl HM.out) rfl ⟨rfl,Uc D2.out.2.2 (by omega) _⟩
structure WrR (w:World) (ml:List Value) (g:Nat) (ss:List Value) (W:World):Prop where
 m:Box W w.heap.size 45 ml.toArray
 r:Box W (w.heap.size+1) 40 #[.int .i64 0,.int .i64 0,.int .i64 0,.int .i64 0,.int .i64 0]
 s:Box W g 40 ss.toArray
 lg:w.heap.size+1<g
 below:Below w.heap.size w W
theorem WrR.kept {w W W':World}{ml ss:List Value}{g:Nat}(H:WrR w ml g ss W)(hb:Below W.heap.size W W'):WrR w ml g ss W':=⟨H.m.kept hb,H.r.kept hb,H.s.kept hb,H.lg,Ua H.below hb H.below.size⟩
theorem WrR.drew {w W:World}{ml ss:List Value}{g:Nat}(H:WrR w ml g ss W):WrR w ml g ss W.drew:=⟨H.m.drew,H.r.drew,H.s.drew,H.lg,Ue H.below 1⟩
theorem WrR.start {w W W':World}{cs:Array Value}{ml ss:List Value}(H:Duo w 45 ml.toArray 40 #[.int .i64 0,.int .i64 0,.int .i64 0,.int .i64 0,.int .i64 0] W)(hW:W'=(W.alloc (.cells cs 40)).setRow W.heap.size ss.toArray):WrR w ml W.heap.size ss W':=by
 have h1:=H.1.lt;have h2:=H.2.1.lt;rw[hW];exact⟨(H.1.alloc _).row_far (by omega) _,(H.2.1.alloc _).row_far (by omega) _,(Box.new W 40 cs).row _,h2,Uc (H.2.2.alloc H.2.2.size _) H.2.2.size _⟩
theorem Us4 {X:Nat→Prop}{m:Mrg}{vs:List Value}{w:World}(h:QsX X w vs m){k:Nat}(hk:k<4){v:Value}{ws:List Int}(hv:Yx w v ws):Calls prog 78 #[mv m vs,.int .i64 (k:Int),v] w
  (Ub (.tuple #[Udr (Uab m k ws).1,.int .i64 ((Uab m k ws).2:Int)]) w):=by
 obtain⟨A,c,e0,hc1,hc2,hA⟩:=(h.at_ k hk).1.form;unfold maxLen at hc2;have CQ0:Hid (∀W,Box W w.heap.size 45 (mcs m vs)→W.cell? ⟨w.heap.size,7+k,none⟩=some (vs.getD k (.bool false))):=Qd (fun W H=>m_q H h.len hk);have HM0:Hid ((prog.info? 45).map (·.size)=some (mcs m vs).size):=Qd (Uaj h.len h.nl);have KR:Hid (∀W,Below w.heap.size w W→Calls prog 65 #[v] W (Ub (.tuple #[Udr (Zd ws).1,.int .i64 (Zd ws).2]) W)):=Qd (fun W hb=>Ulk (hv.below hb));have KB:=Qd (fun w=>Uje m vs (Zd ws).1 w);have HQ:=Qd (h.at_ k hk);rw[e0] at CQ0 HQ;have D0:=Qd (Duo.new w 45 (mcs m vs) 40 #[.int .i64 0,.int .i64 0,.int .i64 0,.int .i64 0,.int .i64 0])
 have F:Hid (Uab m k ws=if (Zd ws).2≠0 then ((Zd ws).1,(Zd ws).2.toNat) else if (Zd ws).1.s≠(k:Int) then ((Zd ws).1,1) else
  if Uqm m k (Zd ws).1=true then ((Zd ws).1,3) else if (m.q.getD k []).length=16 then ((Zd ws).1,4) else ((Zd ws).1,0)):=Qd rfl
 have FL:Hid (Uqm m k (Zd ws).1=(!Ubu m (Zd ws).1||(decide (0<(m.q.getD k []).length)&&decide ((Zd ws).1.t≤((m.q.getD k []).getD ((m.q.getD k []).length-1) Ujx).t)))):=Qd rfl;have hcode:=Uip ws;rw[FL.out] at F;clear FL;generalize Zd ws=rr at *;obtain⟨⟨t,sk,⟨v0,v1,v2⟩⟩,er⟩:=rr;dsimp only[mv,mcs,Udr,Smp.cells] at *;generalize Ubu m ⟨t,sk,⟨v0,v1,v2⟩⟩=bh at *;generalize Uab m k ws=res at *;clear h hv e0;generalize Ul m vs=ml at *;generalize m.q.getD k []=l at *;have HM:Hid ((prog.info? 45).map (·.size)=some ml.length):=Qd (by simpa using HM0.out);have S5:Hid ((prog.info? 40).map (·.size)=some ([.int .i64 t,.int .i64 sk,.int .i64 v0,.int .i64 v1,.int .i64 v2]:List Value).length):=Qd Ye;obtain⟨n,hn⟩:∃n,l.length=n:=⟨_,rfl⟩;rw[hn] at CQ0 HQ hc1 F hA;have CQ:=CQ0;have HN:=Qd hn;have hk0:(0:Int)≤k:=by omega
 have hk4:(k:Int)<4:=by omega
 have hc3:(n:Int)≤(c:Int):=by omega
 have HA:=Qd hA;clear HM0 CQ0 hn hA;by_cases he:er=0
 ·subst he;have hz1:((0:Int) != 0)=false:=rfl;rw[if_neg (by simp)] at F;clear hcode;by_cases hsk:sk=(k:Int)
  ·subst hsk;rw[if_neg (by simp)] at F;have d1:((k:Int) != (k:Int))=false:=by simp
   cases bh;rotate_right
   focus
    by_cases hn0:n=0;rotate_right
    focus
     obtain⟨i,hj9⟩:∃i,n=i+1:=⟨n-1,by omega⟩;obtain⟨p,hp⟩:∃p,l[i]? = Option.some p:=⟨l[i]'(by rw[HN.out];omega),Xj _⟩;obtain⟨b,off,e',hbl,-,hrow⟩:=HQ.out.at_ hp;subst e';have hpl:l.getD (n-1) Ujx=p:=by rw[List.getD_eq_getElem?_getD,show n-1=i by omega,hp];rfl
     rw[hpl] at F;obtain⟨pt,psk,⟨pv0,pv1,pv2⟩⟩:=p;have CP:Hid (∀W,Below w.heap.size w W→W.cell? ⟨b,off+i*5,none⟩=some (.int .i64 pt)):=Qd (fun W hb=>(hb.cell (p:=⟨b,off+i*5,none⟩) hbl).trans (hrow 0 _ rfl));have p1:0<n:=by omega
     have p2:IntKind.i64.wrap ((n:Int)-1)=(i:Int):=by rw[Xf];omega
     have p3:(i:Int)<(n:Int):=by omega
     have p4:(0:Int)≤(i:Int):=by omega
     have HJ:=Qd hj9;dsimp only at F;clear hrow hp hj9 hpl HQ HN HA;by_cases hle:t≤pt;rotate_right
     focus
      have d3:decide (t≤pt)=false:=Xh hle;rw[if_neg (by simp[hle])] at F;by_cases h16:n=16;rotate_right
      focus
       rw[if_neg h16] at F;have d2:((n:Int)==16)=false:=by simp;omega
      rotate_right
      focus
       rw[if_pos h16] at F;have d2:((n:Int)==16)=true:=by simp;omega
      all_goals
       obtain rfl:=F.out;clear F HJ hn0 hle h16;dsimp only;go_enter func78,ntmps78;go_upto_region 3 with fail
       refine Uq fun W0 hW0=>?_
       have D1:Hid (Duo w 45 ml.toArray 40 #[.int .i64 0,.int .i64 0,.int .i64 0,.int .i64 0,.int .i64 0] W0):=Qd (by rw[hW0];exact D0.out);clear hW0 D0;go_wp2_with fail;refine(KR.out _ D1.out.2.2).mono ?_;rintro e w1 ⟨rfl,hb⟩;have D2:=Qd (D1.out.kept hb);clear hb D1 KR;go_wp2_with (with_reducible first|refine Qh 40 ?_|refine Qg 40 ?_);refine Uf.go w1.heap.size rfl rfl (Box.new _ _ _) S5.out rfl (by simp[Value.oneCell']) ?_;go_upto_region 4 with fail
       refine Uq fun W1 hW1=>?_
       have R1:=Qd (WrR.start D2.out hW1);clear hW1 D2;generalize w1.heap.size=g8 at *;have x7:=CQ.out _ R1.out.m;obtain⟨s0,s1,s2,s3,s4⟩:=(Udl R1.out.s).1;go_upto_region 9 with fail
       clear x7 s0 s1 s2 s3 s4;refine Xm (S:=fun w'=>WrR w ml g8 [.int .i64 t,.int .i64 (k:Int),.int .i64 v0,.int .i64 v1,.int .i64 v2] w') (by kernel_rfl) R1.out.drew (fun hHeld=>?_);refine Ux (i:=0) (v := .agg (ml).toArray) rfl rfl (by kernel_rfl) (by kernel_rfl) (by kernel_rfl) (fun _ _ _ h=>h)
        (Xn (by rfl) 45 _ rfl (w.heap.size) (0) rfl (ml) _ (fun _ h=>h.m.rangeA) underlying45 rfl HM.out) hHeld ?_
       simp only[Qz];refine Ux (i:=1) (v := .agg ([.int .i64 t,.int .i64 (k:Int),.int .i64 v0,.int .i64 v1,.int .i64 v2]).toArray) rfl rfl (by kernel_rfl) (by kernel_rfl) (by kernel_rfl) (fun _ _ _ h=>h)
        (Xn (by rfl) 40 _ rfl (g8) (0) rfl ([.int .i64 t,.int .i64 (k:Int),.int .i64 v0,.int .i64 v1,.int .i64 v2]) _ (fun _ h=>h.s.rangeA) underlying40 rfl S5.out) hHeld ?_
       simp only[Qz];refine Qc 2 fun KQ hKQ=>?_
       go_simp;refine(KB.out _).mono ?_;rintro e w3 ⟨rfl,hb⟩;have R2:=Qd (R1.out.drew.kept hb);clear hb;refine hKQ.out _ _ (R2.out) (fun hHeld=>?_);clear hKQ KQ;refine Qn 3 (.bool false) ?_;refine Qn 4 (.bool false) ?_;refine Qn 5 (.int .i64 (n:Int)) ?_;refine Qn 6 (.bool true) ?_;refine Qn 7 (.bool true) ?_;refine Qn 8 (.pointer (some ⟨g8,0,none⟩)) ?_;refine Qe 9 (.int .i64 t) (fun w hw=>?_) ?_
       ·obtain⟨x0,x1,x2,x3,x4⟩:=(Udl hw.s).1;go_simp
       simp only[Qz];refine Qn 10 (.int .i64 (k:Int)) ?_;refine Qn 11 (.pointer (some ⟨w.heap.size,7,none⟩)) ?_;refine Qn 12 (.pointer (some ⟨w.heap.size,7+k,none⟩)) ?_;refine Qe 13 (.slice (some ⟨b,off,none⟩) n c) (fun w hw=>?_) ?_
       ·have x7:=CQ.out _ hw.m;go_simp
       simp only[Qz];refine Qn 14 (.int .i64 (n:Int)) ?_;refine Qn 15 (.int .i64 (i:Int)) ?_;refine Qn 16 (.pointer (some ⟨b,off+i*5,none⟩)) ?_;refine Qn 17 (.pointer (some ⟨b,off+i*5,none⟩)) ?_;refine Qe 18 (.int .i64 pt) (fun w hw=>?_) ?_
       ·have xp:=CP.out _ hw.below;go_simp
       simp only[Qz];refine Qn 19 (.bool false) ?_;refine Qn 20 (.bool false) ?_;refine Qn 21 (.bool false) ?_;refine Qn 22 (.bool false) ?_
     rotate_right
     focus
      have d3:decide (t≤pt)=true:=Xi hle;rw[if_pos (by simp[hle,p1])] at F;obtain rfl:=F.out;clear F HJ hn0 hle;dsimp only;go_enter func78,ntmps78;go_upto_region 3 with fail
      refine Uq fun W0 hW0=>?_
      have D1:Hid (Duo w 45 ml.toArray 40 #[.int .i64 0,.int .i64 0,.int .i64 0,.int .i64 0,.int .i64 0] W0):=Qd (by rw[hW0];exact D0.out);clear hW0 D0;go_wp2_with fail;refine(KR.out _ D1.out.2.2).mono ?_;rintro e w1 ⟨rfl,hb⟩;have D2:=Qd (D1.out.kept hb);clear hb D1 KR;go_wp2_with (with_reducible first|refine Qh 40 ?_|refine Qg 40 ?_);refine Uf.go w1.heap.size rfl rfl (Box.new _ _ _) S5.out rfl (by simp[Value.oneCell']) ?_;go_upto_region 4 with fail
      refine Uq fun W1 hW1=>?_
      have R1:=Qd (WrR.start D2.out hW1);clear hW1 D2;generalize w1.heap.size=g8 at *;have x7:=CQ.out _ R1.out.m;obtain⟨s0,s1,s2,s3,s4⟩:=(Udl R1.out.s).1;go_upto_region 9 with fail
      clear x7 s0 s1 s2 s3 s4;refine Xm (S:=fun w'=>WrR w ml g8 [.int .i64 t,.int .i64 (k:Int),.int .i64 v0,.int .i64 v1,.int .i64 v2] w') (by kernel_rfl) R1.out.drew (fun hHeld=>?_);refine Ux (i:=0) (v := .agg (ml).toArray) rfl rfl (by kernel_rfl) (by kernel_rfl) (by kernel_rfl) (fun _ _ _ h=>h)
       (Xn (by rfl) 45 _ rfl (w.heap.size) (0) rfl (ml) _ (fun _ h=>h.m.rangeA) underlying45 rfl HM.out) hHeld ?_
      simp only[Qz];refine Ux (i:=1) (v := .agg ([.int .i64 t,.int .i64 (k:Int),.int .i64 v0,.int .i64 v1,.int .i64 v2]).toArray) rfl rfl (by kernel_rfl) (by kernel_rfl) (by kernel_rfl) (fun _ _ _ h=>h)
       (Xn (by rfl) 40 _ rfl (g8) (0) rfl ([.int .i64 t,.int .i64 (k:Int),.int .i64 v0,.int .i64 v1,.int .i64 v2]) _ (fun _ h=>h.s.rangeA) underlying40 rfl S5.out) hHeld ?_
      simp only[Qz];refine Qc 2 fun KQ hKQ=>?_
      go_simp;refine(KB.out _).mono ?_;rintro e w3 ⟨rfl,hb⟩;have R2:=Qd (R1.out.drew.kept hb);clear hb;refine hKQ.out _ _ (R2.out) (fun hHeld=>?_);clear hKQ KQ;refine Qn 3 (.bool false) ?_;refine Qn 4 (.bool false) ?_;refine Qn 5 (.int .i64 (n:Int)) ?_;refine Qn 6 (.bool true) ?_;refine Qn 7 (.bool true) ?_;refine Qn 8 (.pointer (some ⟨g8,0,none⟩)) ?_;refine Qe 9 (.int .i64 t) (fun w hw=>?_) ?_
      ·obtain⟨x0,x1,x2,x3,x4⟩:=(Udl hw.s).1;go_simp
      simp only[Qz];refine Qn 10 (.int .i64 (k:Int)) ?_;refine Qn 11 (.pointer (some ⟨w.heap.size,7,none⟩)) ?_;refine Qn 12 (.pointer (some ⟨w.heap.size,7+k,none⟩)) ?_;refine Qe 13 (.slice (some ⟨b,off,none⟩) n c) (fun w hw=>?_) ?_
      ·have x7:=CQ.out _ hw.m;go_simp
      simp only[Qz];refine Qn 14 (.int .i64 (n:Int)) ?_;refine Qn 15 (.int .i64 (i:Int)) ?_;refine Qn 16 (.pointer (some ⟨b,off+i*5,none⟩)) ?_;refine Qn 17 (.pointer (some ⟨b,off+i*5,none⟩)) ?_;refine Qe 18 (.int .i64 pt) (fun w hw=>?_) ?_
      ·have xp:=CP.out _ hw.below;go_simp
      simp only[Qz];refine Qn 19 (.bool true) ?_;refine Qn 20 (.bool true) ?_;refine Qn 21 (.bool true) ?_;refine Qn 22 (.bool true) ?_
    rotate_right
    focus
     have p1:¬0<n:=by omega
     have d2:((n:Int)==16)=false:=by simp;omega
     rw[if_neg (by simp[hn0]),if_neg (by omega)] at F;obtain rfl:=F.out;clear F HA HN HQ;dsimp only;clear hn0;go_enter func78,ntmps78;go_upto_region 3 with fail
     refine Uq fun W0 hW0=>?_
     have D1:Hid (Duo w 45 ml.toArray 40 #[.int .i64 0,.int .i64 0,.int .i64 0,.int .i64 0,.int .i64 0] W0):=Qd (by rw[hW0];exact D0.out);clear hW0 D0;go_wp2_with fail;refine(KR.out _ D1.out.2.2).mono ?_;rintro e w1 ⟨rfl,hb⟩;have D2:=Qd (D1.out.kept hb);clear hb D1 KR;go_wp2_with (with_reducible first|refine Qh 40 ?_|refine Qg 40 ?_);refine Uf.go w1.heap.size rfl rfl (Box.new _ _ _) S5.out rfl (by simp[Value.oneCell']) ?_;go_upto_region 4 with fail
     refine Uq fun W1 hW1=>?_
     have R1:=Qd (WrR.start D2.out hW1);clear hW1 D2;generalize w1.heap.size=g8 at *;have x7:=CQ.out _ R1.out.m;obtain⟨s0,s1,s2,s3,s4⟩:=(Udl R1.out.s).1;go_upto_region 9 with fail
     clear x7 s0 s1 s2 s3 s4;refine Xm (S:=fun w'=>WrR w ml g8 [.int .i64 t,.int .i64 (k:Int),.int .i64 v0,.int .i64 v1,.int .i64 v2] w') (by kernel_rfl) R1.out.drew (fun hHeld=>?_);refine Ux (i:=0) (v := .agg (ml).toArray) rfl rfl (by kernel_rfl) (by kernel_rfl) (by kernel_rfl) (fun _ _ _ h=>h)
      (Xn (by rfl) 45 _ rfl (w.heap.size) (0) rfl (ml) _ (fun _ h=>h.m.rangeA) underlying45 rfl HM.out) hHeld ?_
     simp only[Qz];refine Ux (i:=1) (v := .agg ([.int .i64 t,.int .i64 (k:Int),.int .i64 v0,.int .i64 v1,.int .i64 v2]).toArray) rfl rfl (by kernel_rfl) (by kernel_rfl) (by kernel_rfl) (fun _ _ _ h=>h)
      (Xn (by rfl) 40 _ rfl (g8) (0) rfl ([.int .i64 t,.int .i64 (k:Int),.int .i64 v0,.int .i64 v1,.int .i64 v2]) _ (fun _ h=>h.s.rangeA) underlying40 rfl S5.out) hHeld ?_
     simp only[Qz];refine Qc 2 fun KQ hKQ=>?_
     go_simp;refine(KB.out _).mono ?_;rintro e w3 ⟨rfl,hb⟩;have R2:=Qd (R1.out.drew.kept hb);clear hb;refine hKQ.out _ _ (R2.out) (fun hHeld=>?_);clear hKQ KQ;refine Qn 3 (.bool false) ?_;refine Qn 4 (.bool false) ?_;refine Qn 5 (.int .i64 (n:Int)) ?_;refine Qn 6 (.bool false) ?_;refine Qn 7 (.bool false) ?_;refine Qm 8 ?_;refine Qm 9 ?_;refine Qm 10 ?_;refine Qm 11 ?_;refine Qm 12 ?_;refine Qm 13 ?_;refine Qm 14 ?_;refine Qm 15 ?_;refine Qm 16 ?_;refine Qm 17 ?_;refine Qm 18 ?_;refine Qm 19 ?_;refine Qn 20 (.bool false) ?_;refine Qn 21 (.bool false) ?_;refine Qn 22 (.bool false) ?_
   rotate_right
   focus
    rw[if_pos (by simp)] at F;obtain rfl:=F.out;clear F HA HN HQ;dsimp only;go_enter func78,ntmps78;go_upto_region 3 with fail
    refine Uq fun W0 hW0=>?_
    have D1:Hid (Duo w 45 ml.toArray 40 #[.int .i64 0,.int .i64 0,.int .i64 0,.int .i64 0,.int .i64 0] W0):=Qd (by rw[hW0];exact D0.out);clear hW0 D0;go_wp2_with fail;refine(KR.out _ D1.out.2.2).mono ?_;rintro e w1 ⟨rfl,hb⟩;have D2:=Qd (D1.out.kept hb);clear hb D1 KR;go_wp2_with (with_reducible first|refine Qh 40 ?_|refine Qg 40 ?_);refine Uf.go w1.heap.size rfl rfl (Box.new _ _ _) S5.out rfl (by simp[Value.oneCell']) ?_;go_upto_region 4 with fail
    refine Uq fun W1 hW1=>?_
    have R1:=Qd (WrR.start D2.out hW1);clear hW1 D2;generalize w1.heap.size=g8 at *;have x7:=CQ.out _ R1.out.m;obtain⟨s0,s1,s2,s3,s4⟩:=(Udl R1.out.s).1;go_upto_region 9 with fail
    clear x7 s0 s1 s2 s3 s4;refine Xm (S:=fun w'=>WrR w ml g8 [.int .i64 t,.int .i64 (k:Int),.int .i64 v0,.int .i64 v1,.int .i64 v2] w') (by kernel_rfl) R1.out.drew (fun hHeld=>?_);refine Ux (i:=0) (v := .agg (ml).toArray) rfl rfl (by kernel_rfl) (by kernel_rfl) (by kernel_rfl) (fun _ _ _ h=>h)
     (Xn (by rfl) 45 _ rfl (w.heap.size) (0) rfl (ml) _ (fun _ h=>h.m.rangeA) underlying45 rfl HM.out) hHeld ?_
    simp only[Qz];refine Ux (i:=1) (v := .agg ([.int .i64 t,.int .i64 (k:Int),.int .i64 v0,.int .i64 v1,.int .i64 v2]).toArray) rfl rfl (by kernel_rfl) (by kernel_rfl) (by kernel_rfl) (fun _ _ _ h=>h)
     (Xn (by rfl) 40 _ rfl (g8) (0) rfl ([.int .i64 t,.int .i64 (k:Int),.int .i64 v0,.int .i64 v1,.int .i64 v2]) _ (fun _ h=>h.s.rangeA) underlying40 rfl S5.out) hHeld ?_
    simp only[Qz];refine Qc 2 fun KQ hKQ=>?_
    go_simp;refine(KB.out _).mono ?_;rintro e w3 ⟨rfl,hb⟩;have R2:=Qd (R1.out.drew.kept hb);clear hb;refine hKQ.out _ _ (R2.out) (fun hHeld=>?_);clear hKQ KQ;refine Qn 3 (.bool true) ?_;refine Qn 4 (.bool true) ?_;refine Qm 5 ?_;refine Qm 6 ?_;refine Qm 7 ?_;refine Qm 8 ?_;refine Qm 9 ?_;refine Qm 10 ?_;refine Qm 11 ?_;refine Qm 12 ?_;refine Qm 13 ?_;refine Qm 14 ?_;refine Qm 15 ?_;refine Qm 16 ?_;refine Qm 17 ?_;refine Qm 18 ?_;refine Qm 19 ?_;refine Qm 20 ?_;refine Qn 21 (.bool true) ?_;refine Qn 22 (.bool true) ?_
   all_goals
    refine Xl (by kernel_rfl) ?_ _;clear hHeld R1 KB;go_wp2_with (with_reducible first|refine Qh 40 ?_|refine Qg 40 ?_);refine Uo.go g8 rfl R2.out.s underlying40 rfl S5.out ?_;go_wp2_with (with_reducible first|refine Qh 40 ?_|refine Qg 40 ?_);refine Uf.go (w.heap.size+1) rfl rfl R2.out.r S5.out rfl (by simp[Value.oneCell']) ?_;go_wp2_with fail;exact Xk (Ud results78 _ _ (w.heap.size+1) 40 _ (0,0) _ rfl (R2.out.r.row _) underlying40 rfl S5.out) rfl ⟨rfl,Uc R2.out.below (by omega) _⟩
  ·have d1:(sk != (k:Int))=true:=by simpa using hsk
   rw[if_pos hsk] at F;obtain rfl:=F.out;clear F HA HN HQ hsk;dsimp only;go_enter func78,ntmps78;go_upto_region 3 with fail
   refine Uq fun W0 hW0=>?_
   have D1:Hid (Duo w 45 ml.toArray 40 #[.int .i64 0,.int .i64 0,.int .i64 0,.int .i64 0,.int .i64 0] W0):=Qd (by rw[hW0];exact D0.out);clear hW0 D0;go_wp2_with fail;refine(KR.out _ D1.out.2.2).mono ?_;rintro e w1 ⟨rfl,hb⟩;have D2:=Qd (D1.out.kept hb);clear hb D1 KR;go_wp2_with (with_reducible first|refine Qh 40 ?_|refine Qg 40 ?_);refine Uf.go w1.heap.size rfl rfl (Box.new _ _ _) S5.out rfl (by simp[Value.oneCell']) ?_;go_upto_region 4 with fail
   refine Uq fun W1 hW1=>?_
   have R1:=Qd (WrR.start D2.out hW1);clear hW1 D2;generalize w1.heap.size=g8 at *;have x7:=CQ.out _ R1.out.m;obtain⟨s0,s1,s2,s3,s4⟩:=(Udl R1.out.s).1;go_wp2_with (with_reducible first|refine Qh 40 ?_|refine Qg 40 ?_);refine Uo.go g8 rfl R1.out.s underlying40 rfl S5.out ?_;go_wp2_with (with_reducible first|refine Qh 40 ?_|refine Qg 40 ?_);refine Uf.go (w.heap.size+1) rfl rfl R1.out.r S5.out rfl (by simp[Value.oneCell']) ?_;go_wp2_with fail;exact Xk (Ud results78 _ _ (w.heap.size+1) 40 _ (0,0) _ rfl (R1.out.r.row _) underlying40 rfl S5.out) rfl ⟨rfl,Uc R1.out.below (by omega) _⟩
 ·have d0:(er != 0)=true:=by simpa using he
  rw[if_pos he] at F;obtain rfl:=F.out;have hnn:((er.toNat:Nat):Int)=er:=by omega
  dsimp only;rw[hnn];clear F HA HN HQ he hcode hnn;go_enter func78,ntmps78;go_upto_region 3 with fail
  refine Uq fun W0 hW0=>?_
  have D1:Hid (Duo w 45 ml.toArray 40 #[.int .i64 0,.int .i64 0,.int .i64 0,.int .i64 0,.int .i64 0] W0):=Qd (by rw[hW0];exact D0.out);clear hW0 D0;go_wp2_with fail;refine(KR.out _ D1.out.2.2).mono ?_;rintro e w1 ⟨rfl,hb⟩;have D2:=Qd (D1.out.kept hb);clear hb D1 KR;go_wp2_with (with_reducible first|refine Qh 40 ?_|refine Qg 40 ?_);refine Uf.go w1.heap.size rfl rfl (Box.new _ _ _) S5.out rfl (by simp[Value.oneCell']) ?_;go_upto_region 4 with fail
  refine Uq fun W1 hW1=>?_
  have R1:=Qd (WrR.start D2.out hW1);clear hW1 D2;generalize w1.heap.size=g8 at *;have x7:=CQ.out _ R1.out.m;obtain⟨s0,s1,s2,s3,s4⟩:=(Udl R1.out.s).1;go_wp2_with (with_reducible first|refine Qh 40 ?_|refine Qg 40 ?_);refine Uo.go g8 rfl R1.out.s underlying40 rfl S5.out ?_;go_wp2_with (with_reducible first|refine Qh 40 ?_|refine Qg 40 ?_);refine Uf.go (w.heap.size+1) rfl rfl R1.out.r S5.out rfl (by simp[Value.oneCell']) ?_;go_wp2_with fail;exact Xk (Ud results78 _ _ (w.heap.size+1) 40 _ (0,0) _ rfl (R1.out.r.row _) underlying40 rfl S5.out) rfl ⟨rfl,Uc R1.out.below (by omega) _⟩
end Go.Proofs.YtdaflmjfeoacaaaGreat
