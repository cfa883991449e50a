/- Part of the proof of TopTry, TopSplit: SaD, AxC, AxD. Conditions: none. -/
import Derived.Test.YtdaflmjfeoacaaaGreatZbas
import Derived.StillTailTactics
set_option linter.all false
set_option maxHeartbeats 16000000
set_option maxRecDepth 4000
namespace Go.Proofs.YtdaflmjfeoacaaaGreat
open Tryz
open Go.RowKit
def Ujx:Smp:=⟨0,0,⟨0,0,0⟩⟩
def Ubo (n:Int):Int:=IntKind.i64.wrap n
def Uqh (ms:List Int):Smp:=⟨Ubo (ms.getD 0 0),Ubo (ms.getD 1 0),⟨Ubo (ms.getD 2 0),Ubo (ms.getD 3 0),Ubo (ms.getD 4 0)⟩⟩
def Zd (ms:List Int):Smp×Int :=
 if ms.length≠6 then (Ujx,5) else if Uin (ms.take 5)≠ms.getD 5 0 then (Ujx,2) else if Ubg (Uqh ms) then (Uqh ms,0) else (Ujx,1)
def Uhq (r:Smp×Int)(w:World)(e:Ending)(w':World):Prop:=e = .returned (.tuple #[Udr r.1,.int .i64 r.2])∧Below w.heap.size w w'
theorem U7l (g:Nat):∀w,(Instr.arrayAt 24 (.slice (some ⟨g,2,none⟩) 3 3)).run prog w = .ok (.pointer (some ⟨g,2,none⟩)) w:=fun _=>by kernel_rfl
theorem U8s {ms:List Int}(h:ms.length=6):∃a b c d e f,ms=[a,b,c,d,e,f]:=by
 match ms,h with
 | [a,b,c,d,e,f],_=>exact⟨a,b,c,d,e,f,rfl⟩
theorem Ulk {v:Value}{ms:List Int}{w:World}(h:Yx w v ms):Calls prog 65 #[v] w (Uhq (Zd ms) w):=by
 obtain⟨A,c,rfl,hc1,hc2,hA⟩:=h.1.form;unfold maxLen at hc2;by_cases hn:ms.length=6
 ·obtain⟨m0,m1,m2,m3,m4,m5,rfl⟩:=U8s hn;have H:=Qd h;obtain⟨b,off,hA2,hbl,c0⟩:∃b off,A=some ⟨b,off,none⟩∧b<w.heap.size∧w.cell? ⟨b,off+0,none⟩=some (.int .u64 m0):=h.at_ (k:=0) rfl (by simp);subst hA2;have hat:∀k,k<6→w.cell? ⟨b,off+k,none⟩=some (.int .u64 ([m0,m1,m2,m3,m4,m5].getD k 0)):=fun k hk=>by
   obtain⟨b',off',e,_,hh⟩:=h.at_ (k:=k) rfl (by simpa using hk);cases e;exact hh
  have HC:Hid (∀W,Below w.heap.size w W→(W.cell? ⟨b,off,none⟩=some (.int .u64 m0)∧W.cell? ⟨b,off+1,none⟩=some (.int .u64 m1)∧W.cell? ⟨b,off+2,none⟩=some (.int .u64 m2)∧W.cell? ⟨b,off+3,none⟩=some (.int .u64 m3)∧W.cell? ⟨b,off+4,none⟩=some (.int .u64 m4))∧W.cell? ⟨b,off+5,none⟩=some (.int .u64 m5)) :=
   Qd (fun W hb=>⟨⟨(hb.cell (p:=⟨b,off,none⟩) hbl).trans (hat 0 (by omega)),(hb.cell (p:=⟨b,off+1,none⟩) hbl).trans (hat 1 (by omega)),(hb.cell (p:=⟨b,off+2,none⟩) hbl).trans (hat 2 (by omega)),(hb.cell (p:=⟨b,off+3,none⟩) hbl).trans (hat 3 (by omega)),(hb.cell (p:=⟨b,off+4,none⟩) hbl).trans (hat 4 (by omega))⟩,(hb.cell (p:=⟨b,off+5,none⟩) hbl).trans (hat 5 (by omega))⟩)
  have KM:Hid (∀W,Below w.heap.size w W→Calls prog 31 #[.slice (some ⟨b,off,none⟩) 5 c] W (fun e w'=>e = .returned (.int .u64 (Uin [m0,m1,m2,m3,m4]))∧W=w')):=Qd (fun W hb=>by
   have h5:Yx w (.slice (some ⟨b,off,none⟩) 5 c) [m0,m1,m2,m3,m4]:=by
    refine⟨?_,fun x hx=>h.2 x (List.mem_of_mem_take (show x∈[m0,m1,m2,m3,m4,m5].take 5 from hx))⟩;have:=Sl.take_ (k:=5) h.1 (by simp);simpa [Uam] using this
   exact Uhp (h5.below hb) (by simp))
  have KS:=Qd (fun w=>Uds (Uqh [m0,m1,m2,m3,m4,m5]) w);have F:Hid (Zd [m0,m1,m2,m3,m4,m5]=if Uin [m0,m1,m2,m3,m4]≠m5 then (Ujx,2) else if Ubg (Uqh [m0,m1,m2,m3,m4,m5]) then (Uqh [m0,m1,m2,m3,m4,m5],0) else (Ujx,1)):=Qd rfl;rw[F.out];clear F;have e0:Uqh [m0,m1,m2,m3,m4,m5]=⟨Ubo m0,Ubo m1,⟨Ubo m2,Ubo m3,Ubo m4⟩⟩:=rfl;rw[e0] at KS ⊢;clear e0;generalize Uin [m0,m1,m2,m3,m4]=sm at *;have HI0:=Qd (show Ubo m0=IntKind.i64.wrap m0 from rfl);have HI1:=Qd (show Ubo m1=IntKind.i64.wrap m1 from rfl);have HI2:=Qd (show Ubo m2=IntKind.i64.wrap m2 from rfl);have HI3:=Qd (show Ubo m3=IntKind.i64.wrap m3 from rfl);have HI4:=Qd (show Ubo m4=IntKind.i64.wrap m4 from rfl);generalize Ubo m0=k0 at *;generalize Ubo m1=k1 at *;generalize Ubo m2=k2 at *;generalize Ubo m3=k3 at *;generalize Ubo m4=k4 at *;have q0:=HI0.out.symm;have q1:=HI1.out.symm;have q2:=HI2.out.symm;have q3:=HI3.out.symm;have q4:=HI4.out.symm;have hcc:(6:Int)≤(c:Int):=by simp at hc1;omega
  have H0:Hid (Below w.heap.size w (w.alloc (.cells #[.int .i64 0,.int .i64 0,.int .i64 0,.int .i64 0,.int .i64 0] 40))):=Qd ((Xb _ w).alloc (Xa _) _);have H0d:Hid (Below w.heap.size w (w.alloc (.cells #[.int .i64 0,.int .i64 0,.int .i64 0,.int .i64 0,.int .i64 0] 40)).drew):=Qd (Ue H0.out 1);have S0:=Qd (HC.out _ H0d.out).2;clear h hA hc1 hc2 hat c0 hn H;simp only[List.length_cons,List.length_nil,Nat.reduceAdd];by_cases hs:sm=m5
  ·rw[if_neg (by simp[hs])];subst hs;have e1:(sm != sm)=false:=by simp
   have e2:(sm==sm)=true:=by simp
   dsimp only[Udr,Smp.cells] at KS;by_cases hS:Ubg ⟨k0,k1,⟨k2,k3,k4⟩⟩;rotate_right
   focus
    rw[if_neg hS];rw[Xh hS] at KS;clear hS;refine Calls.mono (R:=fun e w'=>e = .returned (.tuple #[.agg #[.int .i64 0,.int .i64 0,.int .i64 0,.int .i64 0,.int .i64 0],.int .i64 1])∧Below w.heap.size w w') ?_ (fun e w' hh=>hh)
   rotate_right
   focus
    rw[if_pos hS];rw[Xi hS] at KS;clear hS;refine Calls.mono (R:=fun e w'=>e = .returned (.tuple #[.agg #[.int .i64 k0,.int .i64 k1,.int .i64 k2,.int .i64 k3,.int .i64 k4],.int .i64 0])∧Below w.heap.size w w') ?_ (fun e w' hh=>hh)
   all_goals
    go_enter func65,ntmps65;go_upto_region 3 with fail
    go_region_held (fun w'=>w'.cell? ⟨b,off+5,none⟩=some (.int .u64 sm)) (first|exact S0.out) (first|(go_at_call 31;refine(KM.out _ H0d.out).mono ?_;rintro e w1 ⟨rfl,rfl⟩));rename_i hz;clear hz;go_upto_region 6 with fail
    refine Uq fun W0 hW0=>?_
    have BZ:Hid (Box W0 w.heap.size 40 #[.int .i64 0,.int .i64 0,.int .i64 0,.int .i64 0,.int .i64 0]):=Qd (by rw[hW0];exact((Box.new w _ _).alloc _).drew);have BA:Hid (Box W0 (w.heap.size+1) 91 #[.int .i64 0,.int .i64 0,.int .i64 0,.int .i64 0,.int .i64 0]):=Qd (by rw[hW0];exact(Box.at_ (by simp) _ _).drew);have HB:Hid (Below w.heap.size w W0):=Qd (by rw[hW0];exact Ue (H0.out.alloc (by simp) _) 1);clear hW0;obtain⟨⟨c0,c1,c2,c3,c4⟩,_⟩:=HC.out _ HB.out;obtain⟨⟨a0,a1,a2,a3,a4⟩,_⟩:=Udl BA.out;have hne:b≠w.heap.size+1:=by omega
    go_wp2_with fail;refine wp_loop_rounds 6 ?_;rw[Xq];go_wp2_with fail;rw[Xq];go_wp2_with fail;rw[Xq];go_wp2_with fail;rw[Xq];go_wp2_with fail;rw[Xq];go_wp2_with fail;rw[Xq];go_upto_region 11 with fail
    refine Uq fun W1 hW1=>?_
    have BA2:Hid (Box W1 (w.heap.size+1) 91 #[.int .i64 k0,.int .i64 k1,.int .i64 k2,.int .i64 k3,.int .i64 k4]):=Qd (by rw[hW1];exact((((BA.out.set_ 0 _).set_ 1 _).set_ 2 _).set_ 3 _).set_ 4 _);have BZ2:Hid (Box W1 w.heap.size 40 #[.int .i64 0,.int .i64 0,.int .i64 0,.int .i64 0,.int .i64 0]):=Qd (by rw[hW1];exact((((BZ.out.far (by simp) _).far (by simp) _).far (by simp) _).far (by simp) _).far (by simp) _);have HB2:Hid (Below w.heap.size w W1):=Qd (by rw[hW1];exact((((HB.out.setCell (by simp) _).setCell (by simp) _).setCell (by simp) _).setCell (by simp) _).setCell (by simp) _);clear hW1 BZ BA HB a0 a1 a2 a3 a4 c0 c1 c2 c3 c4;generalize w.heap.size+1=g at *;have SA:=U7l g;have CE:Hid (∀W,Box W g 91 #[.int .i64 k0,.int .i64 k1,.int .i64 k2,.int .i64 k3,.int .i64 k4]→W.cell? ⟨g,0,none⟩=some (.int .i64 k0)∧W.cell? ⟨g,1,none⟩=some (.int .i64 k1)∧W.cell? ⟨g,2,none⟩=some (.int .i64 k2)∧W.cell? ⟨g,3,none⟩=some (.int .i64 k3)∧W.cell? ⟨g,4,none⟩=some (.int .i64 k4)):=Qd (fun W H=>(Udl H).1);refine Xm (S:=fun w'=>w'.cell? ⟨g,0,none⟩=some (.int .i64 k0)∧w'.cell? ⟨g,1,none⟩=some (.int .i64 k1)∧w'.cell? ⟨g,2,none⟩=some (.int .i64 k2)∧w'.cell? ⟨g,3,none⟩=some (.int .i64 k3)∧w'.cell? ⟨g,4,none⟩=some (.int .i64 k4)) (by kernel_rfl) (CE.out _ BA2.out.drew) (fun hHeld=>?_);refine Qn 0 (.pointer (some ⟨g,0,none⟩)) ?_;refine Qe 1 (.int .i64 k0) (fun w hw=>?_) ?_
    ·obtain⟨y0,y1,y2,y3,y4⟩:=hw;go_simp
    simp only[Qz];refine Qn 2 (.pointer (some ⟨g,1,none⟩)) ?_;refine Qe 3 (.int .i64 k1) (fun w hw=>?_) ?_
    ·obtain⟨y0,y1,y2,y3,y4⟩:=hw;go_simp
    simp only[Qz];refine Qn 4 (.slice (some ⟨g,2,none⟩) 3 3) ?_;refine Qn 5 (.pointer (some ⟨g,2,none⟩)) ?_;refine Qe 6 (.agg #[.int .i64 k2,.int .i64 k3,.int .i64 k4]) (fun w hw=>?_) ?_
    ·obtain⟨y0,y1,y2,y3,y4⟩:=hw;go_simp
    simp only[Qz];refine Qn 7 (.agg #[.int .i64 k0,.int .i64 k1,.int .i64 k2,.int .i64 k3,.int .i64 k4]) ?_;refine Qc 8 fun KQ hKQ=>?_
    go_simp;refine hKQ.out _ _ (CE.out _ (BA2.out.drew.alloc _)) (fun hHeld=>?_);clear hKQ KQ;have B9:Hid (Box (W1.alloc (.cells #[.int .i64 0,.int .i64 0,.int .i64 0,.int .i64 0,.int .i64 0] 40)).drew W1.heap.size 40 #[.int .i64 0,.int .i64 0,.int .i64 0,.int .i64 0,.int .i64 0]):=Qd (Box.new W1 _ _).drew;have BZ3:Hid (Box (W1.alloc (.cells #[.int .i64 0,.int .i64 0,.int .i64 0,.int .i64 0,.int .i64 0] 40)).drew w.heap.size 40 #[.int .i64 0,.int .i64 0,.int .i64 0,.int .i64 0,.int .i64 0]):=Qd (BZ2.out.alloc _).drew;have BA3:=Qd (BA2.out.alloc (.cells #[.int .i64 0,.int .i64 0,.int .i64 0,.int .i64 0,.int .i64 0] 40)).drew;have HB3:=Qd (Ue (HB2.out.alloc HB2.out.size (.cells #[.int .i64 0,.int .i64 0,.int .i64 0,.int .i64 0,.int .i64 0] 40)) 1);have hg1:w.heap.size<W1.heap.size:=BZ2.out.lt;have hg2:g<W1.heap.size:=BA2.out.lt;clear BA2 BZ2 HB2 SA
    change Hid (Below w.heap.size w (W1.alloc (.cells #[.int .i64 0,.int .i64 0,.int .i64 0,.int .i64 0,.int .i64 0] 40)).drew) at HB3
    generalize (W1.alloc (.cells #[.int .i64 0,.int .i64 0,.int .i64 0,.int .i64 0,.int .i64 0] 40)).drew=W2 at *;generalize W1.heap.size=g9 at *;obtain⟨⟨d0,d1,d2,d3,d4⟩,f0,f1,f2,f3,f4⟩:=Udl B9.out;refine Qc 9 fun KQ hKQ=>?_
    go_simp;refine hKQ.out _ _ (CE.out _ (((((BA3.out.far (by dsimp only;omega) _).far (by dsimp only;omega) _).far (by dsimp only;omega) _).far (by dsimp only;omega) _).far (by dsimp only;omega) _)) (fun hHeld=>?_);clear hKQ KQ d0 d1 d2 d3 d4 f0 f1 f2 f3 f4;refine Xl (by kernel_rfl) ?_ _;clear hHeld CE BA3;refine Yn fun W3 hW3=>?_
    have B4:Hid (Box W3 g9 40 #[.int .i64 k0,.int .i64 k1,.int .i64 k2,.int .i64 k3,.int .i64 k4]):=Qd (by rw[hW3];exact((((B9.out.set_ 0 _).set_ 1 _).set_ 2 _).set_ 3 _).set_ 4 _);have BZ4:Hid (Box W3 w.heap.size 40 #[.int .i64 0,.int .i64 0,.int .i64 0,.int .i64 0,.int .i64 0]):=Qd (by rw[hW3];exact(((((BZ3.out.far (by dsimp only;omega) _).far (by dsimp only;omega) _).far (by dsimp only;omega) _).far (by dsimp only;omega) _).far (by dsimp only;omega) _));have HB4:Hid (Below w.heap.size w W3):=Qd (by rw[hW3];exact((((HB3.out.setCell (by simp;omega) _).setCell (by simp;omega) _).setCell (by simp;omega) _).setCell (by simp;omega) _).setCell (by simp;omega) _);clear hW3 B9 BZ3 HB3;obtain⟨⟨d0,d1,d2,d3,d4⟩,_⟩:=Udl B4.out;go_wp2_with fail;refine(KS.out _).mono ?_;rintro e w5 ⟨rfl,hb⟩;have B5:=Qd (B4.out.kept hb);have BZ5:=Qd (BZ4.out.kept hb);have HB5:=Qd (Ua HB4.out hb HB4.out.size);clear hb B4 BZ4 HB4 KS d0 d1 d2 d3 d4;obtain⟨⟨d0,d1,d2,d3,d4⟩,_⟩:=Udl B5.out;obtain⟨⟨z0,z1,z2,z3,z4⟩,_⟩:=Udl BZ5.out;go_wp2_with fail;exact Xk (Ud results65 _ _ w.heap.size 40 _ (0,0) _ rfl (((((BZ5.out.set_ 0 _).set_ 1 _).set_ 2 _).set_ 3 _).set_ 4 _) underlying40 rfl Ye) rfl ⟨rfl,((((HB5.out.setCell (Xa _) _).setCell (Xa _) _).setCell (Xa _) _).setCell (Xa _) _).setCell (Xa _) _⟩
  ·rw[if_pos hs];have e1:(sm != m5)=true:=by simp[hs]
   have e2:(sm==m5)=false:=by simp[hs]
   dsimp only[Uhq,Udr,Smp.cells,Ujx];clear hs;go_enter func65,ntmps65;go_upto_region 3 with fail
   go_region_held (fun w'=>w'.cell? ⟨b,off+5,none⟩=some (.int .u64 m5)) (first|exact S0.out) (first|(go_at_call 31;refine(KM.out _ H0d.out).mono ?_;rintro e w1 ⟨rfl,rfl⟩));rename_i hz;clear hz;go_wp2_with fail;exact Xk (Ud results65 _ _ w.heap.size 40 _ (0,0) _ rfl ((Box.new w _ _).drew) underlying40 rfl Ye) rfl ⟨rfl,H0d.out⟩
 ·have F:Hid (Zd ms=(Ujx,5)):=Qd (by unfold Zd;rw[if_pos hn]);rw[F.out];have HN:=Qd hn;obtain⟨n,hnn⟩:∃n,ms.length=n:=⟨_,rfl⟩;rw[hnn];have e1:((n:Int) != 6)=true:=by have:=HN.out;simp;omega
  have e2:((n:Int)==6)=false:=by have:=HN.out;simp;omega
  clear F h hA hc1 hc2 hn hnn;dsimp only[Uhq,Udr,Smp.cells,Ujx];go_enter func65,ntmps65;go_wp2_with fail;exact Xk (Ud results65 _ _ w.heap.size 40 _ (0,0) _ rfl (Box.new w _ _) underlying40 rfl Ye) rfl ⟨rfl,(Xb _ w).alloc (Xa _) _⟩
structure PrR (w:World) (b:Nat) (f:Bool) (x:Axs) (go:Nat) (o:Array Value) (W:World):Prop where
 ak:Box W b 223 (U5 f x)
 o:Box W go 49 o
 res:Box W (w.heap.size+1) 49 #[.int .i64 0,.int .i64 0,.int .i64 0,.int .i64 0,.int .i64 0,.bool false]
 lb:w.heap.size+1<b
 ne:go≠b
 lg:w.heap.size+1<go
 below:Below w.heap.size w W
section
variable {w W W':World} {b go:Nat} {f f':Bool} {x x':Axs} {o:Array Value}
theorem PrR.kept (H:PrR w b f x go o W)(hb:Below W.heap.size W W'):PrR w b f x go o W':=⟨H.ak.kept hb,H.o.kept hb,H.res.kept hb,H.lb,H.ne,H.lg,Ua H.below hb H.below.size⟩
theorem PrR.drew (H:PrR w b f x go o W):PrR w b f x go o W.drew:=⟨H.ak.drew,H.o.drew,H.res.drew,H.lb,H.ne,H.lg,Ue H.below 1⟩
theorem PrR.turned (H:PrR w b f x go o W)(hk:Box W' b 223 (U5 f' x'))(hg:W.grownBy W' (some b)):PrR w b f' x' go o W' :=
 ⟨hk,H.o.grown hg H.ne,H.res.grown hg (by have:=H.lb;omega),H.lb,H.ne,H.lg,Ucn H.below hg H.below.size (by have:=H.lb;omega)⟩
theorem PrR.set1 (H:PrR w b f x go o W)(n:Int):PrR w b f { x with p:=n } go o (W.setCell ⟨b,1,none⟩ (.int .i64 n)):=H.turned (H.ak.set_ 1 _) (Uh _ _ _ _)
theorem PrR.put1 (H:PrR w b f x go o W){n:Int}(hW:W'=W.setCell ⟨b,1,none⟩ (.int .i64 n)):PrR w b f { x with p:=n } go o W':=by rw[hW];exact H.set1 n
theorem PrR.at1 (H:PrR w b f x go o W):W.cell? ⟨b,1,none⟩=some (.int .i64 x.p)∧W.frozen? ⟨b,1,none⟩=false:=⟨H.ak.cell 1,H.ak.frozen 1⟩
theorem PrR.set2 (H:PrR w b f x go o W)(n:Int):PrR w b f { x with v:=n } go o (W.setCell ⟨b,2,none⟩ (.int .i64 n)):=H.turned (H.ak.set_ 2 _) (Uh _ _ _ _)
theorem PrR.put2 (H:PrR w b f x go o W){n:Int}(hW:W'=W.setCell ⟨b,2,none⟩ (.int .i64 n)):PrR w b f { x with v:=n } go o W':=by rw[hW];exact H.set2 n
theorem PrR.at2 (H:PrR w b f x go o W):W.cell? ⟨b,2,none⟩=some (.int .i64 x.v)∧W.frozen? ⟨b,2,none⟩=false:=⟨H.ak.cell 2,H.ak.frozen 2⟩
theorem PrR.set3 (H:PrR w b f x go o W)(n:Int):PrR w b f { x with pp:=n } go o (W.setCell ⟨b,3,none⟩ (.int .i64 n)):=H.turned (H.ak.set_ 3 _) (Uh _ _ _ _)
theorem PrR.put3 (H:PrR w b f x go o W){n:Int}(hW:W'=W.setCell ⟨b,3,none⟩ (.int .i64 n)):PrR w b f { x with pp:=n } go o W':=by rw[hW];exact H.set3 n
theorem PrR.at3 (H:PrR w b f x go o W):W.cell? ⟨b,3,none⟩=some (.int .i64 x.pp)∧W.frozen? ⟨b,3,none⟩=false:=⟨H.ak.cell 3,H.ak.frozen 3⟩
theorem PrR.set4 (H:PrR w b f x go o W)(n:Int):PrR w b f { x with pv:=n } go o (W.setCell ⟨b,4,none⟩ (.int .i64 n)):=H.turned (H.ak.set_ 4 _) (Uh _ _ _ _)
theorem PrR.put4 (H:PrR w b f x go o W){n:Int}(hW:W'=W.setCell ⟨b,4,none⟩ (.int .i64 n)):PrR w b f { x with pv:=n } go o W':=by rw[hW];exact H.set4 n
theorem PrR.at4 (H:PrR w b f x go o W):W.cell? ⟨b,4,none⟩=some (.int .i64 x.pv)∧W.frozen? ⟨b,4,none⟩=false:=⟨H.ak.cell 4,H.ak.frozen 4⟩
theorem PrR.set5 (H:PrR w b f x go o W)(n:Int):PrR w b f { x with vv:=n } go o (W.setCell ⟨b,5,none⟩ (.int .i64 n)):=H.turned (H.ak.set_ 5 _) (Uh _ _ _ _)
theorem PrR.put5 (H:PrR w b f x go o W){n:Int}(hW:W'=W.setCell ⟨b,5,none⟩ (.int .i64 n)):PrR w b f { x with vv:=n } go o W':=by rw[hW];exact H.set5 n
theorem PrR.at5 (H:PrR w b f x go o W):W.cell? ⟨b,5,none⟩=some (.int .i64 x.vv)∧W.frozen? ⟨b,5,none⟩=false:=⟨H.ak.cell 5,H.ak.frozen 5⟩
end
theorem Uqi (akept:∀{b:Nat}{f:Bool}{x:Axs}{w:World},Box w b 223 (U5 f x)→Calls prog 135 #[.pointer (some ⟨b,0,none⟩)] w (Ub (axv (Udk x f)) w))
  (x:Axs) (a dt q:Int) (w:World) (h1:chg a=false) (h2:¬dt<0) (h3:¬1099511627776<dt) (h4:¬q<0) (h5:¬1099511627776<q) :
  Calls prog 108 #[axv x,.int .i64 a,.int .i64 dt,.int .i64 q] w (Ub (axv (Zl x a dt q)) w):=by
 have F:Hid (Zl x a dt q=_):=Qd (show Zl x a dt q=Udk
  ⟨(Ubh (Uj x).p (Up (Uj x).v dt).1).1,(Ubh (Uj x).v (Up a dt).1).1,
   (Ubh (Ubh (Uj x).pp (Up (Uj x).pv (2*dt)).1).1 (Up (Up (Uj x).vv dt).1 dt).1).1,(Ubh (Uj x).pv (Up (Uj x).vv dt).1).1,
   (Ubh (Uj x).vv (Up q dt).1).1,(Uj x).bad⟩
  ((Up (Uj x).vv dt).2||(Up (Uj x).v dt).2||(Ubh (Uj x).p (Up (Uj x).v dt).1).2||(Up a dt).2||(Ubh (Uj x).v (Up a dt).1).2 ||
   (Up (Uj x).pv (2*dt)).2||(Ubh (Uj x).pp (Up (Uj x).pv (2*dt)).1).2||(Up (Up (Uj x).vv dt).1 dt).2||(Ubh (Ubh (Uj x).pp (Up (Uj x).pv (2*dt)).1).1 (Up (Up (Uj x).vv dt).1 dt).1).2 ||
   (Ubh (Uj x).pv (Up (Uj x).vv dt).1).2||(Up q dt).2||(Ubh (Uj x).vv (Up q dt).1).2) by
  unfold Zl;dsimp only;rw[if_neg (by rw[h1];simp;omega)])
 rw[F.out];clear F;generalize hres:Udk _ _=RES;have HRES:=Qd hres;clear hres;have KB:=Qd (fun w=>Ucz x w);have KV:Hid (∀w,Calls prog 42 #[.int .i64 a] w (Ub (.bool true) w)):=Qd (fun w=>by have:=Uap a w;rw[h1] at this;exact this);have KT:=Qd (fun(b:Nat) (f:Bool) (x:Axs) (w:World) (a c:Int) (H:Box w b 223 (U5 f x))=>Ugf a c H);have KA:=Qd (fun(b:Nat) (f:Bool) (x:Axs) (w:World) (a c:Int) (H:Box w b 223 (U5 f x))=>Ulf a c H);have KS:=Qd (fun(b:Nat) (f:Bool) (x:Axs) (w:World) (a c:Int) (H:Box w b 223 (U5 f x))=>Ulg a c H);have KO:=Qd (fun(b:Nat) (f:Bool) (x:Axs) (w:World) (a c:Int) (H:Box w b 223 (U5 f x))=>Uim a c H);have KK:=Qd (fun(b:Nat) (f:Bool) (x:Axs) (w:World) (H:Box w b 223 (U5 f x))=>akept H);generalize Uj x=o at *;obtain⟨o0,o1,o2,o3,o4,ob⟩:=o;obtain⟨y0,y1,y2,y3,y4,yb⟩:=x;obtain⟨RC,hRC⟩:∃r,axv RES=r:=⟨_,rfl⟩;rw[hRC];have HRC:=Qd hRC;clear hRC;dsimp only[axv,Axs.cells] at KB ⊢;have z2:decide (dt<0)=false:=Xh h2;have z3:decide (1099511627776<dt)=false:=Xh h3;have z4:decide (q<0)=false:=Xh h4;have z5:decide (1099511627776<q)=false:=Xh h5;have z6:wrap64 (2*dt)=2*dt:=IntWalk.wrap64_in _ (by omega);have z7:IntKind.i64.wrap (2*dt)=2*dt:=Uol (by omega) (by omega);clear h1 h2 h3 h4 h5;have D0:=Qd (Duo.new w 49 #[.int .i64 y0,.int .i64 y1,.int .i64 y2,.int .i64 y3,.int .i64 y4,.bool yb] 49 #[.int .i64 0,.int .i64 0,.int .i64 0,.int .i64 0,.int .i64 0,.bool false]);go_enter func108,ntmps108;go_wp2_with fail;refine Y7 fun W hW=>?_
 rw[←hW] at D0;clear hW;refine(KB.out _).mono ?_;rintro e w1 ⟨b,rfl,l1,hk,hb⟩;have D1:=Qd (D0.out.kept hb);have LB:Hid (w.heap.size+1<b):=Qd (by have:=D0.out.2.1.lt;omega);have AK:=Qd hk;clear hb l1 hk D0 KB;go_wp2_with fail;refine(KV.out _).mono ?_;rintro e w2 ⟨rfl,hb⟩;have D2:=Qd (D1.out.kept hb);have AK2:=Qd (AK.out.kept hb);clear hb D1 AK KV;have Q0:Hid (PrR w b false ⟨o0,o1,o2,o3,o4,ob⟩ w2.heap.size #[.int .i64 o0,.int .i64 o1,.int .i64 o2,.int .i64 o3,.int .i64 o4,.bool ob] (w2.alloc (.cells #[.int .i64 o0,.int .i64 o1,.int .i64 o2,.int .i64 o3,.int .i64 o4,.bool ob] 49))):=Qd
  ⟨AK2.out.alloc _,Box.new _ _ _,D2.out.2.1.alloc _,LB.out,by have:=AK2.out.lt;omega,D2.out.2.1.lt,D2.out.2.2.alloc D2.out.2.2.size _⟩
 obtain⟨⟨_,c1,c2,c3,c4,c5,c6⟩,_⟩:=Usr AK2.out;have HGO:Hid (w2.heap.size≠b):=Qd (by have:=AK2.out.lt;omega);go_upto_region 5 with fail
 refine Uq fun W0 hW0=>?_
 rw[←hW0] at Q0;clear hW0 c1 c2 c3 c4 c5 c6 AK2 D2 LB;generalize w2.heap.size=go at *;have CE:Hid (∀W,Box W go 49 #[.int .i64 o0,.int .i64 o1,.int .i64 o2,.int .i64 o3,.int .i64 o4,.bool ob]→W.cell? ⟨go,0,none⟩=some (.int .i64 o0)∧W.cell? ⟨go,1,none⟩=some (.int .i64 o1)∧W.cell? ⟨go,2,none⟩=some (.int .i64 o2)∧W.cell? ⟨go,3,none⟩=some (.int .i64 o3)∧W.cell? ⟨go,4,none⟩=some (.int .i64 o4)) :=
  Qd (fun W H=>⟨H.cell 0,H.cell 1,H.cell 2,H.cell 3,H.cell 4⟩)
 go_upto_region 5 with fail
 have Q0d:=Qd Q0.out.drew;go_region_held3 (fun w'=>w'.cell? ⟨go,0,none⟩=some (.int .i64 o0)∧w'.cell? ⟨go,1,none⟩=some (.int .i64 o1)∧w'.cell? ⟨go,2,none⟩=some (.int .i64 o2)∧w'.cell? ⟨go,3,none⟩=some (.int .i64 o3)∧w'.cell? ⟨go,4,none⟩=some (.int .i64 o4)) (first|with_reducible exact CE.out _ Q0.out.o|with_reducible exact CE.out _ Q0d.out.o|with_reducible exact CE.out _ R1_1.out.o) (first|(go_at_call 133;refine(KT.out _ _ _ _ _ _ Q0d.out.ak).mono ?_;rintro e w1_1 ⟨rfl,h2,hg2⟩;have R1_1:=Qd (Q0d.out.turned h2 hg2);clear h2 hg2));rename_i hz;clear hz;refine Yn fun W1 hW=>?_
 have Q1:=R1_1;rw[←hW] at Q1;clear hW Q0 Q0d R1_1;go_upto_region 6 with fail
 have Q1d:=Qd Q1.out.drew;go_region_held3 (fun w'=>w'.cell? ⟨go,0,none⟩=some (.int .i64 o0)∧w'.cell? ⟨go,1,none⟩=some (.int .i64 o1)∧w'.cell? ⟨go,2,none⟩=some (.int .i64 o2)∧w'.cell? ⟨go,3,none⟩=some (.int .i64 o3)∧w'.cell? ⟨go,4,none⟩=some (.int .i64 o4)) (first|with_reducible exact CE.out _ Q1.out.o|with_reducible exact CE.out _ Q1d.out.o|with_reducible exact CE.out _ R2_1.out.o|with_reducible exact CE.out _ R2_2.out.o|with_reducible exact CE.out _ (R2_2.out.o.far HGO.out _)) (first|(go_at_call 134;refine(KA.out _ _ _ _ _ _ R2_1.out.ak).mono ?_;rintro e w2_2 ⟨rfl,h2,hg2⟩;have R2_2:=Qd (R2_1.out.turned h2 hg2);clear h2 hg2;obtain⟨ck,fk⟩:=R2_2.out.at1)|(go_at_call 133;refine(KT.out _ _ _ _ _ _ Q1d.out.ak).mono ?_;rintro e w2_1 ⟨rfl,h2,hg2⟩;have R2_1:=Qd (Q1d.out.turned h2 hg2);clear h2 hg2));rename_i hz;clear hz;refine Yn fun W2 hW=>?_
 have Q2:=Qd (R2_2.out.put1 hW);clear hW ck fk Q1 Q1d R2_1 R2_2;go_upto_region 7 with fail
 have Q2d:=Qd Q2.out.drew;go_region_held3 (fun w'=>w'.cell? ⟨go,0,none⟩=some (.int .i64 o0)∧w'.cell? ⟨go,1,none⟩=some (.int .i64 o1)∧w'.cell? ⟨go,2,none⟩=some (.int .i64 o2)∧w'.cell? ⟨go,3,none⟩=some (.int .i64 o3)∧w'.cell? ⟨go,4,none⟩=some (.int .i64 o4)) (first|with_reducible exact CE.out _ Q2.out.o|with_reducible exact CE.out _ Q2d.out.o|with_reducible exact CE.out _ R3_1.out.o|with_reducible exact CE.out _ R3_2.out.o|with_reducible exact CE.out _ (R3_2.out.o.far HGO.out _)) (first|(go_at_call 134;refine(KA.out _ _ _ _ _ _ R3_1.out.ak).mono ?_;rintro e w3_2 ⟨rfl,h2,hg2⟩;have R3_2:=Qd (R3_1.out.turned h2 hg2);clear h2 hg2;obtain⟨ck,fk⟩:=R3_2.out.at2)|(go_at_call 133;refine(KT.out _ _ _ _ _ _ Q2d.out.ak).mono ?_;rintro e w3_1 ⟨rfl,h2,hg2⟩;have R3_1:=Qd (Q2d.out.turned h2 hg2);clear h2 hg2));rename_i hz;clear hz;refine Yn fun W3 hW=>?_
 have Q3:=Qd (R3_2.out.put2 hW);clear hW ck fk Q2 Q2d R3_1 R3_2;go_upto_region 8 with fail
 have Q3d:=Qd Q3.out.drew;go_region_held3 (fun w'=>w'.cell? ⟨go,0,none⟩=some (.int .i64 o0)∧w'.cell? ⟨go,1,none⟩=some (.int .i64 o1)∧w'.cell? ⟨go,2,none⟩=some (.int .i64 o2)∧w'.cell? ⟨go,3,none⟩=some (.int .i64 o3)∧w'.cell? ⟨go,4,none⟩=some (.int .i64 o4)) (first|with_reducible exact CE.out _ Q3.out.o|with_reducible exact CE.out _ Q3d.out.o|with_reducible exact CE.out _ R4_1.out.o|with_reducible exact CE.out _ R4_2.out.o|with_reducible exact CE.out _ R4_3.out.o|with_reducible exact CE.out _ R4_4.out.o|with_reducible exact CE.out _ (R4_4.out.o.far HGO.out _)) (first|(go_at_call 134;refine(KA.out _ _ _ _ _ _ R4_3.out.ak).mono ?_;rintro e w4_4 ⟨rfl,h2,hg2⟩;have R4_4:=Qd (R4_3.out.turned h2 hg2);clear h2 hg2;obtain⟨ck,fk⟩:=R4_4.out.at3)|(go_at_call 133;refine(KT.out _ _ _ _ _ _ R4_2.out.ak).mono ?_;rintro e w4_3 ⟨rfl,h2,hg2⟩;have R4_3:=Qd (R4_2.out.turned h2 hg2);clear h2 hg2)|(go_at_call 134;refine(KA.out _ _ _ _ _ _ R4_1.out.ak).mono ?_;rintro e w4_2 ⟨rfl,h2,hg2⟩;have R4_2:=Qd (R4_1.out.turned h2 hg2);clear h2 hg2)|(go_at_call 133;refine(KT.out _ _ _ _ _ _ Q3d.out.ak).mono ?_;rintro e w4_1 ⟨rfl,h2,hg2⟩;have R4_1:=Qd (Q3d.out.turned h2 hg2);clear h2 hg2));rename_i hz;clear hz;refine Yn fun W4 hW=>?_
 have Q4:=Qd (R4_4.out.put3 hW);clear hW ck fk Q3 Q3d R4_1 R4_2 R4_3 R4_4;go_upto_region 9 with fail
 have Q4d:=Qd Q4.out.drew;go_region_held3 (fun w'=>w'.cell? ⟨go,0,none⟩=some (.int .i64 o0)∧w'.cell? ⟨go,1,none⟩=some (.int .i64 o1)∧w'.cell? ⟨go,2,none⟩=some (.int .i64 o2)∧w'.cell? ⟨go,3,none⟩=some (.int .i64 o3)∧w'.cell? ⟨go,4,none⟩=some (.int .i64 o4)) (first|with_reducible exact CE.out _ Q4.out.o|with_reducible exact CE.out _ Q4d.out.o|with_reducible exact CE.out _ R5_1.out.o|with_reducible exact CE.out _ (R5_1.out.o.far HGO.out _)) (first|(go_at_call 134;refine(KA.out _ _ _ _ _ _ Q4d.out.ak).mono ?_;rintro e w5_1 ⟨rfl,h2,hg2⟩;have R5_1:=Qd (Q4d.out.turned h2 hg2);clear h2 hg2;obtain⟨ck,fk⟩:=R5_1.out.at4));rename_i hz;clear hz;refine Yn fun W5 hW=>?_
 have Q5:=Qd (R5_1.out.put4 hW);clear hW ck fk Q4 Q4d R5_1;go_upto_region 10 with fail
 have Q5d:=Qd Q5.out.drew;go_region_held3 (fun w'=>w'.cell? ⟨go,0,none⟩=some (.int .i64 o0)∧w'.cell? ⟨go,1,none⟩=some (.int .i64 o1)∧w'.cell? ⟨go,2,none⟩=some (.int .i64 o2)∧w'.cell? ⟨go,3,none⟩=some (.int .i64 o3)∧w'.cell? ⟨go,4,none⟩=some (.int .i64 o4)) (first|with_reducible exact CE.out _ Q5.out.o|with_reducible exact CE.out _ Q5d.out.o|with_reducible exact CE.out _ R6_1.out.o|with_reducible exact CE.out _ R6_2.out.o|with_reducible exact CE.out _ (R6_2.out.o.far HGO.out _)) (first|(go_at_call 134;refine(KA.out _ _ _ _ _ _ R6_1.out.ak).mono ?_;rintro e w6_2 ⟨rfl,h2,hg2⟩;have R6_2:=Qd (R6_1.out.turned h2 hg2);clear h2 hg2;obtain⟨ck,fk⟩:=R6_2.out.at5)|(go_at_call 133;refine(KT.out _ _ _ _ _ _ Q5d.out.ak).mono ?_;rintro e w6_1 ⟨rfl,h2,hg2⟩;have R6_1:=Qd (Q5d.out.turned h2 hg2);clear h2 hg2));rename_i hz;clear hz;refine Yn fun W6 hW=>?_
 have Q6:=Qd (R6_2.out.put5 hW);clear hW ck fk Q5 Q5d R6_1 R6_2;go_wp2_with fail;refine(KK.out _ _ _ _ Q6.out.ak).mono ?_;rintro e wz ⟨rfl,hb⟩;have QZ:=Qd (Q6.out.kept hb);clear hb KK Q6 CE KT KA KS KO;generalize hkz:Udk _ _=KZ;have HKZ:=Qd hkz;clear hkz;go_wp2_with (with_reducible first|refine Qh 49 ?_);refine Uf.go (cs:=KZ.cells) (w.heap.size+1) rfl rfl QZ.out.res (by kernel_rfl) rfl (by simp[Axs.cells,Value.oneCell']) ?_;go_wp2_with fail;exact Xk (results_cell_row results108 _ _ (w.heap.size+1) 49 _ (0,0) _ rfl (QZ.out.res.row _) underlying49 rfl Uy) rfl ⟨by rw[←HRC.out,←HRES.out,←HKZ.out];simp only[Bool.false_or];rfl,Uc QZ.out.below (by omega) _⟩
open Tryz
open Go.RowKit
theorem Uss (x:Axs)(a dt q:Int)(w:World)(hg:chg a=true∨dt<0∨1099511627776<dt∨q<0∨1099511627776<q) :
  Calls prog 108 #[axv x,.int .i64 a,.int .i64 dt,.int .i64 q] w (Ub (axv (Zl x a dt q)) w):=by
 have F:Hid (Zl x a dt q={ Uj x with bad:=true }):=Qd (by unfold Zl;dsimp only;rw[if_pos hg]);rw[F.out];clear F;have KB:=Qd (fun w=>Ucz x w);have KV:=Qd (fun w=>Uap a w);have KW:=Qd (fun(b:Nat) (f:Bool) (x:Axs) (w:World) (H:Box w b 223 (U5 f x))=>Ulh H);generalize chg a=ca at *;generalize Uj x=o at *;obtain⟨y0,y1,y2,y3,y4,yb⟩:=x;obtain⟨RC,hRC⟩:∃r,axv { o with bad:=true }=r:=⟨_,rfl⟩;have KW2:Hid (∀(b:Nat) (f:Bool) (w:World) (H:Box w b 223 (U5 f o)),Calls prog 132 #[.pointer (some ⟨b,0,none⟩)] w (Ub RC w)):=Qd (fun b f w H=>by rw[←hRC];exact KW.out b f o w H);obtain⟨r0,r1,r2,r3,r4,r5,hR⟩:∃r0 r1 r2 r3 r4 r5,RC = .agg #[.int .i64 r0,.int .i64 r1,.int .i64 r2,.int .i64 r3,.int .i64 r4,.bool r5]:=⟨_,_,_,_,_,_,hRC.symm⟩;rw[hRC,hR];rw[hR] at KW2;clear KW hRC hR;dsimp only[axv,Axs.cells] at KB ⊢;have D0:=Qd (Duo.new w 49 #[.int .i64 y0,.int .i64 y1,.int .i64 y2,.int .i64 y3,.int .i64 y4,.bool yb] 49 #[.int .i64 0,.int .i64 0,.int .i64 0,.int .i64 0,.int .i64 0,.bool false]);rcases (show ca=true∨(ca=false∧dt<0)∨(ca=false∧¬dt<0∧1099511627776<dt)∨(ca=false∧¬dt<0∧¬1099511627776<dt∧q<0)∨(ca=false∧¬dt<0∧¬1099511627776<dt∧¬q<0∧1099511627776<q) by cases ca<;>simp at hg ⊢;omega) with rfl|⟨rfl,a1⟩|⟨rfl,a1,a2⟩|⟨rfl,a1,a2,a3⟩|⟨rfl,a1,a2,a3,a4⟩
 rotate_right
 focus
  clear hg;have z0:decide (dt<0)=false:=Xh a1;have z1:decide (1099511627776<dt)=false:=Xh a2;have z2:decide (q<0)=false:=Xh a3;have z3:decide (1099511627776<q)=true:=Xi a4
 rotate_right
 focus
  clear hg;have z0:decide (dt<0)=false:=Xh a1;have z1:decide (1099511627776<dt)=false:=Xh a2;have z2:decide (q<0)=true:=Xi a3
 rotate_right
 focus
  clear hg;have z0:decide (dt<0)=false:=Xh a1;have z1:decide (1099511627776<dt)=true:=Xi a2
 rotate_right
 focus
  clear hg;have z0:decide (dt<0)=true:=Xi a1
 rotate_right
 focus
  clear hg
 all_goals
  go_enter func108,ntmps108;go_wp2_with fail;refine Y7 fun W hW=>?_
  rw[←hW] at D0;clear hW;refine(KB.out _).mono ?_;rintro e w1 ⟨b,rfl,l1,hk,hb⟩;have D1:=Qd (D0.out.kept hb);have LB:Hid (w.heap.size+1<b):=Qd (by have:=D0.out.2.1.lt;omega);have AK:=Qd hk;clear hb l1 hk D0 KB;go_wp2_with fail;refine(KV.out _).mono ?_;rintro e w2 ⟨rfl,hb⟩;have D2:=Qd (D1.out.kept hb);have AK2:=Qd (AK.out.kept hb);clear hb D1 AK KV;go_wp2_with fail;refine(KW2.out _ _ _ AK2.out).mono ?_;rintro e w3 ⟨rfl,hb⟩;have D3:=Qd (D2.out.kept hb);clear hb D2 AK2 KW2;go_wp2_with (with_reducible first|refine Qh 49 ?_);refine Uf.go (w.heap.size+1) rfl rfl D3.out.2.1 (by kernel_rfl) rfl (by simp[Value.oneCell']) ?_;go_wp2_with fail;exact Xk (results_cell_row results108 _ _ (w.heap.size+1) 49 _ (0,0) _ rfl (D3.out.2.1.row _) underlying49 rfl Uy) rfl ⟨rfl,Uc D3.out.2.2 (by omega) _⟩
end Go.Proofs.YtdaflmjfeoacaaaGreat
