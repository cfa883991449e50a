/- Part of the proof of TopTry, TopSplit: MeI. Conditions: none. -/
import Derived.Test.YtdaflmjfeoacaaaGreatZbbh
set_option linter.all false
set_option maxHeartbeats 16000000
set_option maxRecDepth 4000
namespace Go.Proofs.YtdaflmjfeoacaaaGreat
open Tryz
open Go.RowKit
structure AlR (X:Nat→Prop) (w:World) (m0 m:Mrg) (vs:List Value) (v:Value) (l:List Smp) (W:World):Prop where
 mb:Box W w.heap.size 45 (mcs m vs)
 r:Box W (w.heap.size+1) 45 mz
 below:Below w.heap.size w W
 q:QsX (fun k=>X k∨w.heap.size≤k) W vs m
 own:W.ownsRow (w.heap.size+1+1) 40 5 v l.length (l.flatMap sml)
 sane:Uaz m
 left:l.length+Zh m=Zh m0
 all:Une (Zh m0+1) m0 []=Une (Zh m+1) m l
structure AlS (w:World) (g5:Nat) (m:Mrg) (vs:List Value) (s:Smp) (W:World):Prop where
 mb:∃r:Array Value,Box W w.heap.size 45 r∧r.size=19
 r:Box W (w.heap.size+1) 45 mz
 n:Box W g5 45 (mcs m vs)
 s:Box W (g5+1) 40 (sml s).toArray
 lg:w.heap.size+1<g5
 below:Below w.heap.size w W
theorem AlS.kept {w W W':World}{g5:Nat}{m:Mrg}{vs:List Value}{s:Smp}(H:AlS w g5 m vs s W)(hb:Below W.heap.size W W'):AlS w g5 m vs s W':=by
 obtain⟨⟨r,h1,h2⟩,h3,h4,h5,h6,h7⟩:=H;exact⟨⟨r,h1.kept hb,h2⟩,h3.kept hb,h4.kept hb,h5.kept hb,h6,Ua h7 hb h7.size⟩
theorem AlS.drew {w W:World}{g5:Nat}{m:Mrg}{vs:List Value}{s:Smp}(H:AlS w g5 m vs s W):AlS w g5 m vs s W.drew:=by
 obtain⟨⟨r,h1,h2⟩,h3,h4,h5,h6,h7⟩:=H;exact⟨⟨r,h1.drew,h2⟩,h3.drew,h4.drew,h5.drew,h6,Ue h7 1⟩
theorem AlS.app {w W W':World}{g5:Nat}{m:Mrg}{vs:List Value}{s:Smp}(H:AlS w g5 m vs s W){row:Option Nat}(hg:W.grownBy W' row)(hr:∀k,row=some k→w.heap.size+1<k∧k≠g5∧k≠g5+1):AlS w g5 m vs s W':=by
 obtain⟨⟨r,h1,h2⟩,h3,h4,h5,h6,h7⟩:=H
 exact⟨⟨r,(hg.block _ h1.lt (fun e=>by have:=(hr _ e.symm).1;omega)).trans h1,h2⟩,(hg.block _ h3.lt (fun e=>by have:=(hr _ e.symm).1;omega)).trans h3,
  (hg.block _ h4.lt (fun e=>(hr _ e.symm).2.1 rfl)).trans h4,(hg.block _ h5.lt (fun e=>(hr _ e.symm).2.2 rfl)).trans h5,h6,h7.grown hg h7.size (fun k e=>by have:=(hr k e).1;omega)⟩
theorem AlS.row {w W:World}{g5:Nat}{m:Mrg}{vs:List Value}{s:Smp}(H:AlS w g5 m vs s W)(cs:Array Value)(hc:cs.size=19):AlS w g5 m vs s (W.setRow w.heap.size cs):=by
 obtain⟨⟨r,h1,h2⟩,h3,h4,h5,h6,h7⟩:=H;exact⟨⟨cs,h1.row _,hc⟩,h3.row_far (by omega) _,h4.row_far (by omega) _,h5.row_far (by omega) _,h6,Uc h7 (Xa _) _⟩
def U85 (v:Value):Nat:=match v with | .slice _ n _=>n|_=>0
def Uup (X:Nat→Prop)(r:Mrg×List Smp)(w:World)(e:Ending)(w':World):Prop:=∃vs v,e = .returned (.tuple #[mv r.1 vs,v])∧QsX X w' vs r.1∧SmX X w' v r.2∧Below w.heap.size w w'
theorem AlR.next {X:Nat→Prop}{w W w3 w9:World}{m0 m m3:Mrg}{vs vs3:List Value}{v v2:Value}{l:List Smp}{s:Smp}{g5:Nat}(H:AlR X w m0 m vs v l W)(hst:¬Uc7 m)(hm:Uc8 m (Ubs m)=m3)(hs:Yl (m.q.getD (Ubs m) [])=s)
  (hg:Box (w9.setRow w.heap.size (mcs m3 vs3)) w.heap.size 45 (mcs m3 vs3)) (H9:AlS w g5 m3 vs3 s w9) (ho:w9.ownsRow (w.heap.size+1+1) 40 5 v2 (l.length+1) (l.flatMap sml++sml s)) (hc:Chg (fun k=>w.heap.size≤k) w3 w9) (hq:QsX (fun k=>X k∨w.heap.size≤k) w3 vs3 m3) :
  AlR X w m0 m3 vs3 v2 (l++[s]) (w9.setRow w.heap.size (mcs m3 vs3)):=by
 have hl:=Uqp H.sane.ql hst;rw[hm] at hl;refine⟨hg,H9.r.row_far (by omega) _,Uc H9.below (Xa _) _,(hq.chg (hc.mono fun k _ hk=>Or.inr hk)).chg (Chg.setRow (Or.inr (Xa _)) _),?_,?_,?_,?_⟩
 ·rw[List.length_append,List.flatMap_append];have:=Zk ho (Chg.setRow (X:=(· = w.heap.size)) rfl (mcs m3 vs3)) (fun k hk e=>by have:=(ho.lt k hk).1;omega);simpa using this
 ·rw[←hm];exact Ulu H.sane hst
 ·have:=H.left;simp;omega
 ·rw[H.all];have e:Une (Zh m+1) m l=Une (Zh m) (Uc8 m (Ubs m)) (l++[Yl (m.q.getD (Ubs m) [])]):=by
   show(if Uc7 m then _ else _)=_;rw[if_neg hst]
  rw[e,hm,hs,←hl]
theorem Uq2 {X:Nat→Prop}{m0:Mrg}{vs0:List Value}{w:World}(h:QsX X w vs0 m0)(hs:Uaz m0)(hX:∀j,X j→j<w.heap.size):Calls prog 53 #[mv m0 vs0] w (Uup X (Une (Zh m0+1) m0 []) w):=by
 obtain⟨i0,hi,hz0,hz1,hz2⟩:=info_parts Uo0;have h64:Zh m0≤64:=by
  have h0:=(hs.row 0 (by omega)).1;have h1:=(hs.row 1 (by omega)).1;have h2:=(hs.row 2 (by omega)).1;have h3:=(hs.row 3 (by omega)).1;unfold Zh;omega
 have L0:Hid (AlR X w m0 m0 vs0 (.slice none 0 0) [] ((w.alloc (.cells (mcs m0 vs0) 45)).alloc (.cells mz 45))):=Qd ⟨(Box.new _ _ _).alloc _,Box.at_ (by simp) _ _,((Xb _ w).alloc (Xa _) _).alloc (by simp) _,
  (h.low).below (((Xb _ w).alloc (Xa _) _).alloc (by simp) _),World.ownsRow_nil _ _ _ _,hs,by simp,rfl⟩
 have HX:=Qd hX;obtain⟨res,hres⟩:∃res,Une (Zh m0+1) m0 []=res:=⟨_,rfl⟩;rw[hres];have HRES:=Qd hres;clear h hs hX hres;dsimp only[mv];go_enter func53,ntmps53;go_upto_region 1 with fail
 refine Uq fun W0 hW0=>?_
 have L1:Hid (AlR X w m0 m0 vs0 (.slice none 0 0) [] W0):=Qd (by rw[hW0];exact L0.out);clear hW0 L0;go_wp2_with fail;go_loopw [4] (fun v wr=>∃(m:Mrg) (vs:List Value) (l:List Smp) (A:Option Addr) (c:Nat),v = .slice A l.length c∧Hid (AlR X w m0 m vs (.slice A l.length c) l wr)) (fun v _=>65-U85 v)
 case atStart=>exact⟨m0,vs0,[],none,0,rfl,L1⟩
 case round =>
  obtain⟨m,vs,l,A,c,rfl,HR⟩:=hrel;have hl64:l.length+Zh m≤64:=by have:=HR.out.left;omega
  have HM1:Hid ((prog.info? 45).map (·.size)=some (mcs m vs).size):=Qd (Uaj HR.out.q.len HR.out.q.nl);clear L1;by_cases hst:Uc7 m;rotate_right
  focus
   obtain⟨m3,hm3⟩:∃m3,Uc8 m (Ubs m)=m3:=⟨_,rfl⟩;obtain⟨s,hs⟩:∃s,Yl (m.q.getD (Ubs m) [])=s:=⟨_,rfl⟩;have KX:Hid (Calls prog 80 #[.agg (mcs m vs)] wr (Uq1 (fun k=>X k∨w.heap.size≤k) m3 s true wr)):=Qd (U3b HR.out.q HR.out.sane hst hm3 hs);have S5:Hid ((prog.info? 40).map (·.size)=some (sml s).length):=Qd Ye
  rotate_right
  focus
   obtain⟨m3,hm3⟩:∃m3,m=m3:=⟨_,rfl⟩;obtain⟨s,hs⟩:∃s,Ujx=s:=⟨_,rfl⟩;have KX:Hid (Calls prog 80 #[.agg (mcs m vs)] wr (Uq1 (fun k=>X k∨w.heap.size≤k) m3 s false wr)):=Qd (by rw[←hm3,←hs];exact Uwt HR.out.q HR.out.sane hst)
   have HE:Hid (res=(m3,l)):=Qd (by
    rw[←HRES.out,HR.out.all,←hm3];show(if Uc7 m then _ else _)=_
    rw[if_pos hst])
  all_goals
   have S5A:Hid ((prog.info? 40).map (·.size)=some (sml s).toArray.size):=Qd Ye;have S51:Hid ((sml s).toArray.all (·.oneCell')=true):=Qd (by simp[sml,Smp.cells,Value.oneCell'])
  rotate_right
  focus
   have SONE:Hid (∀u∈sml s,u.oneCell'=true):=Qd (fun u hu=>Uoz [s] u (by simpa using hu));have KBS:=Qd (fun w=>Uqt s w);have es:Udr s = .agg (sml s).toArray:=rfl;have hls:=Uzw hst;have H64:Hid (l.length+1≤64):=Qd (by omega);have HST:=Qd hst;have HM3E:=Qd hm3;have HSE:=Qd hs;clear hst hm3 hs hl64 hls
  rotate_right
  focus
   have es:Udr s = .agg (sml s).toArray:=rfl;have HL:=Qd hl64;clear hst hm3 hs hl64
  all_goals
   unfold Uq1 at KX;rw[es] at KX;dsimp only[mv] at KX;clear es;go_wp2_with (with_reducible first|refine Qh 45 ?_|refine Qg 45 ?_|refine Qh 40 ?_);refine Uo.go w.heap.size rfl HR.out.mb underlying45 rfl HM1.out ?_;go_wp2_with fail;refine(KX.out).mono ?_;rintro e w3 ⟨vs3,rfl,hq3,hb⟩;have Q3:=Qd hq3;have D3:Hid (Box w3 w.heap.size 45 (mcs m vs)∧Box w3 (w.heap.size+1) 45 mz∧Below w.heap.size w w3):=Qd ⟨HR.out.mb.kept hb,HR.out.r.kept hb,Ua HR.out.below hb HR.out.below.size⟩;have O3:=Qd (Ud2 HR.out.own hb);have HM3:Hid ((prog.info? 45).map (·.size)=some (mcs m3 vs3).size):=Qd (Uaj hq3.len hq3.nl);have HM3L:Hid ((prog.info? 45).map (·.size)=some (mcs m3 vs3).toList.length):=Qd HM3.out;have SZ3:Hid ((mcs m3 vs3).size=19):=Qd (Uaf hq3.len hq3.nl);have HZ3:Hid (mz.size=(mcs m3 vs3).size):=Qd (Uir.trans (Uaf hq3.len hq3.nl).symm);have HO3:=Qd (Uah hq3);have OLT:Hid (∀q,(Value.slice A l.length c).ownBlock=some q→w.heap.size+1+1≤q∧q<w3.heap.size):=Qd (fun q hq=>O3.out.lt q hq);clear hb KX hq3;go_wp2_with (with_reducible first|refine Qh 45 ?_|refine Qg 45 ?_|refine Qh 40 ?_);refine Uf.go w3.heap.size rfl rfl ((Box.new w3 _ _).alloc _) HM3.out HZ3.out HO3.out ?_;go_wp2_with (with_reducible first|refine Qh 45 ?_|refine Qg 45 ?_|refine Qh 40 ?_);refine Uf.go (w3.heap.size+1) rfl rfl ((Box.at_ (by simp) _ _).row_far (by omega) _) S5A.out rfl S51.out ?_;refine Udg fun W4 hW4=>?_
   have R4:Hid (AlS w w3.heap.size m3 vs3 s W4):=Qd (by
    have:=D3.out.1.lt;have:=D3.out.2.1.lt;rw[hW4]
    exact⟨⟨_,(((D3.out.1.alloc _).alloc _).row_far (by omega) _).row_far (by omega) _,Uaf HR.out.q.len HR.out.q.nl⟩,(((D3.out.2.1.alloc _).alloc _).row_far (by omega) _).row_far (by omega) _,(((Box.new w3 _ _).alloc _).row _).row_far (by omega) _,((Box.at_ (by simp) _ _).row_far (by omega) _).row _,D3.out.2.1.lt,
     Uc (Uc ((D3.out.2.2.alloc D3.out.2.2.size _).alloc (by have:=D3.out.2.2.size;simp;omega) _) D3.out.2.2.size _) (by have:=D3.out.2.2.size;omega) _⟩)
  ·have C4:Hid (Below w3.heap.size w3 W4):=Qd (by rw[hW4];exact Uc (Uc (((Xb _ w3).alloc (Xa _) _).alloc (by simp) _) (Xa _) _) (by omega) _);have O4:Hid (W4.ownsRow (w.heap.size+1+1) 40 5 (.slice A l.length c) l.length (l.flatMap sml)):=Qd (Ud2 O3.out C4.out);clear hW4;go_wp2_with (with_reducible first|refine Qh 45 ?_|refine Qg 45 ?_|refine Qh 40 ?_);refine Uo.go w3.heap.size rfl R4.out.n underlying45 rfl HM3.out ?_;go_wp2_with (with_reducible first|refine Qh 45 ?_|refine Qg 45 ?_|refine Qh 40 ?_);refine Uf.go (w.heap.size+1) rfl rfl R4.out.r HM3.out HZ3.out HO3.out ?_;go_wp2_with fail
   have HF:Hid (Uup X res w (.returned (.tuple #[.agg (mcs m3 vs3),.slice A l.length c])) (W4.setRow (w.heap.size+1) (mcs m3 vs3))):=Qd (by
    rw[HE.out];have hc:Chg (fun k=>X k∨w.heap.size≤k) W4 (W4.setRow (w.heap.size+1) (mcs m3 vs3)):=Chg.setRow (Or.inr (by omega)) _;have ho:=Zk O4.out (Chg.setRow (X:=(· = w.heap.size+1)) rfl (mcs m3 vs3)) (fun k hk e=>by have:=(O4.out.lt k hk).1;omega)
    exact⟨vs3,_,rfl,((Q3.out.below C4.out).chg hc).mono (fun k hk=>Or.inl hk),⟨Sl.of_own ho,Ud0.own ho (fun k hk=>by have:=HX.out k hk;omega)⟩,Uc R4.out.below (by omega) _⟩)
   exact Xk (Ud results53 _ _ (w.heap.size+1) 45 _ (0,0) _ rfl (R4.out.r.row _) underlying45 rfl HM3.out) rfl HF.out
  ·have CC:Hid (Below w3.heap.size w3 W4):=Qd (by rw[hW4];exact Uc (Uc (((Xb _ w3).alloc (Xa _) _).alloc (by simp) _) (Xa _) _) (by omega) _);have C4:Hid (Chg (fun k=>w.heap.size≤k) w3 W4):=Qd (Chg.of CC.out);have O4:Hid (W4.ownsRow (w.heap.size+1+1) 40 5 (.slice A l.length c) l.length (l.flatMap sml)):=Qd (Ud2 O3.out CC.out);clear hW4 CC O3 D3;generalize w3.heap.size=g5 at *;go_upto_region 5 with fail
   refine Xm (S:=fun w'=>AlS w g5 m3 vs3 s w') (by kernel_rfl) R4.out.drew (fun hHeld=>?_);refine Ux (i:=0) (v := .agg ((mcs m3 vs3).toList).toArray) rfl rfl (by kernel_rfl) (by kernel_rfl) (by kernel_rfl) (fun _ _ _ h=>h)
    (Xn (by rfl) 45 _ rfl (g5) (0) rfl ((mcs m3 vs3).toList) _ (fun _ h=>h.n.rangeA) underlying45 rfl HM3L.out) hHeld ?_
   simp only[Qz];refine Qn 1 (.slice A l.length c) ?_;refine Ux (i:=2) (v := .agg (sml s).toArray) rfl rfl (by kernel_rfl) (by kernel_rfl) (by kernel_rfl) (fun _ _ _ h=>h)
    (Xn (by rfl) 40 _ rfl (g5+1) (0) rfl (sml s) _ (fun _ h=>h.s.rangeA) underlying40 rfl S5.out) hHeld ?_
   simp only[Qz];refine Ut fun WD hWD=>?_
   have RD:Hid (AlS w g5 m3 vs3 s WD):=Qd (by rw[hWD];exact R4.out.drew);have OD:Hid (WD.ownsRow (w.heap.size+1+1) 40 5 (.slice A l.length c) l.length (l.flatMap sml)):=Qd (by rw[hWD];exact O4.out);have CD:Hid (Chg (fun k=>w.heap.size≤k) w3 WD):=Qd (by rw[hWD];exact C4.out.drew);replace hHeld:=RD.out;clear hWD R4 O4 C4;refine Qc 3 fun KQ hKQ=>?_
   rw[if_pos (by rfl)];refine Ued 41 1 _ rfl _ (by simp only[List.map_toArray,List.map_cons,List.map_nil];exact KBS.out _) ?_;go_simp;refine hKQ.out _ _ (RD.out.kept ((Xb _ _).alloc (Xa _) _)) (fun hHeld=>?_);clear hKQ KQ;refine Ut fun wb hW=>?_
   have Rwb:Hid (AlS w g5 m3 vs3 s wb):=Qd (by rw[hW];exact RD.out.kept ((Xb _ _).alloc (Xa _) _));have B9:Hid (Box wb WD.heap.size 40 (sml s).toArray):=Qd (by rw[hW];exact Box.new _ _ _);have Ob:=Qd (Ud2 OD.out ((Xb _ WD).alloc (Xa _) (.cells (sml s).toArray 40)));rw[←hW] at Ob;have Cb:Hid (Chg (fun k=>w.heap.size≤k) w3 wb):=Qd (by rw[hW];exact CD.out.trans (Chg.of ((Xb _ WD).alloc (Xa _) _)));have HLB:Hid (g5+1<WD.heap.size):=Qd RD.out.s.lt;replace hHeld:=Rwb.out;clear hW RD OD CD;refine Qc 4 fun KQ hKQ=>?_
   rw[if_pos (by rfl)];refine Zm _ _ _ 41 rfl _ 40 i0 _ 5 40 underlying41 hi hz0 hz1 hz2 rfl (by decide) (.slice A l.length c) l.length (l.flatMap sml) rfl Ob.out (.slice (some ⟨WD.heap.size,0,none⟩) 1 1) 1 (sml s) rfl (Uo1 B9.out rfl) SONE.out (by have:=H64.out;simp only[maxLen];omega) (by have:=H64.out;omega) (by have:=Rwb.out.s.lt;have:=Rwb.out.lg;omega) ?_;intro v2 w9 hown hgrow _;obtain⟨A2,c2,hv2,hc21,hc22⟩:=Zz hown;subst hv2;have R9:Hid (AlS w g5 m3 vs3 s w9):=Qd (Rwb.out.app hgrow (fun q hq=>by have h1:=OLT.out q hq;have h2:=Rwb.out.lg;exact⟨by omega,by omega,by omega⟩));have O9:=Qd hown;have C9:Hid (Chg (fun k=>w.heap.size≤k) w3 w9):=Qd (Cb.out.trans (Chg.grown hgrow (fun q hq=>by have h1:=OLT.out q hq;omega)));clear hgrow hown Rwb Ob Cb B9 HLB;go_simp;refine hKQ.out _ _ R9.out (fun hHeld=>?_);clear hKQ KQ;obtain⟨rr,hrr,hrs⟩:=R9.out.mb;refine Qc 5 fun KQ hKQ=>?_
   rw[if_pos (by rfl)];refine wp_store_row 45 _ _ rfl w.heap.size (mcs m3 vs3) rfl rfl 45 rr hrr HM3.out (hrs.trans SZ3.out.symm) HO3.out ?_;go_simp;refine hKQ.out _ _ (R9.out.row _ SZ3.out) (fun hHeld=>?_);clear hKQ KQ;refine Qn 6 (.slice A2 (l.length+1) c2) ?_;refine Xl (by kernel_rfl) ?_ _;refine Yn fun W9 hW9=>?_
   have HN:Hid (AlR X w m0 m3 vs3 (.slice A2 (l.length+1) c2) (l++[s]) W9):=Qd (by rw[hW9];exact AlR.next HR.out HST.out HM3E.out HSE.out (hrr.row _) R9.out O9.out C9.out Q3.out);clear hHeld hW9 hrr hrs R9 O9 C9;go_wp2_with fail;have hlen:(l++[s]).length=l.length+1:=by simp
   go_roundw
   case rel=>exact⟨m3,vs3,l++[s],A2,c2,by rw[hlen],by rw[hlen];exact HN⟩
   case measure=>have:=H64.out;simp[U85];omega
end Go.Proofs.YtdaflmjfeoacaaaGreat
