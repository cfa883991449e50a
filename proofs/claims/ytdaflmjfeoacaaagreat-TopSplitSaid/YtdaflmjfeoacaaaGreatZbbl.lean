/- Part of the proof of TopTry, TopSplit: BoF, BoG, BoH. Conditions: none. -/
import Derived.Test.YtdaflmjfeoacaaaGreatZbbk
import Derived.Lib.SliceRun
import Derived.Test.YtdaflmjfeoacaaaGreatZbbi
import Derived.Test.YtdaflmjfeoacaaaGreatZbbc
import Derived.Test.YtdaflmjfeoacaaaGreatZbaw
set_option linter.all false
set_option maxHeartbeats 16000000
set_option maxRecDepth 4000
namespace Go.Proofs.YtdaflmjfeoacaaaGreat
open Tryz
open Go.RowKit Go.Shelf
def Ubw (b:Brd)(k:Nat)(ls:List (List Int)):Brd:=ls.foldl (fun b ws=>Uxu b k ws) b
def Ys (b:Brd):Nat→Brd
 | 0=>b
 | k+1=>Ubw (Ys b k) k (b.ring.getD k [])
def Udj (b:Brd):Brd:={ b with ring:=[[],[],[],[]] }
theorem Unl (k:Nat)(ls:List (List Int)):∀b:Brd,(Ubw b k ls).ring=b.ring∧(Ubw b k ls).drops=b.drops∧(Ubw b k ls).x=b.x∧(Ubw b k ls).ver=b.ver:=by
 unfold Ubw
 induction ls with
 | nil=>exact fun b=>⟨rfl,rfl,rfl,rfl⟩
 | cons a ls ih=>intro b;exact ih (Uxu b k a)
theorem Unm {k:Nat}(hk:k<4)(ls:List (List Int)):∀b:Brd,Uaz b.m→Uaz (Ubw b k ls).m:=by
 unfold Ubw
 induction ls with
 | nil=>exact fun b h=>h
 | cons a ls ih=>intro b h;exact ih (Uxu b k a) (Uow h hk a)
theorem Uwx (b:Brd)(k:Nat)(ls:List (List Int)){j:Nat}(hj:j<ls.length):Ubw b k (ls.take (j+1))=Uxu (Ubw b k (ls.take j)) k (ls.getD j []):=by
 unfold Ubw;rw[List.take_succ_eq_append_getElem hj,List.foldl_append,List.getD_eq_getElem?_getD,Xj hj]
 rfl
theorem Uc2 (b:Brd)(k:Nat):(Ys b k).ring=b.ring∧(Ys b k).drops=b.drops∧(Ys b k).x=b.x∧(Ys b k).ver=b.ver:=by
 induction k with
 | zero=>exact⟨rfl,rfl,rfl,rfl⟩
 | succ k ih =>
  obtain⟨h1,h2,h3,h4⟩:=Unl k (b.ring.getD k []) (Ys b k);exact⟨h1.trans ih.1,h2.trans ih.2.1,h3.trans ih.2.2.1,h4.trans ih.2.2.2⟩
theorem Ud6 {b:Brd}(h:Uaz b.m):∀k,k≤4→Uaz (Ys b k).m:=by
 intro k
 induction k with
 | zero=>exact fun _=>h
 | succ k ih=>exact fun hk=>Unm (by omega) _ _ (ih (by omega))
def EmR (X:Nat→Prop)(gb:Nat)(rs:List Value)(b:Brd)(w W:World):Prop:=∃vs,Box W gb 63 (bcs b rs vs)∧BrX X W rs vs b∧Chg (fun j=>j=gb) w W
theorem U9c {rs:List Value}(h:rs.length=4){k:Nat}(hk:k<4):∀w,(Instr.index 23 (.agg rs.toArray) (.int .i64 (k:Int))).run prog w = .ok (rs.getD k (.bool false)) w:=by
 obtain⟨a,b,c,d,rfl⟩:=Uz1 h;obtain⟨i0,i1,i2,i3⟩:=U7y a b c d;rcases (show k=0∨k=1∨k=2∨k=3 by omega) with rfl|rfl|rfl|rfl
 ·exact i0
 ·exact i1
 ·exact i2
 ·exact i3
theorem U0o {W:World}{gb:Nat}{b:Brd}{rs vs:List Value}(h:Box W gb 63 (bcs b rs vs))(hl:4≤(bcs b rs vs).size):∀ty,(Builtin.clear_ #[148] ty #[.slice (some ⟨gb,0,none⟩) 4 4]).run prog W = .ok (.tuple #[]) (W.setCells gb 0 Yr):=fun ty =>
 Lib.run_clear_slice W 148 22 ty (.slice none 0 0) underlying148 (fun w=>by kernel_rfl) rfl rfl gb 0 4 4 (by omega) (fun j hj=>by rw[Nat.zero_add,h.cell,Array.getElem?_eq_getElem (by omega)];rfl) (fun j _=>h.frozen _)
theorem Utd {X:Nat→Prop}{gb:Nat}{rs vs:List Value}{b:Brd}{w:World}(hg:Box w gb 63 (bcs b rs vs))(h:BrX X w rs vs b)(hs:Uba b)(hX:∀j,X j→j<w.heap.size)(hXg:X gb) :
  Calls prog 50 #[.pointer (some ⟨gb,0,none⟩),.func (.func 51) #[] #[.pointer (some ⟨gb,0,none⟩)]] w (Uus X gb Yr (Udj (Ys b 4)) w):=by
 have HR0:Hid (w.rangeAt gb 0 rs):=Qd (U0i hg);have S23:Hid ((prog.info? 23).map (·.size)=some rs.length):=Qd (by rw[h.len];kernel_rfl);have E0:Hid (EmR X gb rs (Ys b 0) w w):=Qd ⟨vs,hg,h,Chg.refl _ _⟩
 have HW:Hid (∀k W,k<4→Chg (fun j=>j=gb) w W→∃es,WsX X W (rs.getD k (.bool false)) es (b.ring.getD k [])):=Qd (fun k W hk hc=>by
  obtain⟨es,he⟩:=h.at_ k hk
  exact⟨es,he.chg (Chg.mono hc (fun j _ e=>by rw[e];exact hXg))⟩)
 have HF:Hid (∀k W ls v ws,k<4→EmR X gb rs (Ubw (Ys b k) k ls) w W→Yx W v ws→Calls prog 51 #[.int .i64 (k:Int),v,.pointer (some ⟨gb,0,none⟩)] W (fun e w'=>e = .returned (.tuple #[])∧EmR X gb rs (Uxu (Ubw (Ys b k) k ls) k ws) w w')):=Qd (fun k W ls v ws hk hE hv=>by
  obtain⟨vs1,h1,h2,h3⟩:=hE;refine(Uww h1 h2 (Unm hk _ _ (Ud6 hs.m k (by omega))) (by rw[(Unl _ _ _).2.1,(Uc2 _ _).2.1];exact hs.dl) (fun j hj=>by have:=hX j hj;have:=h3.size;omega) hXg hk hv).mono ?_;rintro e w' ⟨vs2,rfl,k1,k2,k3⟩
  exact⟨rfl,vs2,k1,k2,h3.trans k3⟩)
 have HRI:Hid (∀k,k<4→Unj (b.ring.getD k [])):=Qd hs.ring;have HIX:Hid (∀k:Nat,k<4→∀w,(Instr.index 23 (.agg rs.toArray) (.int .i64 (k:Int))).run prog w = .ok (rs.getD k (.bool false)) w):=Qd (fun k hk=>U9c h.len hk)
 have FIN:Hid (∀W,EmR X gb rs (Ys b 4) w W→(∀ty,(Builtin.clear_ #[148] ty #[.slice (some ⟨gb,0,none⟩) 4 4]).run prog W = .ok (.tuple #[]) (W.setCells gb 0 Yr))∧Uus X gb Yr (Udj (Ys b 4)) w (.returned (.tuple #[])) (W.setCells gb 0 Yr)):=Qd (fun W hE=>by
  obtain⟨vs1,h1,h2,h3⟩:=hE;have hl:4≤(bcs (Ys b 4) rs vs1).size:=by simp only[bcs,Zt,List.size_toArray,List.length_append,h2.len];omega
  refine⟨U0o h1 hl,vs1,rfl,U70 h1 h2.len rfl _,BrX.chg (w:=W) ⟨rfl,fun k hk=>?_,h2.q⟩ (Chg.setCells hXg _ _),h3.trans (Chg.setCells (X:=fun j=>j=gb) rfl _ _)⟩
  rcases (show k=0∨k=1∨k=2∨k=3 by omega) with rfl|rfl|rfl|rfl<;>exact⟨[],WsX.nil X W⟩)
 clear hg h hs hX hXg;go_enter func50,ntmps50;go_wp2_with (with_reducible first|refine Qi 23 ?_);refine Ubl.go rfl gb 0 rfl HR0.out underlying23 rfl S23.out ?_;go_wp2_with fail;go_loopw [12] (fun i wr=>∃k:Nat,k≤4∧i = .int .i64 (k:Int)∧Hid (EmR X gb rs (Ys b k) w wr)) (fun i _=>4-(intOf i).toNat)
 case atStart=>exact⟨0,by omega,rfl,E0⟩
 case round =>
  obtain⟨k,hk,rfl,HE⟩:=hrel;clear E0 HR0 S23;by_cases hk4:k<4
  ·obtain⟨es,he⟩:=HW.out k _ hk4 (by obtain⟨_,_,_,h3⟩:=HE.out;exact h3);obtain⟨A,c,e0,hc1,hc2⟩:=he.form;have hn8:=(HRI.out k hk4).1;have ix:=HIX.out k hk4;rw[e0] at ix;have HWK:Hid (∀W,Chg (fun j=>j=gb) w W→∃es,WsX X W (.slice A (b.ring.getD k []).length c) es (b.ring.getD k [])):=Qd (fun W hc=>by rw[←e0];exact HW.out k W hk4 hc);have HFK:=Qd (fun W ls v ws=>HF.out k W ls v ws hk4);have HNX:=Qd (fun j=>Uwx (Ys b k) k (b.ring.getD k []) (j:=j));have HS1:Hid (Ys b (k+1)=Ubw (Ys b k) k (b.ring.getD k [])):=Qd rfl;have HI0:Hid (EmR X gb rs (Ubw (Ys b k) k ((b.ring.getD k []).take 0)) w wr):=Qd HE.out;have hki:(k:Int)<4:=by omega
   have hk0:(0:Int)≤k:=by omega
   clear he HE e0;generalize b.ring.getD k []=l at *;obtain⟨n,hn⟩:∃n,l.length=n:=⟨_,rfl⟩;have HN:=Qd hn;rw[hn] at ix HWK hc1 hn8;clear hn;unfold maxLen at hc2;go_wp2_with fail;clear ix;go_loopw [18] (fun i wr=>∃j:Nat,j≤n∧i = .int .i64 (j:Int)∧Hid (EmR X gb rs (Ubw (Ys b k) k (l.take j)) w wr)) (fun i _=>n-(intOf i).toNat)
   case atStart=>exact⟨0,by omega,rfl,HI0⟩
   case round =>
    obtain⟨j,hj,rfl,HE⟩:=hrel;clear HI0;by_cases hlt:j<n
    ·obtain⟨es,he⟩:=HWK.out _ (by obtain⟨_,_,_,h3⟩:=HE.out;exact h3);obtain⟨bb,off,u,rfl,hbl,hu,hd⟩:=he.at_ (k:=j) (by rw[HN.out];exact hlt);have KF:=Qd (HFK.out _ _ _ _ HE.out hd.1);rw[←HNX.out j (by rw[HN.out];exact hlt)] at KF;have hji:(j:Int)<n:=by omega
     have hj0:(0:Int)≤j:=by omega
     clear hd he;go_wp2_with fail;refine KF.out.mono ?_;rintro e w1 ⟨rfl,hE⟩;have HE1:=Qd hE;clear hE KF hu HE;go_wp2_with fail;go_roundw
     case rel=>exact⟨j+1,by omega,by simp,HE1⟩
     case measure=>simp[intOf];omega
    ·obtain rfl:j=n:=by omega
     have HE1:Hid (EmR X gb rs (Ys b (k+1)) w wr):=Qd (by
      have:=HE.out;rw[←HN.out,List.take_length] at this
      rw[HS1.out];exact this)
     clear HE HN HS1 HNX HFK HWK;go_wp2_with fail;go_roundw
     case rel=>exact⟨k+1,by omega,by simp,HE1⟩
     case measure=>simp[intOf];omega
  ·obtain rfl:k=4:=by omega
   obtain⟨hcl,hF⟩:=FIN.out _ HE.out;have HFF:=Qd hF;clear hF HE;go_wp2_with fail;exact bodyPost_end (results_none rfl _ _ _) rfl HFF.out
theorem U0p:∀(f:Nat) (m:Mrg) (out:List Smp),Uaz m→(Une f m out).2.length+Zh (Une f m out).1=out.length+Zh m:=by
 intro f
 induction f with
 | zero=>exact fun m out h=>rfl
 | succ f ih =>
  intro m out h;unfold Une;by_cases hs:Uc7 m
  ·rw[if_pos hs]
  ·rw[if_neg hs,ih _ _ (Ulu h hs),←Uqp h.ql hs,List.length_append];simp only[List.length_singleton];omega
theorem U55 {X:Nat→Prop}{a n:Nat}(h:∀j,X j→j<a)(hn:a+1+1<n):∀j,(X j∨(j=a∨j=a+1+1))→j<n:=fun j hj=>by
 rcases hj with hj|hj
 ·have:=h j hj;omega
 ·omega
theorem U0q {X:Nat→Prop}{a j:Nat}(h:X j∨(j=a∨j=a+1+1)):X j∨a≤j:=by
 rcases h with h|h
 ·exact Or.inl h
 ·exact Or.inr (by omega)
def Uc9 (b:Brd)(mark:Int):Mrg:=Ugl (Udj (Ys b 4)).m mark
def Uda (b:Brd)(mark:Int):Mrg×List Smp:=Une (Zh (Uc9 b mark)+1) (Uc9 b mark) []
def Uhw (b:Brd)(c:Uag)(mark:Int):Brd:={ Udj (Ys b 4) with m:=(Uda b mark).1,x:=Uf3 b.x c (Uda b mark).2,ver:=min (b.ver+1) 1099511627776 }
structure FsR (w:World) (cs ccs:Array Value) (W:World):Prop where
 b:Box W w.heap.size 63 cs
 c:Box W (w.heap.size+1) 27 ccs
 r:Box W (w.heap.size+1+1) 63 bzs
 below:Below w.heap.size w W
section
variable {w W W':World} {cs cs' ccs:Array Value}
theorem FsR.kept (H:FsR w cs ccs W)(hb:Below W.heap.size W W'):FsR w cs ccs W':=⟨H.b.kept hb,H.c.kept hb,H.r.kept hb,Ua H.below hb H.below.size⟩
theorem FsR.chg (H:FsR w cs ccs W)(hb:Box W' w.heap.size 63 cs')(hc:Chg (fun j=>j=w.heap.size) W W'):FsR w cs' ccs W' :=
 ⟨hb,H.c.chg hc (by omega),H.r.chg hc (by omega),⟨hc.os.trans H.below.os,hc.tape.trans H.below.tape,hc.output.trans H.below.output,Xd H.below.size hc.size,fun k hk=>(hc.block k (Xe hk H.below.size) (by omega)).trans (H.below.block k hk)⟩⟩
theorem FsR.drew (H:FsR w cs ccs W):FsR w cs ccs W.drew:=⟨H.b.drew,H.c.drew,H.r.drew,Ue H.below 1⟩
end
theorem Uwy {X:Nat→Prop}{rs vs:List Value}{b:Brd}{w:World}(c:Uag)(mark:Int)(h:BrX X w rs vs b)(hs:Uba b)(hX:∀j,X j→j<w.heap.size)(ht:mark≤1099511627776) :
  Calls prog 28 #[bv b rs vs,Ucf c,.int .i64 mark] w (Umo X (Uhw b c mark) id w):=by
 have KK:Hid (∀W,Below w.heap.size w W→Calls prog 27 #[bv b rs vs] W (Ub (bv b rs vs) W)):=Qd (fun W hb=>Ugm (h.below hb) hs)
 have KE:Hid (∀W,FsR w (bcs b rs vs) c.cells W→Calls prog 50 #[.pointer (some ⟨w.heap.size,0,none⟩),.func (.func 51) #[] #[.pointer (some ⟨w.heap.size,0,none⟩)]] W (Uus (fun j=>X j∨(j=w.heap.size∨j=w.heap.size+1+1)) w.heap.size Yr (Udj (Ys b 4)) W)):=Qd (fun W H =>
  Utd (X:=fun j=>X j∨(j=w.heap.size∨j=w.heap.size+1+1)) H.b ((h.low.mono (fun k hk=>U0q hk)).below H.below) hs (U55 hX H.r.lt) (Or.inr (Or.inl rfl)))
 have hs1:Uaz (Udj (Ys b 4)).m:=Ud6 hs.m 4 (by omega);have hd1:(Udj (Ys b 4)).drops.length=4:=by show(Ys b 4).drops.length=4;rw[(Uc2 b 4).2.1];exact hs.dl
 have hx1:(Udj (Ys b 4)).x=b.x:=(Uc2 b 4).2.2.1;have hv1:(Udj (Ys b 4)).ver=b.ver:=(Uc2 b 4).2.2.2;have hs2:Uaz (Uc9 b mark):=Ue1 hs1 ht
 have HLL:Hid ((Uda b mark).2.length≤1000):=Qd (by
  have h1:=U0p (Zh (Uc9 b mark)+1) (Uc9 b mark) [] hs2;have h2:Zh (Uc9 b mark)≤64:=by
   have h0:=(hs2.row 0 (by omega)).1;have h1:=(hs2.row 1 (by omega)).1;have h2:=(hs2.row 2 (by omega)).1;have h3:=(hs2.row 3 (by omega)).1;unfold Zh;omega
  unfold Uda;simp only[List.length_nil] at h1
  omega)
 have KT:Hid (∀W vs1,QsX (fun j=>X j∨(j=w.heap.size∨j=w.heap.size+1+1)) W vs1 (Udj (Ys b 4)).m→Calls prog 54 #[mv (Udj (Ys b 4)).m vs1,.int .i64 mark] W (U0g (fun j=>X j∨(j=w.heap.size∨j=w.heap.size+1+1)) (Uc9 b mark) W)):=Qd (fun W vs1 hq=>Uni hq hs1 mark ht);have KA:Hid (∀W vs2,QsX (fun j=>X j∨(j=w.heap.size∨j=w.heap.size+1+1)) W vs2 (Uc9 b mark)→w.heap.size+1+1<W.heap.size→Calls prog 53 #[mv (Uc9 b mark) vs2] W (Uup (fun j=>X j∨(j=w.heap.size∨j=w.heap.size+1+1)) (Uda b mark) W)):=Qd (fun W vs2 hq hlt=>Uq2 hq hs2 (U55 hX hlt));have HQF:Hid (∀W vs3,QsX (fun j=>X j∨(j=w.heap.size∨j=w.heap.size+1+1)) W vs3 (Uda b mark).1→BrX (fun j=>X j∨(j=w.heap.size∨j=w.heap.size+1+1)) W Yr vs3 (Uhw b c mark)):=Qd (fun W vs3 hq=>⟨rfl,fun k hk=>by rcases (show k=0∨k=1∨k=2∨k=3 by omega) with rfl|rfl|rfl|rfl<;>exact⟨[],WsX.nil _ W⟩,hq⟩);have D0:Hid (FsR w (bcs b rs vs) c.cells (((w.alloc (.cells (bcs b rs vs) 63)).alloc (.cells c.cells 27)).alloc (.cells bzs 63))):=Qd ⟨((Box.new _ _ _).alloc _).alloc _,(Box.at_ (by simp) _ _).alloc _,Box.at_ (by simp) _ _,(((Xb _ w).alloc (Xa _) _).alloc (by simp) _).alloc (by simp;omega) _⟩;have HM:Hid ((prog.info? 63).map (·.size)=some (bcs b rs vs).size):=Qd (Uav h hs);have HO:=Qd (Ubp h);have HVR:=Qd hs.ver;have HD1:=Qd hd1;have HX1:=Qd hx1;have HV1:=Qd hv1;have SXL:Hid ((prog.info? 52).map (·.size)=some b.x.list.length):=Qd Yj;have SCL:Hid ((prog.info? 27).map (·.size)=some c.list.length):=Qd (by kernel_rfl);have KF:Hid (∀W v,SmX (fun j=>X j∨(j=w.heap.size∨j=w.heap.size+1+1)) W v (Uda b mark).2→Calls prog 55 #[.agg b.x.list.toArray,.agg c.list.toArray,v] W (Ub (stv (Uf3 b.x c (Uda b mark).2)) W)):=Qd (fun W v hv=>Uqq b.x c hv HLL.out);have HE:Hid (Uhw b c mark={ Udj (Ys b 4) with m:=(Uda b mark).1,x:=Uf3 b.x c (Uda b mark).2,ver:=min (b.ver+1) 1099511627776 }):=Qd rfl;clear h hs hX hs1 hd1 hx1 hv1 hs2 ht;dsimp only[bv,Ucf,id] at *;generalize Uhw b c mark=bf at *;generalize Uda b mark=tk at *;generalize Uc9 b mark=mt at *;generalize Udj (Ys b 4)=b1 at *;generalize bcs b rs vs=cs at *;obtain⟨m3,l3⟩:=tk;dsimp only at *;generalize Uf3 b.x c l3=x9 at *;obtain⟨xl,hxl⟩:∃xl,b.x.list=xl:=⟨_,rfl⟩;have HXL:Hid (b1.x.list=xl):=Qd (by rw[HX1.out];exact hxl);rw[hxl] at SXL KF;clear hxl;go_enter func28,ntmps28;go_upto_region 1 with fail
 refine Uq fun W0 hW0=>?_
 have D1:Hid (FsR w cs c.cells W0):=Qd (by rw[hW0];exact D0.out);clear hW0 D0;go_wp2_with (with_reducible first|refine Qg 63 ?_|refine Qh 63 ?_|refine Qi 45 ?_|refine Qh 45 ?_);refine Uo.go w.heap.size rfl D1.out.b underlying63 rfl HM.out ?_;go_wp2_with fail;refine(KK.out _ D1.out.below).mono ?_;rintro e w1 ⟨rfl,hb⟩;have D2:=Qd (D1.out.kept hb);clear hb D1 KK;go_wp2_with (with_reducible first|refine Qg 63 ?_|refine Qh 63 ?_|refine Qi 45 ?_|refine Qh 45 ?_);refine Uf.go w.heap.size rfl rfl D2.out.b HM.out rfl HO.out ?_;go_upto_region 2 with fail
 refine Uq fun W2 hW2=>?_
 have D3:Hid (FsR w cs c.cells W2):=Qd (by rw[hW2];exact D2.out.chg (D2.out.b.row _) (Chg.setRow (X:=fun j=>j=w.heap.size) rfl _));clear hW2 D2;go_wp2_with fail;refine(KE.out _ D3.out).mono ?_;rintro e w3 ⟨vs1,rfl,hB,hQ,hC⟩;have D4:=Qd (D3.out.chg hB hC);have Q4:=Qd hQ;have CM:=Qd (b_m D4.out.b rfl HD1.out);have SM:Hid ((prog.info? 45).map (·.size)=some (Ul b1.m vs1).length):=Qd (by rw[Uu hQ.q.len hQ.q.nl];exact Uau);have KT1:=Qd (KT.out _ _ Q4.out.q);have em:mv b1.m vs1 = .agg (Ul b1.m vs1).toArray:=rfl;rw[em] at KT1;clear hB hQ hC KT KE D3 em;generalize hml:Ul b1.m vs1=ml at KT1 SM CM;clear hml;go_wp2_with (with_reducible first|refine Qg 63 ?_|refine Qh 63 ?_|refine Qi 45 ?_|refine Qh 45 ?_);refine Ubl.go rfl w.heap.size 8 rfl CM.out underlying45 rfl SM.out ?_;go_wp2_with fail;refine KT1.out.mono ?_;rintro e w4 ⟨vs2,rfl,hq2,hb⟩;have D5:=Qd (D4.out.kept hb);have Q5:=Qd (Q4.out.below hb);have KA1:=Qd (KA.out _ _ hq2 D5.out.r.lt);clear hq2 hb D4 Q4 KT1 KA CM SM;go_wp2_with fail;refine KA1.out.mono ?_;rintro e w5 ⟨vs3,v3,rfl,hq3,hsm,hb⟩;have D6:=Qd (D5.out.kept hb);have Q6:=Qd (Q5.out.below hb);have HQ3:=Qd hq3;have HS3:=Qd hsm;have SM3:Hid ((prog.info? 45).map (·.size)=some (Ul m3 vs3).length):=Qd (by rw[Uu hq3.len hq3.nl];exact Uau);have SZ3:Hid (mz.size=(Ul m3 vs3).toArray.size):=Qd (Uir.trans (Uaf hq3.len hq3.nl).symm);have HO3:Hid ((Ul m3 vs3).toArray.all (·.oneCell')=true):=Qd (Uah hq3);have em:mv m3 vs3 = .agg (Ul m3 vs3).toArray:=rfl;rw[em];clear hq3 hsm hb D5 Q5 KA1 em;obtain⟨ml3,hml3⟩:∃ml3,Ul m3 vs3=ml3:=⟨_,rfl⟩;rw[hml3] at SM3 SZ3 HO3 ⊢;have HML:=Qd hml3;clear hml3;go_wp2_with (with_reducible first|refine Qg 63 ?_|refine Qh 63 ?_|refine Qi 45 ?_|refine Qh 45 ?_);refine Uf.go w5.heap.size rfl rfl (Box.new _ _ _) (by simpa using SM3.out) SZ3.out HO3.out ?_;go_upto_region 4 with fail
 refine Uq fun W6 hW6=>?_
 have HB6:Hid (Below w5.heap.size w5 W6):=Qd (by rw[hW6];exact Uc ((Xb _ w5).alloc (Xa _) _) (Xa _) _);have B7:Hid (Box W6 w5.heap.size 45 ml3.toArray):=Qd (by rw[hW6];exact(Box.new _ _ _).row _);have D7:=Qd (D6.out.kept HB6.out);have Q7:=Qd (HQ3.out.below HB6.out);have S7:=Qd (HS3.out.below HB6.out);have QQ:=Qd (Q6.out.below HB6.out);have HXR:Hid (W6.rangeAt w.heap.size 27 xl∧w.heap.size<w5.heap.size):=Qd ⟨by rw[←HXL.out];exact b_x D7.out.b rfl HD1.out QQ.out.q.len QQ.out.q.nl,D6.out.b.lt⟩;clear hW6 HB6 D6 HQ3 HS3 Q6;refine Uk (S:=fun w'=>Box w' w5.heap.size 45 ml3.toArray∧Box w' (w.heap.size+1) 27 c.cells∧w'.rangeAt w.heap.size 27 xl) 9 9 (by kernel_rfl) rfl (by kernel_rfl) (by decide) ⟨B7.out.drew,D7.out.c.drew,HXR.out.1⟩ (fun hHeld=>?_);refine Ux (i:=0) (v := .agg (ml3).toArray) rfl rfl (by kernel_rfl) (by kernel_rfl) (by kernel_rfl) (fun _ _ _ h=>h)
  (Xn (by rfl) 45 _ rfl (w5.heap.size) (0) rfl (ml3) _ (fun _ h=>h.1.rangeA) underlying45 rfl SM3.out) hHeld ?_
 simp only[Qz];refine Qn 1 (.pointer (some ⟨w.heap.size,27,none⟩)) ?_;refine Ux (i:=2) (v := .agg (xl).toArray) rfl rfl (by kernel_rfl) (by kernel_rfl) (by kernel_rfl) (fun _ _ _ h=>h)
  (Xn (by rfl) 52 _ rfl (w.heap.size) (27) rfl (xl) _ (fun _ h=>h.2.2) underlying52 rfl SXL.out) hHeld ?_
 simp only[Qz];refine Ux (i:=3) (v := .agg (c.list).toArray) rfl rfl (by kernel_rfl) (by kernel_rfl) (by kernel_rfl) (fun _ _ _ h=>h)
  (Xn (by rfl) 27 _ rfl (w.heap.size+1) (0) rfl (c.list) _ (fun _ h=>h.2.1.rangeA) underlying27 rfl SCL.out) hHeld ?_
 simp only[Qz];refine Qn 4 v3 ?_;refine Ut fun WD hWD=>?_
 have DD:Hid (FsR w (bcs b1 Yr vs1) c.cells WD∧Box WD w5.heap.size 45 ml3.toArray∧SmX (fun j=>X j∨(j=w.heap.size∨j=w.heap.size+1+1)) WD v3 l3∧QsX (fun j=>X j∨(j=w.heap.size∨j=w.heap.size+1+1)) WD vs3 m3∧BrX (fun j=>X j∨(j=w.heap.size∨j=w.heap.size+1+1)) WD Yr vs1 b1∧WD.rangeAt w.heap.size 27 xl):=Qd (by rw[hWD];exact⟨D7.out.drew,B7.out.drew,S7.out.chg ((Chg.refl _ _).drew),Q7.out.chg ((Chg.refl _ _).drew),QQ.out.chg ((Chg.refl _ _).drew),HXR.out.1⟩);clear hWD D7 B7 S7 Q7 QQ;replace hHeld:=Xc DD.out.2.1 (Xc DD.out.1.c DD.out.2.2.2.2.2);refine Qc 5 fun KQ hKQ=>?_
 go_simp;refine(KF.out _ _ DD.out.2.2.1).mono ?_;rintro e w8 ⟨rfl,hb⟩;have DE:Hid (FsR w (bcs b1 Yr vs1) c.cells w8∧Box w8 w5.heap.size 45 ml3.toArray∧QsX (fun j=>X j∨(j=w.heap.size∨j=w.heap.size+1+1)) w8 vs3 m3∧BrX (fun j=>X j∨(j=w.heap.size∨j=w.heap.size+1+1)) w8 Yr vs1 b1∧w8.rangeAt w.heap.size 27 xl) :=
  Qd ⟨DD.out.1.kept hb,DD.out.2.1.kept hb,DD.out.2.2.2.1.below hb,DD.out.2.2.2.2.1.below hb,by rw[←HXL.out];exact b_x (DD.out.1.kept hb).b rfl HD1.out DD.out.2.2.2.2.1.q.len DD.out.2.2.2.2.1.q.nl⟩
 clear hb DD KF;refine hKQ.out _ _ ⟨DE.out.2.1,DE.out.1.c,DE.out.2.2.2.2⟩ (fun hHeld=>?_);clear hKQ KQ;refine Qn 6 (.pointer (some ⟨w.heap.size,8,none⟩)) ?_
 have P1:Hid (w8.there w.heap.size 8 ml3.toArray.size∧Box (w8.setCells w.heap.size 8 ml3) w.heap.size 63 (bcs { b1 with m:=m3 } Yr vs3)):=Qd (by
  have hq:=DE.out.2.2.1;have h1:=DE.out.2.2.2.1.q;refine⟨DE.out.1.b.midThere ?_,by rw[←HML.out];exact U4l DE.out.1.b rfl HD1.out h1.len h1.nl hq.len hq.nl⟩;rw[←HML.out];simp only[bcs,Zt,List.size_toArray,List.length_append,List.length_map,HD1.out,Uu h1.len h1.nl,Uu hq.len hq.nl,Ue3,Yr,List.length_cons,List.length_nil]
  omega)
 refine Qc 7 fun KQ hKQ=>?_
 rw[if_pos (by rfl)];refine wp_store_mid 45 _ _ rfl w.heap.size 8 ml3.toArray rfl rfl P1.out.1 (by simpa using SM3.out) HO3.out ?_;refine Uh6 fun W9 hW9=>?_
 have DF:Hid (FsR w (bcs { b1 with m:=m3 } Yr vs3) c.cells W9∧Box W9 w5.heap.size 45 ml3.toArray∧QsX (fun j=>X j∨(j=w.heap.size∨j=w.heap.size+1+1)) W9 vs3 m3∧W9.rangeAt w.heap.size 27 xl):=Qd (by
  have hc:Chg (fun j=>j=w.heap.size) w8 W9:=by rw[hW9];exact Chg.setCells (X:=fun j=>j=w.heap.size) rfl _ _
  have hB:Box W9 w.heap.size 63 (bcs { b1 with m:=m3 } Yr vs3):=by rw[hW9];exact P1.out.2
  have hq:=DE.out.2.2.1.chg (hc.mono (fun k _ e=>Or.inr (Or.inl e)))
  exact⟨DE.out.1.chg hB hc,DE.out.2.1.chg hc (by have:=HXR.out.2;omega),hq,by rw[←HXL.out];exact b_x (b:={ b1 with m:=m3 }) hB rfl HD1.out hq.len hq.nl⟩)
 clear hW9 DE P1;go_simp;refine hKQ.out _ _ ⟨DF.out.2.1,DF.out.1.c,DF.out.2.2.2⟩ (fun hHeld=>?_);clear hKQ KQ;refine Qn 8 (.pointer (some ⟨w.heap.size,27,none⟩)) ?_;refine Xl (by kernel_rfl) ?_ _
 have P2:Hid (W9.there w.heap.size 27 x9.cells.size):=Qd (DF.out.1.b.midThere (by
  have hq:=DF.out.2.2.1;show 27+29≤_;simp only[bcs,Zt,List.size_toArray,List.length_append,List.length_map,HD1.out,Uu hq.len hq.nl,Ue3,Yr,List.length_cons,List.length_nil]
  omega))
 refine U4 rfl (by rfl) ?_;refine wp_store_mid 52 _ _ rfl w.heap.size 27 x9.cells rfl rfl P2.out Yj (Sta.one _) ?_;refine Yn fun Wa hWa=>?_
 have DG:Hid (FsR w (bcs { b1 with m:=m3,x:=x9 } Yr vs3) c.cells Wa∧QsX (fun j=>X j∨(j=w.heap.size∨j=w.heap.size+1+1)) Wa vs3 m3):=Qd (by
  have hc:Chg (fun j=>j=w.heap.size) W9 Wa:=by rw[hWa];exact Chg.setCells (X:=fun j=>j=w.heap.size) rfl _ _
  have hq:=DF.out.2.2.1;have hB:Box Wa w.heap.size 63 (bcs { b1 with m:=m3,x:=x9 } Yr vs3):=by rw[hWa];exact U7z DF.out.1.b rfl HD1.out hq.len hq.nl x9
  exact⟨DF.out.1.chg hB hc,hq.chg (hc.mono (fun k _ e=>Or.inr (Or.inl e)))⟩)
 clear hWa DF P2 hHeld;have xv:Wa.cell? ⟨w.heap.size,56,none⟩=some (.int .i64 b.ver):=by rw[←HV1.out];exact U7x (b:={ b1 with m:=m3,x:=x9 }) DG.out.1.b rfl HD1.out DG.out.2.len DG.out.2.nl
 have KM:=Qd (Uwv HVR.out DG.out.1.b.lt xv (DG.out.1.b.frozen 56));clear xv;go_wp2_with (with_reducible first|refine Qg 63 ?_|refine Qh 63 ?_|refine Qi 45 ?_|refine Qh 45 ?_);refine KM.out.mono ?_;rintro e wb ⟨rfl,hWb⟩
 have DH:Hid (FsR w (bcs bf Yr vs3) c.cells wb∧BrX (fun j=>X j∨(j=w.heap.size∨j=w.heap.size+1+1)) wb Yr vs3 bf∧(bcs bf Yr vs3).size=57∧(bcs bf Yr vs3).all (·.oneCell')=true):=Qd (by
  have hq:=DG.out.2;have hc:Chg (fun j=>j=w.heap.size) Wa wb:=by rw[hWb];exact Chg.setCell (X:=fun j=>j=w.heap.size) (p:=⟨w.heap.size,56,none⟩) rfl _
  have hB:Box wb w.heap.size 63 (bcs bf Yr vs3):=by rw[hWb,HE.out];exact U71 (b:={ b1 with m:=m3,x:=x9 }) DG.out.1.b rfl HD1.out hq.len hq.nl _
  have hQ:=HQF.out _ _ (hq.chg (hc.mono (fun k _ e=>Or.inr (Or.inl e))));refine⟨DG.out.1.chg hB hc,hQ,?_,Ubp hQ⟩;rw[HE.out]
  simp only[bcs,Zt,List.size_toArray,List.length_append,List.length_map,HD1.out,Uu hq.len hq.nl,Ue3,Yr,List.length_cons,List.length_nil])
 have SBF:Hid ((prog.info? 63).map (·.size)=some (bcs bf Yr vs3).size):=Qd (by rw[DH.out.2.2.1];exact Ud5);clear hWb DG KM;go_wp2_with (with_reducible first|refine Qg 63 ?_|refine Qh 63 ?_|refine Qi 45 ?_|refine Qh 45 ?_);refine Uo.go w.heap.size rfl DH.out.1.b underlying63 rfl SBF.out ?_;go_wp2_with (with_reducible first|refine Qg 63 ?_|refine Qh 63 ?_|refine Qi 45 ?_|refine Qh 45 ?_);refine Uf.go (w.heap.size+1+1) rfl rfl DH.out.1.r SBF.out (by rw[DH.out.2.2.1];rfl) DH.out.2.2.2 ?_;go_wp2_with fail;exact Xk (results_cell_row results28 _ _ (w.heap.size+1+1) 63 _ (0,0) _ rfl (DH.out.1.r.row _) underlying63 rfl SBF.out) rfl ⟨_,_,rfl,(DH.out.2.1.chg (Chg.setRow (Or.inr (Or.inr rfl)) _)).mono (fun k hk=>Or.inl hk),Uc DH.out.1.below (by omega) _⟩
open Tryz
open Go.RowKit Go.Shelf
structure Dox where
 fuse:Bool
 s:Nat
 mark:Int
 v:Value
 ws:List Int
def Dox.list (d:Dox):List Value:=[.bool d.fuse,.int .i64 (d.s:Int),.int .i64 d.mark,d.v]
def U0r (c:Uag)(b:Brd)(d:Dox):Brd:=if d.fuse then Uhw b c d.mark else Ujk b d.s d.ws
def Uo5 (c:Uag)(b:Brd)(l:List Dox):Brd:=l.foldl (U0r c) b
def U8m (b:Brd)(d:Dox):Prop:=(d.fuse=true→d.mark≤1099511627776)∧(d.fuse=false→d.s<4∧d.ws.length=6∧(b.ring.getD d.s []).length<8)
def okB (c:Uag):Brd→List Dox→Prop
 | b,[]=>Uba b
 | b,d::l=>Uba b∧U8m b d∧okB c (U0r c b d) l
theorem U3c {c:Uag}{b:Brd}{l:List Dox}(h:okB c b l):Uba b:=by
 cases l with
 | nil=>exact h
 | cons d l=>exact h.1
theorem U72 {c:Uag}:∀(l:List Dox) (b:Brd),okB c b l→∀j,j≤l.length→Uba (Uo5 c b (l.take j))∧∀d,l[j]? = some d→U8m (Uo5 c b (l.take j)) d:=by
 intro l
 induction l with
 | nil=>intro b h j hj;exact⟨by have h':Uba b:=h;simpa [Uo5] using h',fun d hd=>by simp at hd⟩
 | cons a l ih =>
  intro b h j hj;cases j with
  | zero=>exact⟨h.1,fun d hd=>by simp at hd;subst hd;exact h.2.1⟩
  | succ j =>
   have:=ih _ h.2.2 j (by simpa using hj);exact⟨this.1,fun d hd=>this.2 d (by simpa using hd)⟩
theorem U0s (c:Uag)(b:Brd)(l:List Dox){j:Nat}{d:Dox}(h:l[j]? = some d):Uo5 c b (l.take (j+1))=U0r c (Uo5 c b (l.take j)) d:=by
 obtain⟨hj,rfl⟩:=List.getElem?_eq_some_iff.1 h;unfold Uo5;rw[List.take_succ_eq_append_getElem hj,List.foldl_append]
 rfl
def Ulz (X:Nat→Prop)(w:World)(v:Value)(l:List Dox):Prop:=Sl w v 4 l.length (l.flatMap Dox.list)∧Ud0 X v∧∀d,d∈l→WdX X w d.v d.ws
section
variable {X:Nat→Prop} {w w':World} {v:Value} {l:List Dox}
theorem Ulz.chg (h:Ulz X w v l)(hc:Chg X w w'):Ulz X w' v l:=⟨h.1.chg h.2.1 hc,h.2.1,fun d hd=>(h.2.2 d hd).chg hc⟩
theorem Ulz.low (h:Ulz X w v l):Ulz (fun k=>X k∨w.heap.size≤k) w v l:=⟨h.1,Uhu h.1 h.2.1,fun d hd=>(h.2.2 d hd).low⟩
theorem Ulz.mono {Y:Nat→Prop}(h:Ulz X w v l)(hY:∀k,Y k→X k):Ulz Y w v l:=⟨h.1,h.2.1.mono hY,fun d hd=>(h.2.2 d hd).mono hY⟩
theorem Ulz.at_ {A:Option Addr}{n c k:Nat}{d:Dox}(h:Ulz X w (.slice A n c) l)(hk:l[k]? = some d):∃b off,A=some ⟨b,off,none⟩∧b<w.heap.size∧n=l.length∧w.rangeAt b (off+k*4) d.list∧WdX X w d.v d.ws:=by
 have hn:n=l.length:=by
  obtain⟨_,A',c',e,_⟩:=h.1;injection e
 subst hn;obtain⟨hkl,hs⟩:=List.getElem?_eq_some_iff.1 hk;obtain⟨b,off,rfl,hb,hc⟩:=Sl.at_ h.1 (by omega) (by omega);refine⟨b,off,rfl,hb,rfl,fun j u hu=>?_,h.2.2 d (by rw[←hs];exact List.getElem_mem hkl)⟩;have hj:j<4:=by have:=(List.getElem?_eq_some_iff.1 hu).1;simpa [Dox.list] using this
 have hg:=Ufi Dox.list 4 l (fun _ _=>rfl) k j hkl hj;rw[Nat.add_assoc];exact hc (k*4+j) u (by rw[hg,hs];exact hu)
end
def RbR (X:Nat→Prop)(b:Brd)(ccs:Array Value)(w W:World):Prop:=∃rs vs,FsR w (bcs b rs vs) ccs W∧BrX (fun j=>X j∨(j=w.heap.size∨j=w.heap.size+1+1)) W rs vs b
theorem U56:(prog.info? 69).map (·.size)=some 4:=by kernel_rfl
theorem Uq7 {X:Nat→Prop}{rs vs:List Value}{b:Brd}{w:World}(c:Uag)(l:List Dox)(hl:l.length≤1000)(h:BrX X w rs vs b)(hX:∀j,X j→j<w.heap.size)(hok:okB c b l){v:Value}(hd:Ulz X w v l) :
  Calls prog 13 #[bv b rs vs,Ucf c,v] w (Umo X (Uo5 c b l) id w):=by
 have hs:=U3c hok;have KK:Hid (∀W,Below w.heap.size w W→Calls prog 27 #[bv b rs vs] W (Ub (bv b rs vs) W)):=Qd (fun W hb=>Ugm (h.below hb) hs);have D0:Hid (FsR w (bcs b rs vs) c.cells (((w.alloc (.cells (bcs b rs vs) 63)).alloc (.cells c.cells 27)).alloc (.cells bzs 63))):=Qd ⟨((Box.new _ _ _).alloc _).alloc _,(Box.at_ (by simp) _ _).alloc _,Box.at_ (by simp) _ _,(((Xb _ w).alloc (Xa _) _).alloc (by simp) _).alloc (by simp;omega) _⟩;have HM:Hid ((prog.info? 63).map (·.size)=some (bcs b rs vs).size):=Qd (Uav h hs);have HO:=Qd (Ubp h);have SCC:Hid ((prog.info? 27).map (·.size)=some c.cells.size):=Qd (by kernel_rfl);obtain⟨F,hF⟩:∃F:Nat→Brd,F=fun j=>Uo5 c b (l.take j):=⟨_,rfl⟩
 have HR0:Hid (∀W,FsR w (bcs b rs vs) c.cells W→RbR X (F 0) c.cells w W):=Qd (fun W H=>⟨rs,vs,by rw[hF];exact H,by rw[hF];exact(h.low.mono (fun k hk=>U0q hk)).below H.below⟩);have HAT:Hid (∀j,j≤l.length→Uba (F j)∧∀d,l[j]? = some d→U8m (F j) d):=Qd (by rw[hF];exact U72 l b hok);have HNX:Hid (∀j d,l[j]? = some d→F (j+1)=U0r c (F j) d):=Qd (by rw[hF];exact fun j d hj=>U0s c b l hj);have HFN:Hid (F l.length=Uo5 c b l):=Qd (by rw[hF];show Uo5 c b (l.take l.length)=_;rw[List.take_length]);have HDX:Hid (∀W,Below w.heap.size w W→Ulz (fun j=>X j∨(j=w.heap.size∨j=w.heap.size+1+1)) W v l):=Qd (fun W hb=>(hd.low.mono (fun k hk=>U0q hk)).chg (Chg.of hb));have HXX:=Qd hX;obtain⟨A,cap,rfl,hc1,hc2,-⟩:=hd.1.form;rw[←HFN.out];clear hs h hX hok hd hF HFN;dsimp only[bv,Ucf,id] at *;generalize bcs b rs vs=cs at *;obtain⟨n,hn⟩:∃n,l.length=n:=⟨_,rfl⟩;have HN:=Qd hn;rw[hn] at hl hc1 HAT ⊢;clear hn;unfold maxLen at hc2;go_enter func13,ntmps13;go_upto_region 1 with fail
 refine Uq fun W0 hW0=>?_
 have D1:Hid (FsR w cs c.cells W0):=Qd (by rw[hW0];exact D0.out);clear hW0 D0;go_wp2_with (with_reducible first|refine Qg 63 ?_|refine Qh 63 ?_|refine Qg 27 ?_|refine Qi 69 ?_|refine Qh 69 ?_);refine Uo.go w.heap.size rfl D1.out.b underlying63 rfl HM.out ?_;go_wp2_with fail;refine(KK.out _ D1.out.below).mono ?_;rintro e w1 ⟨rfl,hb⟩;have D2:=Qd (D1.out.kept hb);clear hb D1 KK;go_wp2_with (with_reducible first|refine Qg 63 ?_|refine Qh 63 ?_|refine Qg 27 ?_|refine Qi 69 ?_|refine Qh 69 ?_);refine Uf.go w.heap.size rfl rfl D2.out.b HM.out rfl HO.out ?_;go_upto_region 2 with fail
 refine Uq fun W2 hW2=>?_
 have D3:Hid (RbR X (F 0) c.cells w W2):=Qd (HR0.out _ (by rw[hW2];exact D2.out.chg (D2.out.b.row _) (Chg.setRow (X:=fun j=>j=w.heap.size) rfl _)));clear hW2 D2 HR0;go_wp2_with fail;go_loopw [13] (fun i wr=>∃j:Nat,j≤n∧i = .int .i64 (j:Int)∧Hid (RbR X (F j) c.cells w wr)) (fun i _=>n-(intOf i).toNat)
 case atStart=>exact⟨0,Nat.zero_le _,rfl,D3⟩
 case round =>
  obtain⟨j,hj,rfl,HR⟩:=hrel;clear D3 HM HO;obtain⟨rs1,vs1,hfs,hbx⟩:=HR.out;have R1:=Qd hfs;have Q1:=Qd hbx;clear hfs hbx HR;have hsj:=(HAT.out j hj).1;have SBJ:Hid ((prog.info? 63).map (·.size)=some (bcs (F j) rs1 vs1).size):=Qd (Uav Q1.out hsj);by_cases hlt:j<n;rotate_right
  focus
   obtain rfl:j=n:=by omega
   clear HAT HNX HDX HXX;have HB5:Hid ((bcs (F j) rs1 vs1).all (·.oneCell')=true):=Qd (Ubp Q1.out);have HZ5:Hid (bzs.size=(bcs (F j) rs1 vs1).size):=Qd (by rw[Ub1 Q1.out hsj];rfl);clear hsj
  rotate_right
  focus
   obtain⟨d,hdj⟩:∃d,l[j]? = some d:=⟨l[j]'(by rw[HN.out];exact hlt),Xj _⟩;have hmay:=(HAT.out j hj).2 d hdj;have hnx:=HNX.out j d hdj;obtain⟨bb,off,rfl,hbl,-,hrow,hwd⟩:=(HDX.out _ R1.out.below).at_ hdj;have HROW:=Qd hrow;have HWD:=Qd hwd;have HXL:Hid (∀j,(X j∨(j=w.heap.size∨j=w.heap.size+1+1))→j<wr.heap.size):=Qd (U55 HXX.out R1.out.r.lt);have HSJ:=Qd hsj;have HMAY:=Qd hmay;have HNJ:=Qd hnx;have hji:(j:Int)<(n:Int):=by omega
   have hj0:(0:Int)≤(j:Int):=by omega
   clear hdj hmay hnx hrow hwd hsj;obtain⟨df,ds,dm,dv,dw⟩:=d;unfold Dox.list at HROW;unfold U0r at HNJ;unfold U8m at HMAY;dsimp only at HROW HWD HMAY HNJ;have S69:Hid ((prog.info? 69).map (·.size)=some ([.bool df,.int .i64 (ds:Int),.int .i64 dm,dv]:List Value).length):=Qd U56;have O69:Hid ((#[.bool df,.int .i64 (ds:Int),.int .i64 dm,dv]:Array Value).all (·.oneCell')=true):=Qd (by have:=Uec HWD.out.1.1;simp[this];exact⟨rfl,rfl,rfl⟩)
  all_goals
   go_wp2_with (with_reducible first|refine Qg 63 ?_|refine Qh 63 ?_|refine Qg 27 ?_|refine Qi 69 ?_|refine Qh 69 ?_)
  rotate_right
  focus
   refine Uo.go w.heap.size rfl R1.out.b underlying63 rfl SBJ.out ?_
  rotate_right
  focus
   refine Ubl.go rfl bb (off+j*4) rfl HROW.out underlying69 rfl S69.out ?_
  all_goals
   go_wp2_with (with_reducible first|refine Qg 63 ?_|refine Qh 63 ?_|refine Qg 27 ?_|refine Qi 69 ?_|refine Qh 69 ?_)
  ·refine Uf.go wr.heap.size rfl rfl (Box.new _ _ _) S69.out rfl O69.out ?_;go_upto_region 5 with fail
   refine Uq fun W5 hW5=>?_
   have HB5:Hid (Below wr.heap.size wr W5):=Qd (by rw[hW5];exact Uc ((Xb _ wr).alloc (Xa _) _) (Xa _) _);have B5:Hid (Box W5 wr.heap.size 69 #[.bool df,.int .i64 (ds:Int),.int .i64 dm,dv]):=Qd (by rw[hW5];exact(Box.new _ _ _).row _);have R5:=Qd (R1.out.kept HB5.out);have Q5:=Qd (Q1.out.below HB5.out);have W5D:=Qd (HWD.out.chg (Chg.of HB5.out));have HX5:Hid (∀j,(X j∨(j=w.heap.size∨j=w.heap.size+1+1))→j<W5.heap.size):=Qd (fun j hj=>Xe (HXL.out j hj) HB5.out.size);clear hW5 HB5 R1 Q1 HWD HROW HXL;have d0:=B5.out.cell 0;have d1:=B5.out.cell 1;have d2:=B5.out.cell 2;have d3:=B5.out.cell 3;cases df;rotate_right
   focus
    have KF:=Qd (Uwy c dm Q5.out HSJ.out HX5.out (HMAY.out.1 rfl));rw[if_pos rfl] at HNJ;rw[←HNJ.out] at KF;dsimp only[Umo,bv,Ucf,id] at KF
   rotate_right
   focus
    have hm:=HMAY.out.2 rfl;have KP:=Qd (U0n Q5.out HSJ.out HX5.out hm.1 W5D.out hm.2.1 hm.2.2);rw[if_neg (by decide)] at HNJ;rw[←HNJ.out] at KP;dsimp only[Umo,bv,Ucf] at KP;clear hm
   all_goals
    go_wp2_with (with_reducible first|refine Qg 63 ?_|refine Qh 63 ?_|refine Qg 27 ?_|refine Qi 69 ?_|refine Qh 69 ?_);refine Uo.go w.heap.size rfl R5.out.b underlying63 rfl SBJ.out ?_
   rotate_right
   focus
    go_wp2_with (with_reducible first|refine Qg 63 ?_|refine Qh 63 ?_|refine Qg 27 ?_|refine Qi 69 ?_|refine Qh 69 ?_);refine Uo.go (w.heap.size+1) rfl R5.out.c underlying27 rfl SCC.out ?_;go_wp2_with fail;refine KF.out.mono ?_
   rotate_right
   focus
    go_wp2_with fail;refine KP.out.mono ?_
   all_goals
    rintro e w6 ⟨rs6,vs6,rfl,hq6,hb6⟩;have R6:=Qd (R5.out.kept hb6);have Q6:=Qd hq6;have hsn:=(HAT.out (j+1) (by omega)).1;have SB6:Hid ((prog.info? 63).map (·.size)=some (bcs (F (j+1)) rs6 vs6).size∧(bcs (F j) rs1 vs1).size=(bcs (F (j+1)) rs6 vs6).size∧(bcs (F (j+1)) rs6 vs6).all (·.oneCell')=true):=Qd ⟨Uav hq6 hsn,by rw[Ub1 hq6 hsn,Ub1 Q5.out HSJ.out],Ubp hq6⟩;clear hb6 hq6 hsn d0 d1 d2 d3 R5 Q5;go_wp2_with (with_reducible first|refine Qg 63 ?_|refine Qh 63 ?_|refine Qg 27 ?_|refine Qi 69 ?_|refine Qh 69 ?_);refine Uf.go w.heap.size rfl rfl R6.out.b SB6.out.1 SB6.out.2.1 SB6.out.2.2 ?_;go_wp2_with fail;go_roundw
    case rel=>exact⟨j+1,by omega,by simp,Qd ⟨rs6,vs6,R6.out.chg (R6.out.b.row _) (Chg.setRow (X:=fun j=>j=w.heap.size) rfl _),Q6.out.chg (Chg.setRow (Or.inr (Or.inl rfl)) _)⟩⟩
    case measure=>simp[intOf];omega
  ·refine Uf.go (w.heap.size+1+1) rfl rfl R1.out.r SBJ.out HZ5.out HB5.out ?_;go_wp2_with fail;exact Xk (results_cell_row results13 _ _ (w.heap.size+1+1) 63 _ (0,0) _ rfl (R1.out.r.row _) underlying63 rfl SBJ.out) rfl ⟨_,_,rfl,(Q1.out.chg (Chg.setRow (Or.inr (Or.inr rfl)) _)).mono (fun k hk=>Or.inl hk),Uc R1.out.below (by omega) _⟩
end Go.Proofs.YtdaflmjfeoacaaaGreat
