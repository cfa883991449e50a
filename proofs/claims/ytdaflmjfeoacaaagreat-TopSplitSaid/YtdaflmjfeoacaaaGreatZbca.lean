/- Part of the proof of TopSplit: ToC. Conditions: none. -/
import Derived.Test.YtdaflmjfeoacaaaGreatZbbx
set_option linter.all false
set_option maxHeartbeats 16000000
set_option maxRecDepth 4000
namespace Go.Proofs.YtdaflmjfeoacaaaGreat
open Tryz
open Go.RowKit Go.Shelf
theorem U1v (x:Int):∃q:Nat,q<4∧bits .and .i64 x 3=(q:Int):=by
 have hb:(BitVec.ofInt 64 3).toNat=3:=rfl;refine⟨(BitVec.ofInt 64 x &&& BitVec.ofInt 64 3).toNat,?_,?_⟩
 ·rw[BitVec.toNat_and,hb];exact Nat.lt_succ_of_le Nat.and_le_right
 ·show IntKind.i64.wrap (((BitVec.ofInt 64 x &&& BitVec.ofInt 64 3).toNat:Nat):Int)=_;have:(BitVec.ofInt 64 x &&& BitVec.ofInt 64 3).toNat≤3:=by rw[BitVec.toNat_and,hb];exact Nat.and_le_right
  rw[Xf];omega
def U8i (s:Nat)(v:Smp):Smp:={ v with s:=(s:Int) }
def lsS (s:Nat)(l:List Smp)(j:Nat):List Smp:=(l.take j).map (U8i s)
theorem U34 (s:Nat){l:List Smp}{j:Nat}{v:Smp}(h:l[j]? = some v):lsS s l (j+1)=lsS s l j++[U8i s v]:=by
 obtain⟨hj,rfl⟩:=List.getElem?_eq_some_iff.1 h;unfold lsS;rw[List.take_succ_eq_append_getElem hj,List.map_append]
 rfl
theorem U1w (s:Nat){l:List Smp}{j:Nat}(h:j≤l.length):(lsS s l j).length=j:=by unfold lsS;rw[List.length_map,List.length_take];omega
theorem U6x (dl:List Dox):(dl.flatMap Dox.list).length=dl.length*4:=by
 induction dl with
 | nil=>rfl
 | cons d dl ih=>rw[List.flatMap_cons,List.length_append,ih];simp[Dox.list];omega
theorem Utv {X:Nat→Prop}{W:World}{gr:Nat}{dl:List Dox}(hB:Box W gr 69 (dl.flatMap Dox.list).toArray)(hl:dl.length≤1000)(hX:¬X gr)(hw:∀d,d∈dl→WdX X W d.v d.ws):Ulz X W (.slice (some ⟨gr,0,none⟩) dl.length dl.length) dl:=by
 refine⟨⟨U6x dl,_,dl.length,rfl,Xa _,by simp only[maxLen];omega,(fun h=>by cases h),fun _=>⟨_,rfl,hB.lt,fun j u hu=>?_⟩⟩,fun a n c e _ hx=>?_,hw⟩
 ·rw[Ua7,hB.cell,Nat.zero_add,List.getElem?_toArray];exact hu
 ·injection e with e1 _ _
  injection e1 with e1
  rw[←e1] at hx;exact hX hx
def doP (s:Nat)(v9:Value)(v:Smp):Dox:=⟨false,s,0,v9,Yk v⟩
def doF (t:Int):Dox:=⟨true,0,t,.slice none 0 0,[]⟩
theorem Urn (s:Nat)(A:Option Addr)(n m:Nat)(t:Int):∀w,(Instr.buildSlice 70 2 #[(0,.agg #[.bool false,.int .i64 (s:Int),.int .i64 0,.slice A n m]),(1,.agg #[.bool true,.int .i64 0,.int .i64 t,.slice none 0 0])]).run prog w = .ok (.slice (some ⟨w.heap.size,0,none⟩) 2 2) (w.alloc (.cells #[.bool false,.int .i64 (s:Int),.int .i64 0,.slice A n m,.bool true,.int .i64 0,.int .i64 t,.slice none 0 0] 69)):=fun w=>by kernel_rfl
theorem Uro (s:Nat)(A:Option Addr)(n m:Nat):∀w,(Instr.buildSlice 70 1 #[(0,.agg #[.bool false,.int .i64 (s:Int),.int .i64 0,.slice A n m])]).run prog w = .ok (.slice (some ⟨w.heap.size,0,none⟩) 1 1) (w.alloc (.cells #[.bool false,.int .i64 (s:Int),.int .i64 0,.slice A n m] 69)):=fun w=>by kernel_rfl
theorem Urp (t:Int):∀w,(Instr.buildSlice 70 1 #[(0,.agg #[.bool true,.int .i64 0,.int .i64 t,.slice none 0 0])]).run prog w = .ok (.slice (some ⟨w.heap.size,0,none⟩) 1 1) (w.alloc (.cells #[.bool true,.int .i64 0,.int .i64 t,.slice none 0 0] 69)):=fun w=>by kernel_rfl
structure SpR (w:World) (gx gy:Nat) (c:Uag) (v:Value) (l:List Smp) (x y:Brd) (W:World):Prop where
 hc:Box W w.heap.size 27 c.list.toArray
 hx:∃rs vs,Box W gx 63 (bcs x rs vs)∧BrX (fun j=>j=gx∨j=gy) W rs vs x
 hy:∃rs vs,Box W gy 63 (bcs y rs vs)∧BrX (fun j=>j=gx∨j=gy) W rs vs y
 hl:SmX (fun j=>j=gx∨j=gy) W v l
 below:Below w.heap.size w W
 g1:w.heap.size<gx
 g2:gx<gy
section
variable {w W W':World} {gx gy:Nat} {c:Uag} {v:Value} {l:List Smp} {x y:Brd}
theorem SpR.kept (H:SpR w gx gy c v l x y W)(hb:Below W.heap.size W W'):SpR w gx gy c v l x y W' :=
 ⟨H.hc.kept hb,by obtain⟨rs,vs,h1,h2⟩:=H.hx;exact⟨rs,vs,h1.kept hb,h2.below hb⟩,by obtain⟨rs,vs,h1,h2⟩:=H.hy;exact⟨rs,vs,h1.kept hb,h2.below hb⟩,H.hl.below hb,Ua H.below hb H.below.size,H.g1,H.g2⟩
theorem SpR.lt (H:SpR w gx gy c v l x y W):∀j,(j=gx∨j=gy)→j<W.heap.size:=fun j hj=>by
 obtain⟨_,_,hx,_⟩:=H.hx;obtain⟨_,_,hy,_⟩:=H.hy;rcases hj with rfl|rfl
 ·exact hx.lt
 ·exact hy.lt
theorem Urq {w W W':World}{g:Nat}(h:Below w.heap.size w W)(hc:Chg (fun j=>j=g) W W')(hg:w.heap.size<g):Below w.heap.size w W' :=
 ⟨hc.os.trans h.os,hc.tape.trans h.tape,hc.output.trans h.output,Xd h.size hc.size,fun k hk=>(hc.block k (Xe hk h.size) (by omega)).trans (h.block k hk)⟩
theorem SpR.setX (H:SpR w gx gy c v l x y W){x':Brd}{rs vs:List Value}(hB:Box W' gx 63 (bcs x' rs vs))(hx:BrX (fun j=>j=gx∨j=gy) W' rs vs x')(hc:Chg (fun j=>j=gx) W W'):SpR w gx gy c v l x' y W' :=
 ⟨H.hc.chg hc (by have:=H.g1;omega),⟨rs,vs,hB,hx⟩,by obtain⟨r,q,h1,h2⟩:=H.hy;exact⟨r,q,h1.chg hc (by have:=H.g2;omega),h2.chg (hc.mono (fun _ _ e=>Or.inl e))⟩,H.hl.chg (hc.mono (fun _ _ e=>Or.inl e)),Urq H.below hc H.g1,H.g1,H.g2⟩
theorem SpR.setY (H:SpR w gx gy c v l x y W){y':Brd}{rs vs:List Value}(hB:Box W' gy 63 (bcs y' rs vs))(hy:BrX (fun j=>j=gx∨j=gy) W' rs vs y')(hc:Chg (fun j=>j=gy) W W'):SpR w gx gy c v l x y' W' :=
 ⟨H.hc.chg hc (by have:=H.g1;have:=H.g2;omega),by obtain⟨r,q,h1,h2⟩:=H.hx;exact⟨r,q,h1.chg hc (by have:=H.g2;omega),h2.chg (hc.mono (fun _ _ e=>Or.inr e))⟩,⟨rs,vs,hB,hy⟩,H.hl.chg (hc.mono (fun _ _ e=>Or.inr e)),Urq H.below hc (by have:=H.g1;have:=H.g2;omega),H.g1,H.g2⟩
end
theorem Uu6 {m:Mrg}{vs:List Value}(hv:vs.length=4)(hn:m.n.length=7):(Ul m vs)[18]? = some (.int .i64 m.taken):=by
 unfold Ul;rw[List.getElem?_append_right (by simp[hv,hn])];simp[hv,hn]
theorem okX {c:Uag}{s:Nat}{L:List Smp}{v:Smp}(hs:s<4)(hg:Uea s (-1) (L++[v]))(hn:L.length≤7)(v9:Value):okB c (xB c s L) [doP s v9 v,doF v.t]∧Uo5 c (xB c s L) [doP s v9 v,doF v.t]=xB c s (L++[v]):=by
 obtain⟨g1,g2,g3,g4⟩:=(Udw L (-1) v).1 hg;obtain⟨h1,h2⟩:=Urd c hs _ L rfl g1 (by omega);have h3:Uba (Ujk (xB c s L) s (Yk v)):=Ufb h1.sane hs (Uh5 g2) (by rw[h2];decide);exact⟨⟨h1.sane,⟨(fun h=>by cases h),fun _=>⟨hs,Uh5 g2,by rw[show(doP s v9 v).s=s from rfl,h2];decide⟩⟩,h3,⟨fun _=>g2.2.1.2,(fun h=>by cases h)⟩,Uct h3 c g2.2.1.2⟩,by rw[U1c];rfl⟩
theorem okY {c:Uag}{s:Nat}{L:List Smp}{v:Smp}(hs:s<4)(hg:Uea s (-1) (L++[v]))(hn:L.length≤7)(v9:Value):okB c (yB s L) [doP s v9 v]∧Uo5 c (yB s L) [doP s v9 v]=yB s (L++[v]):=by
 obtain⟨g1,g2,g3,g4⟩:=(Udw L (-1) v).1 hg;obtain⟨h1,h2⟩:=Ujo c hs _ L rfl g1 (by omega);have h8:((yB s L).ring.getD s []).length<8:=by rw[h2,List.length_map];omega
 exact⟨⟨h1.sane,⟨(fun h=>by cases h),fun _=>⟨hs,Uh5 g2,h8⟩⟩,Ufb h1.sane hs (Uh5 g2) h8⟩,by rw[U1d];rfl⟩
theorem okF {c:Uag}{s:Nat}{L:List Smp}(hs:s<4)(hg:Uea s (-1) L)(hn:L.length≤8):okB c (yB s L) [doF (max (Uch (-1) L) 0)]∧Uo5 c (yB s L) [doF (max (Uch (-1) L) 0)]=Uhw (yB s L) c (max (Uch (-1) L) 0)∧Uba (Uhw (yB s L) c (max (Uch (-1) L) 0))∧Uba (xB c s L):=by
 obtain⟨h1,h2⟩:=Ujo c hs _ L rfl hg hn;have l3:=Uuy hg (by omega);have hm:max (Uch (-1) L) 0≤1099511627776:=by omega
 exact⟨⟨h1.sane,⟨fun _=>hm,(fun h=>by cases h)⟩,Uct h1.sane c hm⟩,rfl,Uct h1.sane c hm,(Urd c hs _ L rfl hg hn).1.sane⟩
theorem Upk {c:Uag}{v:Value}{l:List Smp}{k:Int}{w:World}(hl:SmX (fun _=>False) w v l) :
  Calls prog 4 #[Ucf c,v,.int .i64 k] w (Ub (.bool true) w):=by
 obtain⟨A,cc,rfl,hc1,hc2,-⟩:=hl.1.form;have KAW:Hid (∀W,Calls prog 5 #[] W (Ub (.bool true) W)):=Qd (fun W=>Unx W);have KNEW:Hid (∀W,Calls prog 11 #[] W (Ub (bv Ujj Yr Yr) W)):=Qd (fun W=>Uq5 W);have KSS:Hid (∀(x:Smp) W,Calls prog 12 #[.agg x.cells] W (Ub (.bool (decide (Ubg x))) W)):=Qd (fun x W=>Uds x W);have KW:Hid (∀(x:Smp) W,Calls prog 14 #[.agg x.cells] W (Ubj (Yk x) W)):=Qd (fun x W=>Ulj x W);have KBR:Hid (∀(X:Nat→Prop) W v (b:Brd) rs vs dl,BrX X W rs vs b→(∀j,X j→j<W.heap.size)→okB c b dl→dl.length≤1000→Ulz X W v dl→Calls prog 13 #[.agg (bcs b rs vs),.agg c.list.toArray,v] W (Umo X (Uo5 c b dl) id W)):=Qd (fun X W v b rs vs dl h1 h2 h3 h4 h5=>Uq7 c dl h4 h1 h2 h3 h5);have S63:Hid ((prog.info? 63).map (·.size)=some (bcs Ujj Yr Yr).size∧(bcs Ujj Yr Yr).all (·.oneCell')=true∧(bcs Ujj Yr Yr).size=57):=Qd ⟨Ud5,Ubp (Uq4 (fun _=>False) w),rfl⟩;obtain⟨s,hs4,hand⟩:=U1v k;obtain⟨nn,hnn⟩:∃nn:Nat,nn=min l.length 8:=⟨_,rfl⟩;have hmin:min (l.length:Int) 8=(nn:Int):=by omega
 have hn8:nn≤8:=by omega
 have HNL:Hid (nn≤l.length):=Qd (by omega);have HL0:=Qd hl;have HC0:Hid (Box (w.alloc (.cells c.list.toArray 27)) w.heap.size 27 c.list.toArray∧Below w.heap.size w (w.alloc (.cells c.list.toArray 27))):=Qd ⟨Box.new _ _ _,(Xb _ w).alloc (Xa _) _⟩;have HS4:=Qd hs4;clear hl hnn hs4;dsimp only[Ucf,Uag.cells,bv] at *;obtain⟨ll,hll⟩:∃n,l.length=n:=⟨_,rfl⟩;rw[hll] at hmin hc1 HL0 HNL ⊢;have HLL:=Qd hll;clear hll;obtain⟨cb0,hcb⟩:∃cb,bcs Ujj Yr Yr=cb:=⟨_,rfl⟩;rw[hcb] at KNEW S63;have HCB:=Qd hcb;clear hcb;obtain⟨cl,hcl⟩:∃cl,c.list=cl:=⟨_,rfl⟩;rw[hcl] at KBR HC0 ⊢;have HCL:=Qd hcl;clear hcl;go_enter func4,ntmps4;go_upto_region 1 with fail
 refine Uq fun W0 hW0=>?_
 rw[←hW0] at HC0;clear hW0;go_wp2_with fail;refine(KAW.out _).mono ?_;rintro e w1 ⟨rfl,hb⟩;have HC1:Hid (Box w1 w.heap.size 27 cl.toArray∧Below w.heap.size w w1):=Qd ⟨HC0.out.1.kept hb,Ua HC0.out.2 hb HC0.out.2.size⟩;clear hb HC0 KAW;go_wp2_with fail;refine(KNEW.out _).mono ?_;rintro e w2 ⟨rfl,hb⟩;have HC2:Hid (Box w2 w.heap.size 27 cl.toArray∧Below w.heap.size w w2):=Qd ⟨HC1.out.1.kept hb,Ua HC1.out.2 hb HC1.out.2.size⟩;clear hb HC1;go_wp2_with (with_reducible first|refine Qh 63 ?_);refine Uf.go w2.heap.size rfl rfl (Box.new _ _ _) S63.out.1 (by rw[S63.out.2.2];rfl) S63.out.2.1 ?_;go_upto_region 5 with fail
 refine Uq fun W3 hW3=>?_
 have HC3:Hid (Box W3 w.heap.size 27 cl.toArray∧Below w.heap.size w W3∧Box W3 w2.heap.size 63 cb0∧w.heap.size<w2.heap.size):=Qd (by
  have hb:Below w2.heap.size w2 W3:=by rw[hW3];exact Uc ((Xb _ w2).alloc (Xa _) _) (Xa _) _
  exact⟨HC2.out.1.kept hb,Ua HC2.out.2 hb HC2.out.2.size,by rw[hW3];exact(Box.new _ _ _).row _,HC2.out.1.lt⟩)
 clear hW3 HC2;generalize w2.heap.size=gx at *;go_wp2_with fail;refine(KNEW.out _).mono ?_;rintro e w4 ⟨rfl,hb⟩;have HC4:Hid (Box w4 w.heap.size 27 cl.toArray∧Below w.heap.size w w4∧Box w4 gx 63 cb0∧w.heap.size<gx):=Qd ⟨HC3.out.1.kept hb,Ua HC3.out.2.1 hb HC3.out.2.1.size,HC3.out.2.2.1.kept hb,HC3.out.2.2.2⟩;clear hb HC3 KNEW;go_wp2_with (with_reducible first|refine Qh 63 ?_);refine Uf.go w4.heap.size rfl rfl (Box.new _ _ _) S63.out.1 (by rw[S63.out.2.2];rfl) S63.out.2.1 ?_;go_upto_region 6 with fail
 refine Uq fun W5 hW5=>?_
 have R0:Hid (SpR w gx w4.heap.size c (.slice A ll cc) l (xB c s (lsS s l 0)) (yB s (lsS s l 0)) W5):=Qd (by
  have hb:Below w4.heap.size w4 W5:=by rw[hW5];exact Uc ((Xb _ w4).alloc (Xa _) _) (Xa _) _
  have hB:Box W5 w4.heap.size 63 cb0:=by rw[hW5];exact(Box.new _ _ _).row _
  have e1:xB c s (lsS s l 0)=Ujj:=by unfold lsS;rw[List.take_zero];rfl
  have e2:yB s (lsS s l 0)=Ujj:=by unfold lsS;rw[List.take_zero];rfl
  rw[e1,e2];refine⟨by rw[HCL.out];exact HC4.out.1.kept hb,⟨Yr,Yr,by rw[HCB.out];exact HC4.out.2.2.1.kept hb,Uq4 _ _⟩,⟨Yr,Yr,by rw[HCB.out];exact hB,Uq4 _ _⟩,?_,Ua HC4.out.2.1 hb HC4.out.2.1.size,HC4.out.2.2.2,HC4.out.2.2.1.lt⟩;have h1:=(HL0.out.low.below HC4.out.2.1).below hb
  exact h1.mono (fun j hj=>by rcases hj with rfl|rfl;(· exact Or.inr (Nat.le_of_lt HC4.out.2.2.2));exact Or.inr (Nat.le_of_lt HC4.out.1.lt)))
 clear hW5 HC4 HL0 S63 HCB;generalize w4.heap.size=gy at *;go_wp2_with fail;go_loopw [13,12] (fun i t wr=>∃(j:Nat) (T:Int),j≤nn∧i = .int .i64 (j:Int)∧t = .int .i64 T∧Hid (SpR w gx gy c (.slice A ll cc) l (xB c s (lsS s l j)) (yB s (lsS s l j)) wr∧Uea s (-1) (lsS s l j)∧T=Uch (-1) (lsS s l j))) (fun i _ _=>nn-(intOf i).toNat)
 case atStart=>exact⟨0,-1,Nat.zero_le _,rfl,rfl,Qd ⟨R0.out,by unfold lsS;rw[List.take_zero];trivial,by unfold lsS;rw[List.take_zero];rfl⟩⟩
 case round =>
  obtain⟨j,T,hj,rfl,rfl,HR⟩:=hrel;clear R0;by_cases hlt:j<nn
  ·obtain⟨v0,hv0⟩:∃v0,l[j]? = some v0:=⟨l[j]'(by rw[HLL.out];have:=HNL.out;omega),Xj _⟩;obtain⟨b,off,rfl,hbl,-,hrow⟩:=HR.out.1.hl.at_ hv0;have HNX:=Qd (U34 s hv0);have HW0:=Qd hrow;have S5:Hid ((prog.info? 40).map (·.size)=some (sml v0).length∧(prog.info? 40).map (·.size)=some (sml v0).toArray.size∧(sml v0).toArray.all (·.oneCell')=true):=Qd ⟨Ye,Ye,by simp[sml,Smp.cells,Value.oneCell']⟩;have hji:(j:Int)<(nn:Int):=by omega
   have hj0:(0:Int)≤(j:Int):=by omega
   have hjl:(j:Int)<(ll:Int):=by have:=HNL.out;omega
   have HLJ:Hid ((lsS s l j).length=j):=Qd (U1w s (by rw[HLL.out];omega));clear hrow hv0;go_wp2_with (with_reducible first|refine Qi 40 ?_|refine Qh 40 ?_|refine Qg 40 ?_);refine Ubl.go rfl b (off+j*5) rfl HW0.out underlying40 rfl S5.out.1 ?_;go_wp2_with (with_reducible first|refine Qi 40 ?_|refine Qh 40 ?_|refine Qg 40 ?_);refine Uf.go wr.heap.size rfl rfl (Box.new _ _ _) S5.out.2.1 rfl S5.out.2.2 ?_;go_upto_region 11 with fail
   refine Uq fun W10 hW10=>?_
   have B10:Hid (Box W10 wr.heap.size 40 (sml v0).toArray∧Below wr.heap.size wr W10):=Qd ⟨by rw[hW10];exact(Box.new _ _ _).row _,by rw[hW10];exact Uc ((Xb _ wr).alloc (Xa _) _) (Xa _) _⟩;clear hW10 HW0 S5;have x1:W10.cell? ⟨wr.heap.size,1,none⟩=some (.int .i64 v0.s):=B10.out.1.cell 1;have f1:=B10.out.1.frozen 1;go_upto_region 12 with fail
   refine Uq fun W11 hW11=>?_
   have B11:Hid (Box W11 wr.heap.size 40 (U8i s v0).cells∧Below wr.heap.size wr W11):=Qd ⟨by rw[hW11];exact B10.out.1.set_ 1 _,by rw[hW11];exact B10.out.2.grown (Uh _ _ _ _) B10.out.2.size (fun k hk=>by injection hk with hk;omega)⟩;have R1:=Qd (HR.out.1.kept B11.out.2);have HG:=Qd HR.out.2;have HNE:Hid (∀q,(q=gx∨q=gy)→q<wr.heap.size):=Qd HR.out.1.lt;clear hW11 B10 HR x1 f1;generalize wr.heap.size=g14 at *;have HVS:Hid ((U8i s v0).s=(s:Int)):=Qd rfl;generalize U8i s v0=v at *;have S40:Hid ((prog.info? 40).map (·.size)=some v.cells.size∧(prog.info? 40).map (·.size)=some (sml v).length):=Qd ⟨Ye,Ye⟩;go_wp2_with (with_reducible first|refine Qi 40 ?_|refine Qh 40 ?_|refine Qg 40 ?_);refine Ubl.go rfl g14 0 rfl (show W11.rangeAt g14 0 (sml v) from B11.out.1.range) underlying40 rfl S40.out.2 ?_;go_wp2_with fail;refine(KSS.out v _).mono ?_;rintro e w12 ⟨rfl,hb⟩;have B12:=Qd (B11.out.1.kept hb);have R2:=Qd (R1.out.kept hb);clear hb B11 R1;by_cases hsv:Ubg v
   ·have hds:decide (Ubg v)=true:=Xi hsv;have xt:w12.cell? ⟨g14,0,none⟩=some (.int .i64 v.t):=B12.out.cell 0;have HSV:=Qd hsv;clear hsv;by_cases ht:v.t≤T
    ·go_wp2_with fail;go_ret;exact⟨rfl,R2.out.below⟩
    ·have HTT:Hid (T<v.t):=Qd (by omega);go_upto_region 15 with fail
     have HG2:Hid (Uea s (-1) (lsS s l j++[v])):=Qd ((Udw _ _ _).2 ⟨HG.out.1,HSV.out,HVS.out,by rw[←HG.out.2];exact HTT.out⟩);have HLT:Hid (Uch (-1) (lsS s l (j+1))=v.t):=Qd (by rw[HNX.out,Uiw]);have HOX:Hid (∀v9,okB c (xB c s (lsS s l j)) [doP s v9 v,doF v.t]∧Uo5 c (xB c s (lsS s l j)) [doP s v9 v,doF v.t]=xB c s (lsS s l (j+1))):=Qd (fun v9=>by rw[HNX.out];exact okX HS4.out HG2.out (by rw[HLJ.out];omega) v9);have HOY:Hid (∀v9,okB c (yB s (lsS s l j)) [doP s v9 v]∧Uo5 c (yB s (lsS s l j)) [doP s v9 v]=yB s (lsS s l (j+1))):=Qd (fun v9=>by rw[HNX.out];exact okY HS4.out HG2.out (by rw[HLJ.out];omega) v9);have HG3:Hid (Uea s (-1) (lsS s l (j+1))):=Qd (by rw[HNX.out];exact HG2.out);have HSX:Hid (Uba (xB c s (lsS s l j))∧Uba (yB s (lsS s l j))∧Uba (xB c s (lsS s l (j+1)))∧Uba (yB s (lsS s l (j+1)))):=Qd ⟨(Urd c HS4.out _ _ rfl HG.out.1 (by rw[HLJ.out];omega)).1.sane,(Ujo c HS4.out _ _ rfl HG.out.1 (by rw[HLJ.out];omega)).1.sane,(Urd c HS4.out _ _ rfl HG3.out (by rw[HNX.out,List.length_append,HLJ.out,List.length_singleton];omega)).1.sane,(Ujo c HS4.out _ _ rfl HG3.out (by rw[HNX.out,List.length_append,HLJ.out,List.length_singleton];omega)).1.sane⟩;clear HG HG2 HNX HLJ HSV HVS HTT ht xt hds;generalize xB c s (lsS s l j)=X0 at *;generalize hX1:xB c s (lsS s l (j+1))=X1 at HOX HSX;have HEX:=Qd hX1;clear hX1;generalize yB s (lsS s l j)=Y0 at *;generalize hY1:yB s (lsS s l (j+1))=Y1 at HOY HSX;have HEY:=Qd hY1;clear hY1;have S27:Hid ((prog.info? 27).map (·.size)=some cl.length):=Qd (by rw[←HCL.out];exact Ua4);obtain⟨rs1,vs1,hbx1,hbr1⟩:=R2.out.hx;have HB1:=Qd hbx1;have HR1:=Qd hbr1;have S63_1:Hid ((prog.info? 63).map (·.size)=some (Zt X0 rs1 vs1).length):=Qd (Uav hbr1 HSX.out.1);have KX1:Hid (∀W vr dl,BrX (fun q=>q=gx∨q=gy) W rs1 vs1 X0→(∀q,(q=gx∨q=gy)→q<W.heap.size)→okB c X0 dl→dl.length≤1000→Ulz (fun q=>q=gx∨q=gy) W vr dl→Calls prog 13 #[.agg (Zt X0 rs1 vs1).toArray,.agg cl.toArray,vr] W (Umo (fun q=>q=gx∨q=gy) (Uo5 c X0 dl) id W)):=Qd (fun W vr dl h1 h2 h3 h4 h5=>KBR.out _ W vr X0 rs1 vs1 dl h1 h2 h3 h4 h5);clear hbx1 hbr1;have HCB1:=Qd R2.out.hc;rw[HCL.out] at HCB1;generalize hbl1:Zt X0 rs1 vs1=bl1 at KX1 S63_1;have HBL1:=Qd hbl1;clear hbl1;have HB1b:Hid (Box w12 gx 63 bl1.toArray):=Qd (by rw[←HBL1.out];exact HB1.out);clear HB1 HBL1;refine Uk (S:=fun w'=>Box w' gx 63 bl1.toArray∧Box w' w.heap.size 27 cl.toArray∧Box w' g14 40 v.cells) 10 10 (by kernel_rfl) rfl (by kernel_rfl) (by decide) ⟨HB1b.out.drew,HCB1.out.drew,B12.out.drew⟩ (fun hHeld=>?_);refine Ux (i:=0) (v := .agg (bl1).toArray) rfl rfl (by kernel_rfl) (by kernel_rfl) (by kernel_rfl) (fun _ _ _ h=>h)
      (Xn (by rfl) 63 _ rfl (gx) (0) rfl (bl1) _ (fun _ h=>h.1.rangeA) underlying63 rfl S63_1.out) hHeld ?_
     simp only[Qz];refine Ux (i:=1) (v := .agg (cl).toArray) rfl rfl (by kernel_rfl) (by kernel_rfl) (by kernel_rfl) (fun _ _ _ h=>h)
      (Xn (by rfl) 27 _ rfl (w.heap.size) (0) rfl (cl) _ (fun _ h=>h.2.1.rangeA) underlying27 rfl S27.out) hHeld ?_
     simp only[Qz];refine Qn 2 (.int .i64 (s:Int)) ?_;refine Ux (i:=3) (v := .agg (sml v).toArray) rfl rfl (by kernel_rfl) (by kernel_rfl) (by kernel_rfl) (fun _ _ _ h=>h)
      (Xn (by rfl) 40 _ rfl (g14) (0) rfl (sml v) _ (fun _ h=>(show _ from h.2.2.range)) underlying40 rfl S40.out.2) hHeld ?_
     simp only[Qz];refine Qn 6 (.int .i64 v.t) ?_;refine Qe 7 (.agg #[.bool true,.int .i64 0,.int .i64 v.t,.slice none 0 0]) (fun w hW=>?_) ?_
     ·kernel_rfl
     simp only[Qz];refine Ut fun WA1 hWA=>?_
     have DA1:Hid (SpR w gx gy c (.slice (some ⟨b,off,none⟩) ll cc) l X0 Y0 WA1∧Box WA1 gx 63 bl1.toArray∧BrX (fun q=>q=gx∨q=gy) WA1 rs1 vs1 X0∧Box WA1 g14 40 v.cells):=Qd (by rw[hWA];exact⟨R2.out.kept (Ue (Xb _ _) 1),HB1b.out.drew,HR1.out.chg ((Chg.refl _ _).drew),B12.out.drew⟩);have HH:∀(W:World),SpR w gx gy c (.slice (some ⟨b,off,none⟩) ll cc) l X0 Y0 W→Box W w.heap.size 27 cl.toArray:=fun W h=>by rw[←HCL.out];exact h.hc
     replace hHeld:=Xc DA1.out.2.1 (Xc (HH _ DA1.out.1) DA1.out.2.2.2);have HHH:=Qd HH;clear hWA HH HB1b HR1 HCB1 R2 B12;refine Qc 4 fun KQ hKQ=>?_
     go_simp;refine(KW.out v _).mono ?_;rintro e wq1 ⟨v9,rfl,ho,hb⟩;have DQ1:Hid (SpR w gx gy c (.slice (some ⟨b,off,none⟩) ll cc) l X0 Y0 wq1∧Box wq1 gx 63 bl1.toArray∧BrX (fun q=>q=gx∨q=gy) wq1 rs1 vs1 X0∧Box wq1 g14 40 v.cells):=Qd ⟨DA1.out.1.kept hb,DA1.out.2.1.kept hb,DA1.out.2.2.1.below hb,DA1.out.2.2.2.kept hb⟩;obtain⟨a9,n9,c9,rfl⟩:∃a n c,v9 = .slice a n c:=by obtain⟨a,m,e,_⟩:=ho.words.1.form;exact⟨a,_,m,e⟩
     have HO1:Hid (WdX (fun q=>q=gx∨q=gy) wq1 (.slice a9 n9 c9) (Yk v)):=Qd (WdX.own ho (fun q hq=>DA1.out.1.lt q hq));clear ho hb DA1;refine hKQ.out _ _ ⟨DQ1.out.2.1,HHH.out _ DQ1.out.1,DQ1.out.2.2.2⟩ (fun hHeld=>?_);clear hKQ KQ;refine Qe 5 (.agg #[.bool false,.int .i64 (s:Int),.int .i64 0,.slice a9 n9 c9]) (fun w hW=>?_) ?_
     ·kernel_rfl
     simp only[Qz];refine Qc 8 fun KQ hKQ=>?_
     have hbd:=Urn s a9 n9 c9 v.t;go_simp;clear hbd;have hbq:Below wq1.heap.size wq1 (wq1.alloc (.cells #[.bool false,.int .i64 (s:Int),.int .i64 0,.slice a9 n9 c9,.bool true,.int .i64 0,.int .i64 v.t,.slice none 0 0] 69)):=(Xb _ _).alloc (Xa _) _;refine hKQ.out _ _ ⟨DQ1.out.2.1.kept hbq,HHH.out _ (DQ1.out.1.kept hbq),DQ1.out.2.2.2.kept hbq⟩ (fun hHeld0=>?_);clear hKQ KQ hHeld0 hbq;refine Ut fun wr1 hwr=>?_
     have hb:Below wq1.heap.size wq1 wr1:=by rw[hwr];exact(Xb _ _).alloc (Xa _) _
     have RB1:Hid (Box wr1 wq1.heap.size 69 #[.bool false,.int .i64 (s:Int),.int .i64 0,.slice a9 n9 c9,.bool true,.int .i64 0,.int .i64 v.t,.slice none 0 0]):=Qd (by rw[hwr];exact Box.new _ _ _);have DR1:Hid (SpR w gx gy c (.slice (some ⟨b,off,none⟩) ll cc) l X0 Y0 wr1∧Box wr1 gx 63 bl1.toArray∧BrX (fun q=>q=gx∨q=gy) wr1 rs1 vs1 X0∧Box wr1 g14 40 v.cells):=Qd ⟨DQ1.out.1.kept hb,DQ1.out.2.1.kept hb,DQ1.out.2.2.1.below hb,DQ1.out.2.2.2.kept hb⟩
     have HD1:Hid (Ulz (fun q=>q=gx∨q=gy) wr1 (.slice (some ⟨wq1.heap.size,0,none⟩) 2 2) [doP s (.slice a9 n9 c9) v,doF v.t]):=Qd (Utv RB1.out (by simp) (fun hq=>by have:=DQ1.out.1.lt _ hq;omega) (fun d hd=>by
      simp only[List.mem_cons,List.not_mem_nil,or_false] at hd;rcases hd with rfl|rfl
      ·exact HO1.out.chg (Chg.of hb)
      ·exact⟨Yx.nil _,Ud0.nil _ _ _⟩))
     have hHeld:=Xc DR1.out.2.1 (Xc (HHH.out _ DR1.out.1) DR1.out.2.2.2);clear hwr hb DQ1 HO1 RB1;generalize wq1.heap.size=gr1 at *;refine Qc 9 fun KQ hKQ=>?_
     go_simp;refine(KX1.out _ _ _ DR1.out.2.2.1 DR1.out.1.lt (HOX.out _).1 (by simp) HD1.out).mono ?_;rw[(HOX.out _).2];rintro e ws1 ⟨rt1,vt1,rfl,hx,hb⟩;dsimp only[id,bv];have DS1:Hid (SpR w gx gy c (.slice (some ⟨b,off,none⟩) ll cc) l X0 Y0 ws1∧Box ws1 gx 63 bl1.toArray∧BrX (fun q=>q=gx∨q=gy) ws1 rs1 vs1 X0∧Box ws1 g14 40 v.cells):=Qd ⟨DR1.out.1.kept hb,DR1.out.2.1.kept hb,DR1.out.2.2.1.below hb,DR1.out.2.2.2.kept hb⟩;have HX1:=Qd hx;clear hx hb DR1 HD1 KX1;refine hKQ.out _ _ ⟨DS1.out.2.1,HHH.out _ DS1.out.1,DS1.out.2.2.2⟩ (fun hHeld=>?_);clear hKQ KQ hHeld;refine Xl (by kernel_rfl) ?_ _;refine U4 rfl (by rfl) ?_;have hsz1:bl1.toArray.size=(bcs X1 rt1 vt1).size:=by rw[Ub1 HX1.out HSX.out.2.2.1];have:=S63_1.out;rw[Ud5] at this;injection this with this;simpa using this.symm
     refine wp_store_mid 63 _ _ rfl gx 0 (bcs X1 rt1 vt1) rfl rfl (DS1.out.2.1.thereAll hsz1) (Uav HX1.out HSX.out.2.2.1) (Ubp HX1.out) ?_;refine Yn fun WE1 hWE=>?_
     have hc:Chg (fun q=>q=gx) ws1 WE1:=by rw[hWE];exact Chg.setCells (X:=fun q=>q=gx) rfl _ _
     have hB:Box WE1 gx 63 (bcs X1 rt1 vt1):=by rw[hWE];exact DS1.out.2.1.setCells_all (by rw[Array.length_toList];exact hsz1.symm)
     have D15:Hid (SpR w gx gy c (.slice (some ⟨b,off,none⟩) ll cc) l X1 Y0 WE1):=Qd (DS1.out.1.setX hB (HX1.out.chg (hc.mono (fun _ _ e=>Or.inl e))) hc);have B15:Hid (Box WE1 g14 40 v.cells):=Qd (DS1.out.2.2.2.chg hc (fun e=>by have:=HNE.out g14 (Or.inl e);omega));clear hWE hc hB hsz1 DS1 HX1 HHH S63_1;have B15:=B15;go_wp2_with fail;go_upto_region 16 with fail
     obtain⟨rs2,vs2,hbx2,hbr2⟩:=D15.out.hy;have HB2:=Qd hbx2;have HR2:=Qd hbr2;have S63_2:Hid ((prog.info? 63).map (·.size)=some (Zt Y0 rs2 vs2).length):=Qd (Uav hbr2 HSX.out.2.1);have KX2:Hid (∀W vr dl,BrX (fun q=>q=gx∨q=gy) W rs2 vs2 Y0→(∀q,(q=gx∨q=gy)→q<W.heap.size)→okB c Y0 dl→dl.length≤1000→Ulz (fun q=>q=gx∨q=gy) W vr dl→Calls prog 13 #[.agg (Zt Y0 rs2 vs2).toArray,.agg cl.toArray,vr] W (Umo (fun q=>q=gx∨q=gy) (Uo5 c Y0 dl) id W)):=Qd (fun W vr dl h1 h2 h3 h4 h5=>KBR.out _ W vr Y0 rs2 vs2 dl h1 h2 h3 h4 h5);clear hbx2 hbr2;have HCB2:=Qd D15.out.hc;rw[HCL.out] at HCB2;generalize hbl2:Zt Y0 rs2 vs2=bl2 at KX2 S63_2;have HBL2:=Qd hbl2;clear hbl2;have HB2b:Hid (Box WE1 gy 63 bl2.toArray):=Qd (by rw[←HBL2.out];exact HB2.out);clear HB2 HBL2;refine Uk (S:=fun w'=>Box w' gy 63 bl2.toArray∧Box w' w.heap.size 27 cl.toArray∧Box w' g14 40 v.cells) 8 8 (by kernel_rfl) rfl (by kernel_rfl) (by decide) ⟨HB2b.out.drew,HCB2.out.drew,B15.out.drew⟩ (fun hHeld=>?_);refine Ux (i:=0) (v := .agg (bl2).toArray) rfl rfl (by kernel_rfl) (by kernel_rfl) (by kernel_rfl) (fun _ _ _ h=>h)
      (Xn (by rfl) 63 _ rfl (gy) (0) rfl (bl2) _ (fun _ h=>h.1.rangeA) underlying63 rfl S63_2.out) hHeld ?_
     simp only[Qz];refine Ux (i:=1) (v := .agg (cl).toArray) rfl rfl (by kernel_rfl) (by kernel_rfl) (by kernel_rfl) (fun _ _ _ h=>h)
      (Xn (by rfl) 27 _ rfl (w.heap.size) (0) rfl (cl) _ (fun _ h=>h.2.1.rangeA) underlying27 rfl S27.out) hHeld ?_
     simp only[Qz];refine Qn 2 (.int .i64 (s:Int)) ?_;refine Ux (i:=3) (v := .agg (sml v).toArray) rfl rfl (by kernel_rfl) (by kernel_rfl) (by kernel_rfl) (fun _ _ _ h=>h)
      (Xn (by rfl) 40 _ rfl (g14) (0) rfl (sml v) _ (fun _ h=>(show _ from h.2.2.range)) underlying40 rfl S40.out.2) hHeld ?_
     simp only[Qz];refine Ut fun WA2 hWA=>?_
     have DA2:Hid (SpR w gx gy c (.slice (some ⟨b,off,none⟩) ll cc) l X1 Y0 WA2∧Box WA2 gy 63 bl2.toArray∧BrX (fun q=>q=gx∨q=gy) WA2 rs2 vs2 Y0∧Box WA2 g14 40 v.cells):=Qd (by rw[hWA];exact⟨D15.out.kept (Ue (Xb _ _) 1),HB2b.out.drew,HR2.out.chg ((Chg.refl _ _).drew),B15.out.drew⟩);have HH:∀(W:World),SpR w gx gy c (.slice (some ⟨b,off,none⟩) ll cc) l X1 Y0 W→Box W w.heap.size 27 cl.toArray:=fun W h=>by rw[←HCL.out];exact h.hc
     replace hHeld:=Xc DA2.out.2.1 (Xc (HH _ DA2.out.1) DA2.out.2.2.2);have HHH:=Qd HH;clear hWA HH HB2b HR2 HCB2 D15 B15;refine Qc 4 fun KQ hKQ=>?_
     go_simp;refine(KW.out v _).mono ?_;rintro e wq2 ⟨v9,rfl,ho,hb⟩;have DQ2:Hid (SpR w gx gy c (.slice (some ⟨b,off,none⟩) ll cc) l X1 Y0 wq2∧Box wq2 gy 63 bl2.toArray∧BrX (fun q=>q=gx∨q=gy) wq2 rs2 vs2 Y0∧Box wq2 g14 40 v.cells):=Qd ⟨DA2.out.1.kept hb,DA2.out.2.1.kept hb,DA2.out.2.2.1.below hb,DA2.out.2.2.2.kept hb⟩;obtain⟨a9,n9,c9,rfl⟩:∃a n c,v9 = .slice a n c:=by obtain⟨a,m,e,_⟩:=ho.words.1.form;exact⟨a,_,m,e⟩
     have HO2:Hid (WdX (fun q=>q=gx∨q=gy) wq2 (.slice a9 n9 c9) (Yk v)):=Qd (WdX.own ho (fun q hq=>DA2.out.1.lt q hq));clear ho hb DA2;refine hKQ.out _ _ ⟨DQ2.out.2.1,HHH.out _ DQ2.out.1,DQ2.out.2.2.2⟩ (fun hHeld=>?_);clear hKQ KQ;refine Qe 5 (.agg #[.bool false,.int .i64 (s:Int),.int .i64 0,.slice a9 n9 c9]) (fun w hW=>?_) ?_
     ·kernel_rfl
     simp only[Qz];refine Qc 6 fun KQ hKQ=>?_
     have hbd:=Uro s a9 n9 c9;go_simp;clear hbd;have hbq:Below wq2.heap.size wq2 (wq2.alloc (.cells #[.bool false,.int .i64 (s:Int),.int .i64 0,.slice a9 n9 c9] 69)):=(Xb _ _).alloc (Xa _) _;refine hKQ.out _ _ ⟨DQ2.out.2.1.kept hbq,HHH.out _ (DQ2.out.1.kept hbq),DQ2.out.2.2.2.kept hbq⟩ (fun hHeld0=>?_);clear hKQ KQ hHeld0 hbq;refine Ut fun wr2 hwr=>?_
     have hb:Below wq2.heap.size wq2 wr2:=by rw[hwr];exact(Xb _ _).alloc (Xa _) _
     have RB2:Hid (Box wr2 wq2.heap.size 69 #[.bool false,.int .i64 (s:Int),.int .i64 0,.slice a9 n9 c9]):=Qd (by rw[hwr];exact Box.new _ _ _);have DR2:Hid (SpR w gx gy c (.slice (some ⟨b,off,none⟩) ll cc) l X1 Y0 wr2∧Box wr2 gy 63 bl2.toArray∧BrX (fun q=>q=gx∨q=gy) wr2 rs2 vs2 Y0∧Box wr2 g14 40 v.cells):=Qd ⟨DQ2.out.1.kept hb,DQ2.out.2.1.kept hb,DQ2.out.2.2.1.below hb,DQ2.out.2.2.2.kept hb⟩
     have HD2:Hid (Ulz (fun q=>q=gx∨q=gy) wr2 (.slice (some ⟨wq2.heap.size,0,none⟩) 1 1) [doP s (.slice a9 n9 c9) v]):=Qd (Utv RB2.out (by simp) (fun hq=>by have:=DQ2.out.1.lt _ hq;omega) (fun d hd=>by
      simp only[List.mem_cons,List.not_mem_nil,or_false] at hd;subst hd
      ·exact HO2.out.chg (Chg.of hb)))
     have hHeld:=Xc DR2.out.2.1 (Xc (HHH.out _ DR2.out.1) DR2.out.2.2.2);clear hwr hb DQ2 HO2 RB2;generalize wq2.heap.size=gr2 at *;refine Qc 7 fun KQ hKQ=>?_
     go_simp;refine(KX2.out _ _ _ DR2.out.2.2.1 DR2.out.1.lt (HOY.out _).1 (by simp) HD2.out).mono ?_;rw[(HOY.out _).2];rintro e ws2 ⟨rt2,vt2,rfl,hx,hb⟩;dsimp only[id,bv];have DS2:Hid (SpR w gx gy c (.slice (some ⟨b,off,none⟩) ll cc) l X1 Y0 ws2∧Box ws2 gy 63 bl2.toArray∧BrX (fun q=>q=gx∨q=gy) ws2 rs2 vs2 Y0∧Box ws2 g14 40 v.cells):=Qd ⟨DR2.out.1.kept hb,DR2.out.2.1.kept hb,DR2.out.2.2.1.below hb,DR2.out.2.2.2.kept hb⟩;have HX2:=Qd hx;clear hx hb DR2 HD2 KX2;refine hKQ.out _ _ ⟨DS2.out.2.1,HHH.out _ DS2.out.1,DS2.out.2.2.2⟩ (fun hHeld=>?_);clear hKQ KQ hHeld;refine Xl (by kernel_rfl) ?_ _;refine U4 rfl (by rfl) ?_;have hsz2:bl2.toArray.size=(bcs Y1 rt2 vt2).size:=by rw[Ub1 HX2.out HSX.out.2.2.2];have:=S63_2.out;rw[Ud5] at this;injection this with this;simpa using this.symm
     refine wp_store_mid 63 _ _ rfl gy 0 (bcs Y1 rt2 vt2) rfl rfl (DS2.out.2.1.thereAll hsz2) (Uav HX2.out HSX.out.2.2.2) (Ubp HX2.out) ?_;refine Yn fun WE2 hWE=>?_
     have hc:Chg (fun q=>q=gy) ws2 WE2:=by rw[hWE];exact Chg.setCells (X:=fun q=>q=gy) rfl _ _
     have hB:Box WE2 gy 63 (bcs Y1 rt2 vt2):=by rw[hWE];exact DS2.out.2.1.setCells_all (by rw[Array.length_toList];exact hsz2.symm)
     have D25:Hid (SpR w gx gy c (.slice (some ⟨b,off,none⟩) ll cc) l X1 Y1 WE2):=Qd (DS2.out.1.setY hB (HX2.out.chg (hc.mono (fun _ _ e=>Or.inr e))) hc);have B25:Hid (Box WE2 g14 40 v.cells):=Qd (DS2.out.2.2.2.chg hc (fun e=>by have:=HNE.out g14 (Or.inr e);omega));clear hWE hc hB hsz2 DS2 HX2 HHH S63_2;go_wp2_with fail;go_roundw
     case rel=>exact⟨j+1,v.t,by omega,by go_num,rfl,Qd ⟨by rw[HEX.out,HEY.out];exact D25.out,HG3.out,HLT.out.symm⟩⟩
     case measure=>simp[intOf];omega
   ·have hds:decide (Ubg v)=false:=Xh hsv;clear hsv;go_wp2_with fail;go_ret;exact⟨rfl,R2.out.below⟩
  ·obtain rfl:j=nn:=by omega
   have hge:¬(j:Int)<(j:Int):=by omega
   have HLJ:Hid ((lsS s l j).length=j):=Qd (U1w s (by rw[HLL.out];exact HNL.out));have HSP:=Qd (Uxh c HS4.out HR.out.2.1 (by rw[HLJ.out];exact hn8));have HOF:=Qd (okF (c:=c) HS4.out HR.out.2.1 (by rw[HLJ.out];exact hn8));have HTE:=Qd HR.out.2.2;have HR1:=Qd HR.out.1;have HBX:Hid ((Ujo c HS4.out _ _ rfl HR.out.2.1 (by rw[HLJ.out];exact hn8)).1.sane=(Ujo c HS4.out _ _ rfl HR.out.2.1 (by rw[HLJ.out];exact hn8)).1.sane):=Qd rfl;have HSY:Hid (Uba (yB s (lsS s l j))):=Qd (Ujo c HS4.out _ _ rfl HR.out.2.1 (by rw[HLJ.out];exact hn8)).1.sane;rw[←HTE.out,HLJ.out] at HSP;rw[←HTE.out] at HOF;clear HR HBX HTE HLJ;generalize xB c s (lsS s l j)=X0 at *;generalize yB s (lsS s l j)=Y0 at *;generalize hmx:max T 0=mx at HSP HOF;generalize Uhw Y0 c mx=Y1 at *;obtain⟨rsy,vsy,hby,hry⟩:=HR1.out.hy;obtain⟨rsx,vsx,hbx,hrx⟩:=HR1.out.hx;have DY:Hid (Box wr gy 63 (bcs Y0 rsy vsy)∧BrX (fun q=>q=gx∨q=gy) wr rsy vsy Y0∧Box wr w.heap.size 27 cl.toArray∧Box wr gx 63 (bcs X0 rsx vsx)∧BrX (fun q=>q=gx∨q=gy) wr rsx vsx X0∧Below w.heap.size w wr):=Qd ⟨hby,hry,by rw[←HCL.out];exact HR1.out.hc,hbx,hrx,HR1.out.below⟩;have SY:=Qd (Uav hry HSY.out);have S27:Hid ((prog.info? 27).map (·.size)=some cl.toArray.size):=Qd (by rw[←HCL.out];exact Ua4);have HGG:Hid (w.heap.size<gx∧gx<gy):=Qd ⟨HR1.out.g1,HR1.out.g2⟩;have KX:Hid (∀W vr,BrX (fun q=>q=gx∨q=gy) W rsy vsy Y0→(∀q,(q=gx∨q=gy)→q<W.heap.size)→Ulz (fun q=>q=gx∨q=gy) W vr [doF mx]→Calls prog 13 #[.agg (bcs Y0 rsy vsy),.agg cl.toArray,vr] W (Umo (fun q=>q=gx∨q=gy) Y1 id W)):=Qd (fun W vr h1 h2 h3=>by rw[←HOF.out.2.1];exact KBR.out _ W vr Y0 rsy vsy [doF mx] h1 h2 HOF.out.1 (by simp) h3);clear hby hry hbx hrx HR1 KBR;have hbd1:=U1o mx;have hbd2:=Urp mx;go_wp2_with (with_reducible first|refine Qg 63 ?_|refine Qg 27 ?_|refine Qk 69 ?_|refine Qh 63 ?_);refine Uo.go gy rfl DY.out.1 underlying63 rfl SY.out ?_;go_wp2_with (with_reducible first|refine Qg 63 ?_|refine Qg 27 ?_|refine Qk 69 ?_|refine Qh 63 ?_);refine Uo.go (w.heap.size) rfl DY.out.2.2.1 underlying27 rfl S27.out ?_;go_wp2_with (with_reducible first|refine Qg 63 ?_|refine Qg 27 ?_|refine Qk 69 ?_|refine Qh 63 ?_);refine Ubm.go _ (by simp only[List.map_toArray,List.map_cons,List.map_nil];exact hbd1 _) ?_;clear hbd1;go_wp2_with (with_reducible first|refine Qg 63 ?_|refine Qg 27 ?_|refine Qk 69 ?_|refine Qh 63 ?_);clear hbd2;refine Y7 fun W1 hW1=>?_
   have hb:Below wr.heap.size wr W1:=by rw[hW1];exact(Xb _ _).alloc (Xa _) _
   have hrb:Box W1 wr.heap.size 69 ([doF mx].flatMap Dox.list).toArray:=by rw[hW1];exact Box.new _ _ _
   have hlt:∀q,(q=gx∨q=gy)→q<wr.heap.size:=fun q hq=>by rcases hq with rfl|rfl;(· exact DY.out.2.2.2.1.lt);exact DY.out.1.lt
   have hdos:Ulz (fun q=>q=gx∨q=gy) W1 (.slice (some ⟨wr.heap.size,0,none⟩) 1 1) [doF mx]:=Utv hrb (by simp) (fun hq=>by have:=hlt _ hq;omega) (fun d hd=>by simp only[List.mem_singleton] at hd;subst hd;exact⟨Yx.nil _,Ud0.nil _ _ _⟩);have KX1:=Qd (KX.out W1 _ (DY.out.2.1.below hb) (fun q hq=>Xe (hlt q hq) hb.size) hdos);have D1:Hid (Box W1 gy 63 (bcs Y0 rsy vsy)∧Box W1 gx 63 (bcs X0 rsx vsx)∧BrX (fun q=>q=gx∨q=gy) W1 rsx vsx X0∧Below w.heap.size w W1):=Qd ⟨DY.out.1.kept hb,DY.out.2.2.2.1.kept hb,DY.out.2.2.2.2.1.below hb,Ua DY.out.2.2.2.2.2 hb DY.out.2.2.2.2.2.size⟩;clear hW1 hb hrb hlt hdos KX;refine KX1.out.mono ?_;rintro e w9 ⟨rt,vt,rfl,hx,hb⟩;dsimp only[id,bv];have D9:Hid (Box w9 gy 63 (bcs Y0 rsy vsy)∧Box w9 gx 63 (bcs X0 rsx vsx)∧BrX (fun q=>q=gx∨q=gy) w9 rsx vsx X0∧Below w.heap.size w w9∧BrX (fun q=>q=gx∨q=gy) w9 rt vt Y1):=Qd ⟨D1.out.1.kept hb,D1.out.2.1.kept hb,D1.out.2.2.1.below hb,Ua D1.out.2.2.2 hb D1.out.2.2.2.size,hx⟩;have SE:Hid ((prog.info? 63).map (·.size)=some (bcs Y1 rt vt).size∧(bcs Y0 rsy vsy).size=(bcs Y1 rt vt).size∧(bcs Y1 rt vt).all (·.oneCell')=true):=Qd ⟨Uav hx HOF.out.2.2.1,by rw[Ub1 hx HOF.out.2.2.1,Ub1 DY.out.2.1 HSY.out],Ubp hx⟩;clear hx hb KX1 D1 DY SY;go_wp2_with (with_reducible first|refine Qg 63 ?_|refine Qg 27 ?_|refine Qk 69 ?_|refine Qh 63 ?_);refine Uf.go gy rfl rfl D9.out.1 SE.out.1 SE.out.2.1 SE.out.2.2 ?_;go_upto_region 18 with fail
   refine Uq fun W8 hW8=>?_
   have D8:Hid (W8.rangeAt gx 27 X0.x.list∧W8.rangeAt gy 27 X0.x.list∧W8.cell? ⟨gx,26,none⟩=some (.int .i64 (j:Int))∧W8.cell? ⟨gy,26,none⟩=some (.int .i64 (j:Int))∧Below w.heap.size w W8):=Qd (by
    have hne:gx≠gy:=by have:=HGG.out.2;omega
    have b1:Box W8 gx 63 (bcs X0 rsx vsx):=by rw[hW8];exact D9.out.2.1.row_far hne _
    have b2:Box W8 gy 63 (bcs Y1 rt vt):=by rw[hW8];exact D9.out.1.row _
    have l1:=D9.out.2.2.1.len;have d1:=HOF.out.2.2.2.dl;have q1:=D9.out.2.2.1.q;have l2:=D9.out.2.2.2.2.len;have d2:=HOF.out.2.2.1.dl;have q2:=D9.out.2.2.2.2.q;refine⟨b_x b1 l1 d1 q1.len q1.nl,by rw[←HSP.out.1];exact b_x b2 l2 d2 q2.len q2.nl,?_,?_,by rw[hW8];exact Uc D9.out.2.2.2.1 (by have:=HGG.out;omega) _⟩
    ·have:=b_m b1 l1 d1 18 (.int .i64 X0.m.taken) (Uu6 q1.len q1.nl);rw[HSP.out.2.2] at this;exact this
    ·have:=b_m b2 l2 d2 18 (.int .i64 Y1.m.taken) (Uu6 q2.len q2.nl);rw[HSP.out.2.1] at this
     exact this)
   have HQ:∀w,(binOp .eql 52 (.agg X0.x.list.toArray) (.agg X0.x.list.toArray)).run prog w = .ok (.bool true) w:=Upg X0.x;have S52:Hid ((prog.info? 52).map (·.size)=some X0.x.list.length):=Qd Yj;have x1:=D8.out.2.2.1;have x2:=D8.out.2.2.2.1;clear hW8 D9 SE;generalize X0.x.list=xl at *;go_wp2_with (first|refine Ubf 52 _ rfl (by kernel_rfl) ?_);refine Zr.go gx 27 rfl D8.out.1 underlying52 rfl S52.out ?_;go_wp2_with (first|refine Ubf 52 _ rfl (by kernel_rfl) ?_);refine Zr.go gy 27 rfl D8.out.2.1 underlying52 rfl S52.out ?_;go_wp2_with fail;go_ret;exact⟨rfl,D8.out.2.2.2.2⟩
end Go.Proofs.YtdaflmjfeoacaaaGreat
