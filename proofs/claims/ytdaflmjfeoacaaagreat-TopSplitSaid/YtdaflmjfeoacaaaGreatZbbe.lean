/- Part of the proof of TopTry, TopSplit: MeF, MeG. Conditions: none. -/
import Derived.Test.YtdaflmjfeoacaaaGreatZbbd
import Derived.Test.YtdaflmjfeoacaaaGreatZbaw
set_option linter.all false
set_option maxHeartbeats 16000000
set_option maxRecDepth 4000
namespace Go.Proofs.YtdaflmjfeoacaaaGreat
open Tryz
open Go.RowKit
theorem Ued {P:Program}{o:Oper}{a:Act}{w w':World}{K:Act→World→Prop}{Q:Exit→Act→World→Prop}(t:TypeId)(len:Nat)(parts:Array (Nat×Operand))(ho:o.op = .buildSlice t len parts)(v:Value)
  (hr:(Instr.buildSlice t len (parts.map fun(i,x)=>(i,a.eval x))).run P w = .ok v w') (h:K (a.put o.dst v) w'):o.wp P a w K Q:=by
 unfold Oper.wp execOp;simp only[ho,Sem.run_bind,hr,Result.andThen_ok,Sem.run_pure];exact h
theorem Uh6 {K:Act→World→Prop}{a:Act}{W:World}(h:∀W0,W0=W→K a W0):K a W:=h W rfl
theorem Uo0:(prog.info? 40).map (fun i=>(i.zero,i.size,i.bytes))=some (some (.agg #[.int .i64 0,.int .i64 0,.int .i64 0,.int .i64 0,.int .i64 0]),5,40):=by kernel_rfl
theorem Uqt (s:Smp)(w:World):(Instr.buildSlice 41 1 #[(0,.agg (sml s).toArray)]).run prog w = .ok (.slice (some ⟨w.heap.size,0,none⟩) 1 1) (w.alloc (.cells (sml s).toArray 40)):=by
 obtain⟨t,k,⟨a,b,c⟩⟩:=s
 kernel_rfl
theorem Us5 {α:Type}{A B C:List α}{i j:Nat}{u:α}(hi:i=A.length+j)(hj:j<B.length):(A++B++C).set i u=A++B.set j u++C:=by
 subst hi;rw[List.append_assoc,List.set_append_right _ _ (by omega),Nat.add_sub_cancel_left,List.set_append_left _ _ hj,List.append_assoc]
theorem U7t {w:World}{g:Nat}{t:TypeId}{m:Mrg}{vs:List Value}(h:Box w g t (mcs m vs))(hv:vs.length=4)(hn:m.n.length=7){e:Nat}(he:e<7) :
  Box (w.setCell ⟨g,11+e,none⟩ (.int .i64 (m.n.getD e 0+1))) g t (mcs (Zo m e) vs):=by
 have:=h.set_ (11+e) (.int .i64 (m.n.getD e 0+1));have e1:(mcs m vs).setIfInBounds (11+e) (.int .i64 (m.n.getD e 0+1))=mcs (Zo m e) vs:=by
  unfold mcs Ul Zo;rw[List.setIfInBounds_toArray,Us5 (j:=e) (by simp[hv]) (by simpa [hn] using he),List.map_set]
 rw[e1] at this;exact this
theorem U4i {w:World}{g:Nat}{t:TypeId}{m:Mrg}{vs:List Value}(h:Box w g t (mcs m vs))(hv:vs.length=4){k:Nat}(hk:k<4)(v:Value)(q:List (List Smp)) :
  Box (w.setCell ⟨g,7+k,none⟩ v) g t (mcs { m with q:=q } (vs.set k v)):=by
 have:=h.set_ (7+k) v;have e1:(mcs m vs).setIfInBounds (7+k) v=mcs { m with q:=q } (vs.set k v):=by
  unfold mcs Ul;rw[List.setIfInBounds_toArray,List.append_assoc,Us5 (j:=k) (by simp) (by omega)];simp only[List.append_assoc]
 rw[e1] at this;exact this
theorem QsX.put {X:Nat→Prop}{w:World}{vs:List Value}{m:Mrg}(h:QsX X w vs m)(hq:m.q.length=4){k:Nat}(hk:k<4){v:Value}{l:List Smp}(hv:SmX X w v l):QsX X w (vs.set k v) { m with q:=m.q.set k l } :=
 ⟨by rw[List.length_set];exact h.len,h.nl,fun j hj=>by
  by_cases hjk:k=j
  ·subst hjk;rw[Zc (by rw[h.len];exact hk),Zc (by rw[hq];exact hk)];exact hv
  ·rw[Zp hjk,Zp hjk]
   exact h.at_ j hj⟩
theorem Uz5 {X:Nat→Prop}{v:Value}{l:List Smp}{w:World}(hx:SmX X w v l)(hn:l.length≤1000) :
  Calls prog 79 #[v] w fun e w'=>∃v',e = .returned v'∧w'.ownsRow w.heap.size 40 5 v' l.length (l.flatMap sml)∧Below w.heap.size w w':=by
 obtain⟨i0,hi,hz0,hz1,hz2⟩:=info_parts Uo0;obtain⟨A,c,rfl,hc1,hc2,hA⟩:=hx.1.form;have h1:=Uoz l;have hx1:=hx.1;generalize hxs:l.flatMap sml=xs at *;generalize l.length=n at *;clear hx hxs;cases A with
 | none =>
  obtain⟨rfl,rfl⟩:=hA rfl;have hn:xs=[]:=List.eq_nil_of_length_eq_zero (by simpa using hx1.len);subst hn;have q:=fun(w:World) (a:Option Addr) (n c n' c':Nat)=>Lib.run_eql_slice_nil (P:=prog) w 41 40 a n c n' c' underlying41
  go_enter func79,ntmps79;go_wp2;go_ret;exact⟨_,rfl,World.ownsRow_nil _ _ _ _,Xb _ _⟩
 | some ad =>
  have q:=fun(w:World) (a:Option Addr) (n c n' c':Nat)=>Lib.run_eql_slice_nil (P:=prog) w 41 40 a n c n' c' underlying41
  go_enter func79,ntmps79;go_wp2_with (at_builtin;refine Ug _ rfl _ _ 41 rfl w.heap.size 40 i0 _ 5 40 underlying41 hi hz0 hz1 hz2 rfl (by decide) _ _ _ rfl (World.ownsRow_made w #[] 0 (Xa _) (Nat.zero_le _) (by simp)) (.slice (some ad) n c) n xs rfl ?qc1 ?qc2 ?qc3 ?qc4 ?qc5 ?_)
  case qc1=>exact hx1.alloc _
  case qc2=>exact h1
  case qc3=>simp only[maxLen] at *;omega
  case qc4=>omega
  case qc5=>simp
  intro v' w1 hown hgrow _;go_wp2;go_ret;refine⟨v',rfl,by simpa using hown,?_⟩;exact((Xb _ w).alloc (Xa _) _).grown hgrow (by simp) (by intro k hk;simp[Value.ownBlock] at hk;omega)
def U5x (X:Nat→Prop)(r:Mrg×Nat)(w:World)(e:Ending)(w':World):Prop:=∃vs,e = .returned (.tuple #[mv r.1 vs,.int .i64 (r.2:Int)])∧QsX X w' vs r.1∧Below w.heap.size w w'
structure PtR (w:World) (cs:Array Value) (g:Nat) (ss:List Value) (W:World):Prop where
 m:Box W w.heap.size 45 cs
 r:Box W (w.heap.size+1) 45 mz
 s:Box W g 40 ss.toArray
 lg:w.heap.size+1<g
 below:Below w.heap.size w W
section
variable {w W W':World} {cs cs':Array Value} {ss:List Value} {g:Nat}
theorem PtR.kept (H:PtR w cs g ss W)(hb:Below W.heap.size W W'):PtR w cs g ss W':=⟨H.m.kept hb,H.r.kept hb,H.s.kept hb,H.lg,Ua H.below hb H.below.size⟩
theorem PtR.drew (H:PtR w cs g ss W):PtR w cs g ss W.drew:=⟨H.m.drew,H.r.drew,H.s.drew,H.lg,Ue H.below 1⟩
theorem PtR.start {z:Array Value}(H:Duo w 45 cs 45 mz W)(hW:W'=(W.alloc (.cells z 40)).setRow W.heap.size ss.toArray):PtR w cs W.heap.size ss W':=by
 have h1:=H.1.lt;have h2:=H.2.1.lt;rw[hW];exact⟨(H.1.alloc _).row_far (by omega) _,(H.2.1.alloc _).row_far (by omega) _,(Box.new W 40 z).row _,h2,Uc (H.2.2.alloc H.2.2.size _) H.2.2.size _⟩
theorem PtR.app (H:PtR w cs g ss W){row:Option Nat}(hg:W.grownBy W' row)(hr:∀k,row=some k→g<k):PtR w cs g ss W':=by
 have hl:=H.lg;have h1:=H.m.lt;have h2:=H.r.lt;have h3:=H.s.lt
 exact⟨(hg.block _ h1 (fun e=>by have:=hr _ e.symm;omega)).trans H.m,(hg.block _ h2 (fun e=>by have:=hr _ e.symm;omega)).trans H.r,(hg.block _ h3 (fun e=>by have:=hr _ e.symm;omega)).trans H.s,H.lg,
  H.below.grown hg H.below.size (fun k e=>by have:=hr k e;omega)⟩
theorem PtR.put (H:PtR w cs g ss W){o:Nat}{u:Value}(hW:W'=W.setCell ⟨w.heap.size,o,none⟩ u)(hb:Box (W.setCell ⟨w.heap.size,o,none⟩ u) w.heap.size 45 cs'):PtR w cs' g ss W':=by
 rw[hW];exact⟨hb,H.r.far (by simp) _,H.s.far (by have:=H.lg;simp;omega) _,H.lg,H.below.setCell (Xa _) _⟩
end
theorem Chg.setRow {X:Nat→Prop}{w:World}{g:Nat}(h:X g)(cs:Array Value):Chg X w (w.setRow g cs) :=
 ⟨rfl,rfl,rfl,by simp,fun k _ hx=>setRow_other w g k cs (fun e=>hx (e▸h))⟩
theorem Ud2 {w w':World}{base:Nat}{e:TypeId}{sz n:Nat}{v:Value}{xs:List Value}(h:w.ownsRow base e sz v n xs)(hb:Below w.heap.size w w'):w'.ownsRow base e sz v n xs :=
 Zk (X:=fun _=>False) h (Chg.of hb) (fun _ _ hx=>hx)
theorem Uo1 {w:World}{g sz:Nat}{t:TypeId}{ss:List Value}(h:Box w g t ss.toArray)(hs:ss.length=sz):Sl w (.slice (some ⟨g,0,none⟩) 1 1) sz 1 ss :=
 ⟨by omega,some ⟨g,0,none⟩,1,rfl,Xa _,by decide,(fun h=>by cases h),fun _=>⟨_,rfl,h.lt,fun j u hu=>by rw[Ua7,Nat.zero_add];exact(h.cell j).trans (by simpa using hu)⟩⟩
def U25 (m:Mrg)(k:Nat)(l:List Smp)(s:Smp):Mrg:={ m with q:=m.q.set k (l++[s]) }
theorem U5y {X:Nat→Prop}{w W W':World}{ss:List Value}{B k n:Nat}{m:Mrg}{vs:List Value}{l:List Smp}{s:Smp}{v:Value}{xs:List Value}(h:QsX X W' vs m)(hq:m.q.length=4)(hk:k<4)(hX:∀j,X j→j<w.heap.size)
  (ho:W.ownsRow B 40 5 v (n+1) (xs++ss)) (hs:n=l.length∧xs=l.flatMap sml∧ss=sml s) (hB:w.heap.size≤B) (hc:Chg (fun j=>j<B) W W'):QsX X W' (vs.set k v) (U25 m k l s):=by
 obtain⟨rfl,rfl,rfl⟩:=hs;have ho':W'.ownsRow B 40 5 v (l.length+1) (l.flatMap sml++sml s):=by
  exact Zk ho hc (fun k hk e=>by have:=(ho.lt k hk).1;omega)
 have hv:SmX X W' v (l++[s]):=⟨by
  have:=Sl.of_own ho';rw[List.length_append,List.flatMap_append]
  simpa using this,Ud0.own ho' (fun k hk=>by have:=hX k hk;omega)⟩
 exact h.put hq hk hv
theorem Uqu {X:Nat→Prop}{m:Mrg}{vs:List Value}{w:World}(h:QsX X w vs m)(hs:Uaz m)(hX:∀j,X j→j<w.heap.size){k:Nat}(hk:k<4){v:Value}{ws:List Int}(hv:Yx w v ws):Calls prog 52 #[mv m vs,.int .i64 (k:Int),v] w
  (U5x X (Uiq m k ws) w):=by
 obtain⟨i0,hi,hz0,hz1,hz2⟩:=info_parts Uo0;have KK:Hid (∀W,Below w.heap.size w W→Calls prog 77 #[mv m vs] W (Ub (mv m vs) W)):=Qd (fun W hb=>Ud1 (h.below hb) hs);have KW:Hid (∀W,Below w.heap.size w W→Calls prog 78 #[mv m vs,.int .i64 (k:Int),v] W (Ub (.tuple #[Udr (Uab m k ws).1,.int .i64 ((Uab m k ws).2:Int)]) W)):=Qd (fun W hb=>Us4 (h.below hb) hk (hv.below hb));have D0:=Qd (Duo.new w 45 (mcs m vs) 45 mz);have HM:Hid ((prog.info? 45).map (·.size)=some (mcs m vs).size):=Qd (Uaj h.len h.nl);have HZ:Hid (mz.size=(mcs m vs).size):=Qd (by rw[Uaf h.len h.nl];rfl);have HO:=Qd (Uah h)
 have F:Hid (Uiq m k ws=if m.n.getD (Uab m k ws).2 0=1099511627776 then (m,4) else
  if (Uab m k ws).2=0 then ({ Zo m 0 with q:=m.q.set k (m.q.getD k []++[(Uab m k ws).1]) },0) else (Zo m (Uab m k ws).2,(Uab m k ws).2)):=Qd rfl
 rw[F.out];clear F;have hcode:=Ult m k ws;have hlow:=hs.cnt (Uab m k ws).2 (by omega);generalize Uab m k ws=rr at *;obtain⟨s,e⟩:=rr;dsimp only at *;have HQ0:Hid (∀W,Below w.heap.size w W→QsX X W vs m):=Qd (fun W hb=>h.below hb);have CN:Hid (∀W,Box W w.heap.size 45 (mcs m vs)→W.cell? ⟨w.heap.size,11+e,none⟩=some (.int .i64 (m.n.getD e 0))):=Qd (fun W H=>m_n H h.len h.nl (by omega));have HN1:Hid (∀W,Box W w.heap.size 45 (mcs m vs)→Box (W.setCell ⟨w.heap.size,11+e,none⟩ (.int .i64 (m.n.getD e 0+1))) w.heap.size 45 (mcs (Zo m e) vs)):=Qd (fun W H=>U7t H h.len h.nl (by omega));have HQ2:Hid (∀W,Below w.heap.size w W→QsX X W vs (Zo m e)):=Qd (fun W hb=>(h.below hb).same rfl (by simp[Zo,h.nl]));have HM2:Hid ((prog.info? 45).map (·.size)=some (mcs (Zo m e) vs).size):=Qd (Uaj h.len (by simp[Zo,h.nl]));have HZ2:Hid (mz.size=(mcs (Zo m e) vs).size):=Qd (by rw[Uaf h.len (by simp[Zo,h.nl])];rfl);have HO2:Hid ((mcs (Zo m e) vs).all (·.oneCell')=true):=Qd (Uah (h.same (m':=Zo m e) rfl (by simp[Zo,h.nl])));have S5:Hid ((prog.info? 40).map (·.size)=some (sml s).toArray.size):=Qd Ye;have S5L:Hid ((prog.info? 40).map (·.size)=some (sml s).length):=Qd Ye;have S55:Hid ((#[.int .i64 0,.int .i64 0,.int .i64 0,.int .i64 0,.int .i64 0]:Array Value).size=(sml s).toArray.size):=Qd rfl;have S5N:Hid ((sml s).length=5):=Qd rfl;have S51:Hid ((sml s).toArray.all (·.oneCell')=true):=Qd (by simp[sml,Smp.cells,Value.oneCell']);have SONE:Hid (∀u∈sml s,u.oneCell'=true):=Qd (fun u hu=>Uoz [s] u (by simpa using hu));have KBS:=Qd (fun w=>Uqt s w);have KC:Hid (∀W,Below w.heap.size w W→Calls prog 79 #[vs.getD k (.bool false)] W (fun e w'=>∃v',e = .returned v'∧w'.ownsRow W.heap.size 40 5 v' (m.q.getD k []).length ((m.q.getD k []).flatMap sml)∧Below W.heap.size W w')) :=
  Qd (fun W hb=>Uz5 ((h.at_ k hk).below hb) (by have:=(hs.row k hk).1;omega))
 have CQ:Hid (∀W,Box W w.heap.size 45 (mcs (Zo m e) vs)→W.cell? ⟨w.heap.size,7+k,none⟩=some (vs.getD k (.bool false))):=Qd (fun W H=>m_q H h.len hk);have HN16:=Qd (hs.row k hk).1;have HCS:Hid (∀W u,Box W w.heap.size 45 (mcs (Zo m e) vs)→Box (W.setCell ⟨w.heap.size,7+k,none⟩ u) w.heap.size 45 (mcs (U25 (Zo m e) k (m.q.getD k []) s) (vs.set k u))):=Qd (fun W u H=>U4i H h.len hk u _);have HQL:Hid ((Zo m e).q.length=4):=Qd hs.ql;have HK4:=Qd hk;have HX:=Qd hX;have HSS:Hid ((m.q.getD k []).length=(m.q.getD k []).length∧(m.q.getD k []).flatMap sml=(m.q.getD k []).flatMap sml∧sml s=sml s):=Qd ⟨rfl,rfl,rfl⟩;have HM3:Hid (∀W v2,QsX X W (vs.set k v2) (U25 (Zo m e) k (m.q.getD k []) s)→(prog.info? 45).map (·.size)=some (mcs (U25 (Zo m e) k (m.q.getD k []) s) (vs.set k v2)).size∧mz.size=(mcs (U25 (Zo m e) k (m.q.getD k []) s) (vs.set k v2)).size∧(mcs (U25 (Zo m e) k (m.q.getD k []) s) (vs.set k v2)).all (·.oneCell')=true) :=
  Qd (fun W v2 H=>⟨Uaj H.len H.nl,by rw[Uaf H.len H.nl];rfl,Uah H⟩)
 have e0:Udr s = .agg (sml s).toArray:=rfl;rw[e0] at KW;dsimp only[mv] at KK KW ⊢;have hk0:(0:Int)≤k:=by omega
 have hk4:(k:Int)<4:=by omega
 have he0:(0:Int)≤e:=by omega
 have he7:(e:Int)<7:=by omega
 clear h hv hX e0;generalize hxs:sml s=ss at *;have HSM:=Qd hxs;clear hxs;by_cases hfull:m.n.getD e 0=1099511627776
 ·rw[if_pos hfull];rw[hfull] at CN;clear hfull hcode hlow HN1 HQ2 HM2 HZ2 HO2 KBS KC CQ HCS HQL HM3 HSS hs;go_enter func52,ntmps52;go_upto_region 1 with fail
  refine Uq fun W0 hW0=>?_
  have D1:Hid (Duo w 45 (mcs m vs) 45 mz W0):=Qd (by rw[hW0];exact D0.out);clear hW0 D0;go_wp2_with (with_reducible first|refine Qh 45 ?_|refine Qg 45 ?_|refine Qh 40 ?_);refine Uo.go w.heap.size rfl D1.out.1 underlying45 rfl HM.out ?_;go_wp2_with fail;refine(KK.out _ D1.out.2.2).mono ?_;rintro e w1 ⟨rfl,hb⟩;have D2:=Qd (D1.out.kept hb);clear hb D1 KK;go_wp2_with (with_reducible first|refine Qh 45 ?_|refine Qg 45 ?_|refine Qh 40 ?_);refine Uf.go w.heap.size rfl rfl D2.out.1 HM.out rfl HO.out ?_;go_upto_region 2 with fail
  refine Uq fun W2 hW2=>?_
  have D3:Hid (Duo w 45 (mcs m vs) 45 mz W2):=Qd (by rw[hW2];exact⟨D2.out.1.row _,D2.out.2.1.row_far (by omega) _,Uc D2.out.2.2 (Xa _) _⟩);clear hW2 D2;go_wp2_with (with_reducible first|refine Qh 45 ?_|refine Qg 45 ?_|refine Qh 40 ?_);refine Uo.go w.heap.size rfl D3.out.1 underlying45 rfl HM.out ?_;go_wp2_with fail;refine(KW.out _ D3.out.2.2).mono ?_;rintro e w3 ⟨rfl,hb⟩;have D4:=Qd (D3.out.kept hb);clear hb D3 KW;go_wp2_with (with_reducible first|refine Qh 45 ?_|refine Qg 45 ?_|refine Qh 40 ?_);refine Uf.go w3.heap.size rfl rfl (Box.new _ _ _) S5.out S55.out S51.out ?_;go_upto_region 3 with fail
  refine Uq fun W4 hW4=>?_
  have R1:=Qd (PtR.start (ss:=ss) D4.out hW4);clear hW4 D4;generalize w3.heap.size=g8 at *;have x11:=CN.out _ R1.out.m;have f11:=R1.out.m.frozen (11+e);go_wp2_with (with_reducible first|refine Qh 45 ?_|refine Qg 45 ?_|refine Qh 40 ?_);refine Uo.go w.heap.size rfl R1.out.m underlying45 rfl HM.out ?_;go_wp2_with (with_reducible first|refine Qh 45 ?_|refine Qg 45 ?_|refine Qh 40 ?_);refine Uf.go (w.heap.size+1) rfl rfl R1.out.r HM.out HZ.out HO.out ?_;go_wp2_with fail;exact Xk (Ud results52 _ _ (w.heap.size+1) 45 _ (0,0) _ rfl (R1.out.r.row _) underlying45 rfl HM.out) rfl ⟨_,rfl,HQ0.out _ (Uc R1.out.below (by omega) _),Uc R1.out.below (by omega) _⟩
 ·rw[if_neg hfull];have e1:(m.n.getD e 0==1099511627776)=false:=by simpa using hfull
  have hw1:IntKind.i64.wrap (m.n.getD e 0+1)=m.n.getD e 0+1:=by unfold Ua0 at hlow;rw[Xf];omega
  generalize m.n.getD e 0=ne at *;clear hfull hlow hcode;by_cases h0:e=0;rotate_right
  focus
   rw[if_neg h0];have e2:((e:Int)==0)=false:=by simp;omega
   clear hs h0 KBS KC CQ HCS HQL HM3 HSS;generalize Zo m e=m2 at *
  rotate_right
  focus
   subst h0;rw[if_pos rfl];have hE:({ Zo m 0 with q:=m.q.set k (m.q.getD k []++[s]) }:Mrg)=U25 (Zo m 0) k (m.q.getD k []) s:=rfl;rw[hE];clear hE hs;generalize Zo m 0=m2 at *;generalize m.q.getD k []=l at *;obtain⟨xs,hxs⟩:∃xs,l.flatMap sml=xs:=⟨_,rfl⟩;obtain⟨n,hnn⟩:∃n,l.length=n:=⟨_,rfl⟩;have HS2:Hid (n=l.length∧xs=l.flatMap sml∧ss=sml s):=Qd ⟨hnn.symm,hxs.symm,HSM.out.symm⟩;clear HSS;have HSS:=HS2;rw[hnn] at KC HN16;rw[hxs] at KC;clear hxs hnn HS2;generalize vs.getD k (.bool false)=v0 at *
  all_goals
   go_enter func52,ntmps52;go_upto_region 1 with fail
   refine Uq fun W0 hW0=>?_
   have D1:Hid (Duo w 45 (mcs m vs) 45 mz W0):=Qd (by rw[hW0];exact D0.out);clear hW0 D0;go_wp2_with (with_reducible first|refine Qh 45 ?_|refine Qg 45 ?_|refine Qh 40 ?_);refine Uo.go w.heap.size rfl D1.out.1 underlying45 rfl HM.out ?_;go_wp2_with fail;refine(KK.out _ D1.out.2.2).mono ?_;rintro e w1 ⟨rfl,hb⟩;have D2:=Qd (D1.out.kept hb);clear hb D1 KK;go_wp2_with (with_reducible first|refine Qh 45 ?_|refine Qg 45 ?_|refine Qh 40 ?_);refine Uf.go w.heap.size rfl rfl D2.out.1 HM.out rfl HO.out ?_;go_upto_region 2 with fail
   refine Uq fun W2 hW2=>?_
   have D3:Hid (Duo w 45 (mcs m vs) 45 mz W2):=Qd (by rw[hW2];exact⟨D2.out.1.row _,D2.out.2.1.row_far (by omega) _,Uc D2.out.2.2 (Xa _) _⟩);clear hW2 D2;go_wp2_with (with_reducible first|refine Qh 45 ?_|refine Qg 45 ?_|refine Qh 40 ?_);refine Uo.go w.heap.size rfl D3.out.1 underlying45 rfl HM.out ?_;go_wp2_with fail;refine(KW.out _ D3.out.2.2).mono ?_;rintro e w3 ⟨rfl,hb⟩;have D4:=Qd (D3.out.kept hb);clear hb D3 KW;go_wp2_with (with_reducible first|refine Qh 45 ?_|refine Qg 45 ?_|refine Qh 40 ?_);refine Uf.go w3.heap.size rfl rfl (Box.new _ _ _) S5.out S55.out S51.out ?_;go_upto_region 3 with fail
   refine Uq fun W4 hW4=>?_
   have R1:=Qd (PtR.start (ss:=ss) D4.out hW4);clear hW4 D4;generalize w3.heap.size=g8 at *;have x11:=CN.out _ R1.out.m
  rotate_right
  focus
   have f11:=R1.out.m.frozen (11+e);go_upto_region 6 with fail
  rotate_right
  focus
   have f11:=R1.out.m.frozen 11;go_upto_region 7 with fail
  all_goals
   refine Uq fun W5 hW5=>?_
   have R2:Hid (PtR w (mcs m2 vs) g8 ss W5):=Qd (R1.out.put hW5 (HN1.out _ R1.out.m));clear hW5 R1 x11 f11
  ·refine Uk (S:=fun w'=>PtR w (mcs m2 vs) g8 ss w') 11 11 (by kernel_rfl) rfl (by kernel_rfl) (by decide) R2.out.drew (fun hHeld=>?_);refine Qn 0 (.int .i64 (k:Int)) ?_;refine Qn 1 (.int .i64 (k:Int)) ?_;refine Qn 2 (.pointer (some ⟨w.heap.size,7,none⟩)) ?_;refine Qn 3 (.pointer (some ⟨w.heap.size,7+k,none⟩)) ?_;refine Qe 4 v0 (fun w hw=>?_) ?_
   ·have x7:=CQ.out _ hw.m;go_simp
   simp only[Qz];refine Ux (i:=6) (v := .agg (ss).toArray) rfl rfl (by kernel_rfl) (by kernel_rfl) (by kernel_rfl) (fun _ _ _ h=>h)
    (Xn (by rfl) 40 _ rfl (g8) (0) rfl (ss) _ (fun _ h=>h.s.rangeA) underlying40 rfl S5L.out) hHeld ?_
   simp only[Qz];refine Qn 9 (.pointer (some ⟨w.heap.size,7,none⟩)) ?_;refine Ut fun WD hWD=>?_
   have RD:Hid (PtR w (mcs m2 vs) g8 ss WD):=Qd (by rw[hWD];exact R2.out.drew);replace hHeld:=RD.out;clear hWD R2;refine wpAnyH_ready (rs:=[5,7]) (by kernel_rfl) (by simp) ?_;refine Xo rfl (fun KQ hKQ=>?_) (Xo rfl (fun KQ hKQ=>?_) AllReadyH.nil);rotate_right;rotate_right
   focus
    go_simp;refine(KC.out _ RD.out.below).mono ?_;rintro e wc ⟨v1,rfl,hown,hb⟩;have O5:=Qd hown;have HG8:=Qd RD.out.s.lt;have Rwc:=Qd (RD.out.kept hb);have HBB:=Qd hb.size;clear hown hb;refine hKQ.out _ _ (Rwc.out) (fun hHeld=>?_);clear hKQ KQ;refine Qc 7 fun KQ hKQ=>?_
   all_goals
    rw[if_pos (by rfl)];refine Ued 41 1 _ rfl _ (by simp only[List.map_toArray,List.map_cons,List.map_nil];exact KBS.out _) ?_;go_simp
   rotate_right
   focus
    refine hKQ.out _ _ (RD.out.kept ((Xb _ _).alloc (Xa _) _)) (fun hHeld=>?_);clear hKQ KQ;refine Ut fun wb hW=>?_
    have Rwb:Hid (PtR w (mcs m2 vs) g8 ss wb):=Qd (by rw[hW];exact RD.out.kept ((Xb _ _).alloc (Xa _) _));have B8:Hid (Box wb WD.heap.size 40 ss.toArray):=Qd (by rw[hW];exact Box.new _ _ _);replace hHeld:=Rwb.out;clear hW;refine Qc 5 fun KQ hKQ=>?_
    go_simp;refine(KC.out _ Rwb.out.below).mono ?_;rintro e wc ⟨v1,rfl,hown,hb⟩;have O5:=Qd hown;have HG8:=Qd Rwb.out.s.lt;have Rwc:=Qd (Rwb.out.kept hb);have B9:=Qd (B8.out.kept hb);have HB5:=Qd hb.size;clear hown hb B8;refine hKQ.out _ _ (Rwc.out) (fun hHeld=>?_);clear hKQ KQ;refine Qc 8 fun KQ hKQ=>?_
    rw[if_pos (by rfl)];refine Zm _ _ _ 41 rfl _ 40 i0 _ 5 40 underlying41 hi hz0 hz1 hz2 rfl (by decide) v1 n xs rfl O5.out (.slice (some ⟨WD.heap.size,0,none⟩) 1 1) 1 ss rfl (Uo1 B9.out S5N.out) SONE.out (by have:=HN16.out;simp only[maxLen];omega) (by have:=HN16.out;omega) HB5.out ?_;intro v2 w9 hown hgrow _;obtain⟨A2,c2,hv2,-,-⟩:=Zz hown;subst hv2;have R9:Hid (PtR w (mcs m2 vs) g8 ss w9):=Qd (Rwc.out.app hgrow (fun q hq=>by have:=(O5.out.lt q hq).1;have:=HG8.out;omega))
   rotate_right
   focus
    refine hKQ.out _ _ (Rwc.out.kept ((Xb _ _).alloc (Xa _) _)) (fun hHeld=>?_);clear hKQ KQ;refine Ut fun wb hW=>?_
    have Rwb:Hid (PtR w (mcs m2 vs) g8 ss wb):=Qd (by rw[hW];exact Rwc.out.kept ((Xb _ _).alloc (Xa _) _));have B9:Hid (Box wb wc.heap.size 40 ss.toArray):=Qd (by rw[hW];exact Box.new _ _ _);have O6:=Qd (Ud2 O5.out ((Xb _ wc).alloc (Xa _) (.cells ss.toArray 40)));rw[←hW] at O6;have HB5:Hid (WD.heap.size≤wb.heap.size):=Qd (by rw[hW];have:=HBB.out;simp;omega);replace hHeld:=Rwb.out;clear hW HBB;refine Qc 8 fun KQ hKQ=>?_
    rw[if_pos (by rfl)];refine Zm _ _ _ 41 rfl _ 40 i0 _ 5 40 underlying41 hi hz0 hz1 hz2 rfl (by decide) v1 n xs rfl O6.out (.slice (some ⟨wc.heap.size,0,none⟩) 1 1) 1 ss rfl (Uo1 B9.out S5N.out) SONE.out (by have:=HN16.out;simp only[maxLen];omega) (by have:=HN16.out;omega) HB5.out ?_;intro v2 w9 hown hgrow _;obtain⟨A2,c2,hv2,-,-⟩:=Zz hown;subst hv2;have R9:Hid (PtR w (mcs m2 vs) g8 ss w9):=Qd (Rwb.out.app hgrow (fun q hq=>by have:=(O6.out.lt q hq).1;have:=HG8.out;omega))
   all_goals
    have O9:=Qd hown;have HG9:=Qd R9.out.lg;clear hgrow hown;go_simp;refine hKQ.out _ _ (R9.out) (fun hHeld=>?_);clear hKQ KQ;refine Qn 10 (.pointer (some ⟨w.heap.size,7+k,none⟩)) ?_;refine Xl (by kernel_rfl) ?_ _;have f7:=R9.out.m.frozen (7+k);have c7:=CQ.out _ R9.out.m;refine U4 rfl (by rfl) ?_;go_simp;refine Uh6 fun W5 hW5=>?_
    have R5:Hid (PtR w (mcs (U25 m2 k l s) (vs.set k (.slice A2 (n+1) c2))) g8 ss W5):=Qd (R9.out.put hW5 (HCS.out _ _ R9.out.m));have Q5:Hid (∀W6,Below w.heap.size w W6→Chg (· < w.heap.size+1+1) W5 W6→QsX X W6 (vs.set k (.slice A2 (n+1) c2)) (U25 m2 k l s)):=Qd (fun W6 hb6 hc6=>U5y (HQ2.out _ hb6) HQL.out HK4.out HX.out O9.out HSS.out (by have:=HG8.out;have:=HG9.out;omega) (Chg.trans (Chg.mono (X:=(· = w.heap.size)) (by rw[hW5];exact Chg.setCell (X:=(· = w.heap.size)) (p:=⟨w.heap.size,7+k,none⟩) rfl _) (fun j _ e=>by have:=HG8.out;have:=HG9.out;omega)) (Chg.mono hc6 (fun j _ e=>by have:=HG8.out;have:=HG9.out;omega))));have P5:=Qd (HM3.out _ _ (Q5.out W5 R5.out.below (Chg.refl _ _)));clear hW5 f7 c7 hHeld R9 O9 RD B9 O5;go_wp2_with (with_reducible first|refine Qh 45 ?_|refine Qg 45 ?_|refine Qh 40 ?_);refine Uo.go w.heap.size rfl R5.out.m underlying45 rfl P5.out.1 ?_;go_wp2_with (with_reducible first|refine Qh 45 ?_|refine Qg 45 ?_|refine Qh 40 ?_);refine Uf.go (w.heap.size+1) rfl rfl R5.out.r P5.out.1 P5.out.2.1 P5.out.2.2 ?_;go_wp2_with fail;exact Xk (Ud results52 _ _ (w.heap.size+1) 45 _ (0,0) _ rfl (R5.out.r.row _) underlying45 rfl P5.out.1) rfl ⟨_,rfl,Q5.out _ (Uc R5.out.below (by omega) _) (Chg.setRow (by omega) _),Uc R5.out.below (by omega) _⟩
  ·go_wp2_with (with_reducible first|refine Qh 45 ?_|refine Qg 45 ?_|refine Qh 40 ?_);refine Uo.go w.heap.size rfl R2.out.m underlying45 rfl HM2.out ?_;go_wp2_with (with_reducible first|refine Qh 45 ?_|refine Qg 45 ?_|refine Qh 40 ?_);refine Uf.go (w.heap.size+1) rfl rfl R2.out.r HM2.out HZ2.out HO2.out ?_;go_wp2_with fail;exact Xk (Ud results52 _ _ (w.heap.size+1) 45 _ (0,0) _ rfl (R2.out.r.row _) underlying45 rfl HM2.out) rfl ⟨_,rfl,HQ2.out _ (Uc R2.out.below (by omega) _),Uc R2.out.below (by omega) _⟩
open Tryz
open Go.RowKit
theorem U0d {w:World}{g:Nat}{t:TypeId}{m:Mrg}{vs:List Value}(h:Box w g t (mcs m vs))(n:Int):Box (w.setCell ⟨g,0,none⟩ (.int .i64 n)) g t (mcs { m with mark:=n } vs):=h.set_ 0 _
theorem U0e {w:World}{g:Nat}{t:TypeId}{m:Mrg}{vs:List Value}(h:Box w g t (mcs m vs))(b:Bool):Box (w.setCell ⟨g,1,none⟩ (.bool b)) g t (mcs { m with some:=b } vs):=h.set_ 1 _
theorem U0f {w:World}{g:Nat}{t:TypeId}{m:Mrg}{vs:List Value}(h:Box w g t (mcs m vs))(s:Smp):Box (w.setCells g 2 (sml s)) g t (mcs { m with last:=s } vs):=by
 have:=Box.midSet (A:=[.int .i64 m.mark,.bool m.some]) (B:=sml m.last) (C:=vs++m.n.map (Value.int .i64)++[.int .i64 m.taken]) (vs:=sml s) (o:=2) (w:=w) (g:=g) (t:=t) (by simpa [mcs,Ul,sml,Smp.cells] using h) rfl rfl;simpa [mcs,Ul,sml,Smp.cells] using this
theorem Uws {w:World}{g:Nat}{t:TypeId}{m:Mrg}{vs:List Value}(h:Box w g t (mcs m vs))(hv:vs.length=4)(hn:m.n.length=7)(n:Int):Box (w.setCell ⟨g,18,none⟩ (.int .i64 n)) g t (mcs { m with taken:=n } vs):=by
 have:=h.set_ 18 (.int .i64 n);have e1:(mcs m vs).setIfInBounds 18 (.int .i64 n)=mcs { m with taken:=n } vs:=by
  unfold mcs Ul;rw[List.setIfInBounds_toArray,List.set_append_right _ _ (by simp[hv,hn])];simp[hv,hn]
 rw[e1] at this;exact this
theorem U53 {w:World}{g:Nat}{t:TypeId}{m:Mrg}{vs:List Value}(h:Box w g t (mcs m vs))(hv:vs.length=4)(hn:m.n.length=7){o n:Nat}(ho:o+n≤19):w.there g o n:=h.midThere (by rw[Uaf hv hn];exact ho)
def U0g (X:Nat→Prop)(m:Mrg)(w:World)(e:Ending)(w':World):Prop:=∃vs,e = .returned (mv m vs)∧QsX X w' vs m∧Below w.heap.size w w'
theorem Uni {X:Nat→Prop}{m:Mrg}{vs:List Value}{w:World}(h:QsX X w vs m)(hs:Uaz m)(t:Int)(ht:t≤1099511627776):Calls prog 54 #[mv m vs,.int .i64 t] w (U0g X (Ugl m t) w):=by
 have KK:Hid (∀W,Below w.heap.size w W→Calls prog 77 #[mv m vs] W (Ub (mv m vs) W)):=Qd (fun W hb=>Ud1 (h.below hb) hs);have D0:=Qd (Duo.new w 45 (mcs m vs) 45 mz);have HM:Hid ((prog.info? 45).map (·.size)=some (mcs m vs).size):=Qd (Uaj h.len h.nl);have HO:=Qd (Uah h);have CM:Hid (∀W,Box W w.heap.size 45 (mcs m vs)→W.cell? ⟨w.heap.size,0,none⟩=some (.int .i64 m.mark)):=Qd (fun W H=>Uuk H);have F:Hid (Ugl m t={ m with mark:=max m.mark t }):=Qd rfl;rw[F.out];clear F;have HQ:Hid (∀W,Below w.heap.size w W→QsX X W vs { m with mark:=max m.mark t }):=Qd (fun W hb=>(h.below hb).same rfl h.nl);have HN:Hid (∀W,Box W w.heap.size 45 (mcs m vs)→Box (W.setCell ⟨w.heap.size,0,none⟩ (.int .i64 (max m.mark t))) w.heap.size 45 (mcs { m with mark:=max m.mark t } vs)):=Qd (fun W H=>U0d H _);have HM2:Hid ((prog.info? 45).map (·.size)=some (mcs { m with mark:=max m.mark t } vs).size):=Qd (Uaj h.len h.nl);have HZ2:Hid (mz.size=(mcs { m with mark:=max m.mark t } vs).size):=Qd (Uir.trans (Uaf h.len h.nl).symm);have HO2:Hid ((mcs { m with mark:=max m.mark t } vs).all (·.oneCell')=true):=Qd (Uah (h.same (m':={ m with mark:=max m.mark t }) rfl h.nl));dsimp only[mv] at KK ⊢;generalize { m with mark:=max m.mark t }=m2 at *;clear h hs;have d1:decide (t≤1099511627776)=true:=Xi ht;clear ht;generalize m.mark=mk at *;go_enter func54,ntmps54;go_upto_region 1 with fail
 refine Uq fun W0 hW0=>?_
 have D1:Hid (Duo w 45 (mcs m vs) 45 mz W0):=Qd (by rw[hW0];exact D0.out);clear hW0 D0;go_wp2_with (with_reducible first|refine Qh 45 ?_|refine Qg 45 ?_);refine Uo.go w.heap.size rfl D1.out.1 underlying45 rfl HM.out ?_;go_wp2_with fail;refine(KK.out _ D1.out.2.2).mono ?_;rintro e w1 ⟨rfl,hb⟩;have D2:=Qd (D1.out.kept hb);clear hb D1 KK;go_wp2_with (with_reducible first|refine Qh 45 ?_|refine Qg 45 ?_);refine Uf.go w.heap.size rfl rfl D2.out.1 HM.out rfl HO.out ?_;go_upto_region 2 with fail
 refine Uq fun W2 hW2=>?_
 have D3:Hid (Duo w 45 (mcs m vs) 45 mz W2):=Qd (by rw[hW2];exact⟨D2.out.1.row _,D2.out.2.1.row_far (by omega) _,Uc D2.out.2.2 (Xa _) _⟩);clear hW2 D2;have x0:=CM.out _ D3.out.1;have f0:=D3.out.1.frozen 0;go_upto_region 4 with fail
 refine Uq fun W3 hW3=>?_
 have D4:Hid (Duo w 45 (mcs m2 vs) 45 mz W3):=Qd (by rw[hW3];exact⟨HN.out _ D3.out.1,D3.out.2.1.far (by simp) _,D3.out.2.2.setCell (Xa _) _⟩);clear hW3 D3 x0 f0;go_wp2_with (with_reducible first|refine Qh 45 ?_|refine Qg 45 ?_);refine Uo.go w.heap.size rfl D4.out.1 underlying45 rfl HM2.out ?_;go_wp2_with (with_reducible first|refine Qh 45 ?_|refine Qg 45 ?_);refine Uf.go (w.heap.size+1) rfl rfl D4.out.2.1 HM2.out HZ2.out HO2.out ?_;go_wp2_with fail;exact Xk (results_cell_row results54 _ _ (w.heap.size+1) 45 _ (0,0) _ rfl (D4.out.2.1.row _) underlying45 rfl HM2.out) rfl ⟨_,rfl,HQ.out _ (Uc D4.out.2.2 (by omega) _),Uc D4.out.2.2 (by omega) _⟩
end Go.Proofs.YtdaflmjfeoacaaaGreat
