/- Part of the proof of TopTry, TopSplit: SnD, BoA. Conditions: none. -/
import Derived.Test.YtdaflmjfeoacaaaGreatZbbg
import Derived.Test.YtdaflmjfeoacaaaGreatZbbi
set_option linter.all false
set_option maxHeartbeats 16000000
set_option maxRecDepth 4000
namespace Go.Proofs.YtdaflmjfeoacaaaGreat
open Tryz
open Go.RowKit Go.Shelf
attribute [local go_sem] Oper.semAt_some
def U61 (ws:List Int)(cs:List Value)(p:Option Fld×Nat):List Value:=match p.1 with
 | none=>cs
 | some f=>cs.set f.off (.int .i64 (Ubo (ws.getD p.2 0)))
def Uee (ws:List Int)(pre:List (Option Fld)):List Value:=pre.zipIdx.foldl (U61 ws) Uae.list
theorem Uta (ws:List Int)(pre:List (Option Fld))(z:Option Fld):Uee ws (pre++[z])=U61 ws (Uee ws pre) (z,pre.length):=by
 unfold Uee;rw[List.zipIdx_append,List.foldl_append];simp
theorem U3a (ws:List Int)(cs:List Value)(p:Option Fld×Nat):(U61 ws cs p).length=cs.length:=by
 unfold U61;split<;>simp
theorem Uwn (ws:List Int)(pre:List (Option Fld)):(Uee ws pre).length=29:=by
 unfold Uee;have:∀(l:List (Option Fld×Nat)) (cs:List Value),(l.foldl (U61 ws) cs).length=cs.length:=by
  intro l
  induction l with
  | nil=>exact fun _=>rfl
  | cons p l ih=>intro cs;rw[List.foldl_cons,ih,U3a]
 rw[this]
 rfl
theorem U7v {n:Nat}(h:U28 n=true):n<29:=by
 rcases Uqy h with rfl|rfl|rfl|rfl|rfl|rfl|rfl|rfl|rfl|rfl|rfl|rfl|rfl|rfl|rfl|rfl|rfl|rfl|rfl|rfl|rfl|rfl|rfl|rfl<;>decide
theorem Utb {n:Int}(h1 : -9223372036854775808≤n)(h2:n≤9223372036854775807):Ubo (Ubr n)=n:=by
 unfold Ubo Ubr;rw[Xg,Xf];omega
def U9b (x:Sta):Sta:={ x with out:=0,pose:={ x.pose with bad:=false },x0:={ x.x0 with bad:=false },x1:={ x.x1 with bad:=false },x2:={ x.x2 with bad:=false } }
theorem Uz9 {x:Sta}(h:Ual x):(∀n,n∈[x.t,x.n,x.pose.q.w,x.pose.q.x,x.pose.q.y,x.pose.q.z,x.pose.w.x,x.pose.w.y,x.pose.w.z,x.x0.p,x.x0.v,x.x0.pp,x.x0.pv,x.x0.vv,x.x1.p,x.x1.v,x.x1.pp,x.x1.pv,x.x1.vv,x.x2.p,x.x2.v,x.x2.pp,x.x2.pv,x.x2.vv]→Ubo (Ubr n)=n):=by
 have key:∀{n:Int},chg n=false→Ubo (Ubr n)=n:=fun h=>by have:=U5a h;exact Utb (by omega) (by omega)
 have keyc:∀{n:Int},Ua0 n→Ubo (Ubr n)=n:=fun h=>by unfold Ua0 at h;exact Utb (by omega) (by omega)
 have keyw:∀{n:Int},Z0 n→Ubo (Ubr n)=n:=fun h=>by unfold Z0 at h;exact Utb (by omega) (by omega)
 obtain⟨h1,h2,_,⟨p1,_,_,p4⟩,⟨a1,a2,a3,a4,a5⟩,⟨b1,b2,b3,b4,b5⟩,⟨c1,c2,c3,c4,c5⟩⟩:=h;have p2:Ua3 x.pose.q.list=false:=by unfold Zv Umg at p1;simp only[Bool.or_eq_false_iff] at p1;exact p1.2
 unfold Ua3 V4.list at p2;unfold Ua3 V3.list at p4;simp only[List.any_cons,List.any_nil,Bool.or_false,Bool.or_eq_false_iff] at p2 p4;obtain⟨q1,q2,q3,q4⟩:=p2;obtain⟨w1,w2,w3⟩:=p4;simp only[List.forall_mem_cons,List.not_mem_nil,false_imp_iff,implies_true,and_true];exact⟨keyc h1,keyc h2,key q1,key q2,key q3,key q4,key w1,key w2,key w3,key a1,key a2,keyw a4,key a3,keyw a5,key b1,key b2,keyw b4,key b3,keyw b5,key c1,key c2,keyw c4,key c3,keyw c5⟩
theorem Uwo (ws:List Int):Uee ws Uj0=[.int .i64 (Ubo (ws.getD 0 0)),.int .i64 (Ubo (ws.getD 1 0)),.int .i64 0,.int .i64 (Ubo (ws.getD 3 0)),.int .i64 (Ubo (ws.getD 4 0)),.int .i64 (Ubo (ws.getD 5 0)),.int .i64 (Ubo (ws.getD 6 0)),.int .i64 (Ubo (ws.getD 7 0)),.int .i64 (Ubo (ws.getD 8 0)),.int .i64 (Ubo (ws.getD 9 0)),.bool false,.int .i64 (Ubo (ws.getD 10 0)),.int .i64 (Ubo (ws.getD 11 0)),.int .i64 (Ubo (ws.getD 12 0)),.int .i64 (Ubo (ws.getD 13 0)),.int .i64 (Ubo (ws.getD 14 0)),.bool false,.int .i64 (Ubo (ws.getD 15 0)),.int .i64 (Ubo (ws.getD 16 0)),.int .i64 (Ubo (ws.getD 17 0)),.int .i64 (Ubo (ws.getD 18 0)),.int .i64 (Ubo (ws.getD 19 0)),.bool false,.int .i64 (Ubo (ws.getD 20 0)),.int .i64 (Ubo (ws.getD 21 0)),.int .i64 (Ubo (ws.getD 22 0)),.int .i64 (Ubo (ws.getD 23 0)),.int .i64 (Ubo (ws.getD 24 0)),.bool false]:=by kernel_rfl
theorem U0a (x:Sta):(U0 x).getD 0 0=Ubr x.t∧(U0 x).getD 1 0=Ubr x.n∧(U0 x).getD 3 0=Ubr x.pose.q.w∧(U0 x).getD 4 0=Ubr x.pose.q.x∧(U0 x).getD 5 0=Ubr x.pose.q.y∧(U0 x).getD 6 0=Ubr x.pose.q.z∧(U0 x).getD 7 0=Ubr x.pose.w.x∧(U0 x).getD 8 0=Ubr x.pose.w.y∧(U0 x).getD 9 0=Ubr x.pose.w.z∧(U0 x).getD 10 0=Ubr x.x0.p∧(U0 x).getD 11 0=Ubr x.x0.v∧(U0 x).getD 12 0=Ubr x.x0.pp∧(U0 x).getD 13 0=Ubr x.x0.pv∧(U0 x).getD 14 0=Ubr x.x0.vv∧(U0 x).getD 15 0=Ubr x.x1.p∧(U0 x).getD 16 0=Ubr x.x1.v∧(U0 x).getD 17 0=Ubr x.x1.pp∧(U0 x).getD 18 0=Ubr x.x1.pv∧(U0 x).getD 19 0=Ubr x.x1.vv∧(U0 x).getD 20 0=Ubr x.x2.p∧(U0 x).getD 21 0=Ubr x.x2.v∧(U0 x).getD 22 0=Ubr x.x2.pp∧(U0 x).getD 23 0=Ubr x.x2.pv∧(U0 x).getD 24 0=Ubr x.x2.vv:=by
 refine⟨rfl,rfl,rfl,rfl,rfl,rfl,rfl,rfl,rfl,rfl,rfl,rfl,rfl,rfl,rfl,rfl,rfl,rfl,rfl,rfl,rfl,rfl,rfl,rfl⟩
theorem Uwp {x:Sta}(h:Ual x):Uee (U0 x) Uj0=(U9b x).list:=by
 have hn:=Uz9 h;simp only[List.forall_mem_cons,List.not_mem_nil,false_imp_iff,implies_true,and_true] at hn;obtain⟨e0,e1,e2,e3,e4,e5,e6,e7,e8,e9,e10,e11,e12,e13,e14,e15,e16,e17,e18,e19,e20,e21,e22,e23⟩:=hn;obtain⟨g0,g1,g2,g3,g4,g5,g6,g7,g8,g9,g10,g11,g12,g13,g14,g15,g16,g17,g18,g19,g20,g21,g22,g23⟩:=U0a x;rw[Uwo,g0,g1,g2,g3,g4,g5,g6,g7,g8,g9,g10,g11,g12,g13,g14,g15,g16,g17,g18,g19,g20,g21,g22,g23,e0,e1,e2,e3,e4,e5,e6,e7,e8,e9,e10,e11,e12,e13,e14,e15,e16,e17,e18,e19,e20,e21,e22,e23]
 rfl
theorem Ubv (x:Sta):(U0 x).length=26:=by simp[U0,Uwm,Uj0]
theorem Utc (x:Sta):(U0 x).getD 2 0=U3 x 4:=rfl
theorem U0b (x:Sta):Uin ((U0 x).take 25)=(U0 x).getD 25 0:=by
 have hl:(Uwm x).length=25:=by simp[Uwm,Uj0]
 unfold U0;rw[List.take_left' hl,List.getD_eq_getElem?_getD,List.getElem?_append_right (by omega),hl];generalize Uin (Uwm x)=s
 rfl
theorem U0c {x:Sta}(h:Ual x):Ubo (U3 x 4 / 16)=x.out:=by
 have h1:=h.2.2.1;unfold Ua0 at h1;have:U3 x 4 / 16=x.out:=by
  unfold U3 Unh;simp only[if_true,show(0:Nat)<4 by decide,show(1:Nat)<4 by decide,show(2:Nat)<4 by decide,show(3:Nat)<4 by decide]
  repeat' split
  all_goals omega
 rw[this];unfold Ubo;rw[Xf];omega
theorem Uht {x:Sta}(h:Ual x){j:Nat}(hj:j<4):(bits .and .u64 (U3 x 4 / 2 ^ j) 1==1)=Ujh x j:=by
 have h1:=h.2.2.1;unfold Ua0 at h1;obtain⟨o,ho⟩:∃o:Nat,x.out=(o:Int):=⟨x.out.toNat,by omega⟩;have key:∀a:Nat,a<18446744073709551616→bits .and .u64 (a:Int) 1=((a % 2:Nat):Int):=fun a ha=>by
  show IntKind.u64.wrap (((BitVec.ofInt 64 (a:Int) &&& BitVec.ofInt 64 ((1:Nat):Int)).toNat:Nat):Int)=_;have e:(BitVec.ofInt 64 (a:Int) &&& BitVec.ofInt 64 ((1:Nat):Int)).toNat=a % 2:=by
   rw[BitVec.toNat_and,BitVec.ofInt_natCast,BitVec.ofInt_natCast,BitVec.toNat_ofNat,BitVec.toNat_ofNat,Nat.mod_eq_of_lt (by omega),Nat.mod_eq_of_lt (by omega),Nat.and_one_is_mod]
  rw[e,Xg];omega
 have hb:∃b0 b1 b2 b3:Nat,b0≤1∧b1≤1∧b2≤1∧b3≤1∧U3 x 4=((16*o+b0+2*b1+4*b2+8*b3:Nat):Int)∧x.pose.bad=decide (b0=1)∧x.x0.bad=decide (b1=1)∧x.x1.bad=decide (b2=1)∧x.x2.bad=decide (b3=1):=by
  have f:∀(b:Bool) (n:Int),∃k:Nat,k≤1∧Unh b n=n*(k:Int)∧b=decide (k=1):=fun b n=>by
   cases b
   ·exact⟨0,by decide,by simp[Unh],rfl⟩
   ·exact⟨1,by decide,by simp[Unh],rfl⟩
  obtain⟨b0,p0,q0,r0⟩:=f x.pose.bad 1;obtain⟨b1,p1,q1,r1⟩:=f x.x0.bad 2;obtain⟨b2,p2,q2,r2⟩:=f x.x1.bad 4;obtain⟨b3,p3,q3,r3⟩:=f x.x2.bad 8;refine⟨b0,b1,b2,b3,p0,p1,p2,p3,?_,r0,r1,r2,r3⟩;simp[U3,q0,q1,q2,q3,ho];omega
 obtain⟨b0,b1,b2,b3,p0,p1,p2,p3,e,r0,r1,r2,r3⟩:=hb;have hq:U3 x 4 / 2 ^ j=(((16*o+b0+2*b1+4*b2+8*b3) / 2 ^ j:Nat):Int):=by rw[e];push_cast;rfl
 rw[hq,key _ (Nat.lt_of_le_of_lt (Nat.div_le_self _ _) (by omega))];rcases (show j=0∨j=1∨j=2∨j=3 by omega) with rfl|rfl|rfl|rfl
 ·show _=x.pose.bad;rw[r0,Bool.eq_iff_iff,beq_iff_eq,decide_eq_true_iff];omega
 ·show _=x.x0.bad;rw[r1,Bool.eq_iff_iff,beq_iff_eq,decide_eq_true_iff];omega
 ·show _=x.x1.bad;rw[r2,Bool.eq_iff_iff,beq_iff_eq,decide_eq_true_iff];omega
 ·show _=x.x2.bad;rw[r3,Bool.eq_iff_iff,beq_iff_eq,decide_eq_true_iff];omega
def Uf4 (x:Sta)(j:Nat):Sta:={ x with pose:={ x.pose with bad:=decide (0<j)&&x.pose.bad },x0:={ x.x0 with bad:=decide (1<j)&&x.x0.bad },x1:={ x.x1 with bad:=decide (2<j)&&x.x1.bad },x2:={ x.x2 with bad:=decide (3<j)&&x.x2.bad } }
theorem Uwq (x:Sta):Uf4 x 4=x:=by
 obtain⟨t,n,o,⟨q,w,b⟩,⟨a1,a2,a3,a4,a5,a6⟩,⟨b1,b2,b3,b4,b5,b6⟩,⟨c1,c2,c3,c4,c5,c6⟩⟩:=x;simp[Uf4]
theorem Ud4 (x:Sta){j:Nat}(hj:j<4):(Uf4 x (j+1)).list=(Uf4 x j).list.set (10+6*j) (.bool (Ujh x j)):=by
 rcases (show j=0∨j=1∨j=2∨j=3 by omega) with rfl|rfl|rfl|rfl<;>rfl
structure RdR (w:World) (gx gi:Nat) (v:Value) (cs:List Value) (k:Nat) (W:World):Prop where
 l:Box W w.heap.size 31 #[v]
 r:Box W (w.heap.size+1) 52 Uae.cells
 x:Box W gx 52 cs.toArray
 i:Box W gi 3 #[.int .i64 (k:Int)]
 lx:w.heap.size+1<gx
 li:gx<gi
 below:Below w.heap.size w W
section
variable {w W W':World} {gx gi:Nat} {v:Value} {cs:List Value} {k:Nat}
theorem RdR.chg {X:Nat→Prop}(H:RdR w gx gi v cs k W)(hc:Chg X W W')(hX:∀k,X k→∃o,W.heap[k]? = some o∧o.isCells=false)(hb:Below w.heap.size w W'):RdR w gx gi v cs k W':=by
 have hn:∀{g:Nat} {t:TypeId} {cs:Array Value},Box W g t cs→¬X g:=fun hb hx=>by
  obtain⟨o,ho,hc⟩:=hX _ hx;unfold Box at hb;rw[hb] at ho;cases ho;cases hc
 exact⟨H.l.chg hc (hn H.l),H.r.chg hc (hn H.r),H.x.chg hc (hn H.x),H.i.chg hc (hn H.i),H.lx,H.li,hb⟩
theorem RdR.kept (H:RdR w gx gi v cs k W)(hb:Below W.heap.size W W'):RdR w gx gi v cs k W':=⟨H.l.kept hb,H.r.kept hb,H.x.kept hb,H.i.kept hb,H.lx,H.li,Ua H.below hb H.below.size⟩
theorem RdR.setX (H:RdR w gx gi v cs k W)(o:Nat)(u:Value):RdR w gx gi v (cs.set o u) k (W.setCell ⟨gx,o,none⟩ u):=by
 have h1:=H.lx;have h2:=H.li;refine⟨H.l.far (by simp;omega) _,H.r.far (by simp;omega) _,?_,H.i.far (by simp;omega) _,H.lx,H.li,H.below.setCell (by simp;omega) _⟩;have:=H.x.set_ o u
 rwa [List.setIfInBounds_toArray] at this
theorem RdR.next (H:RdR w gx gi v cs k W):RdR w gx gi v cs (k+1) (W.setCell ⟨gi,0,none⟩ (.int .i64 ((k:Int)+1))):=by
 have h1:=H.lx;have h2:=H.li;exact⟨H.l.far (by simp;omega) _,H.r.far (by simp;omega) _,H.x.far (by simp;omega) _,H.i.set_ 0 _,H.lx,H.li,H.below.setCell (by simp;omega) _⟩
end
theorem U52 {α:Type}(w:World)(B' gx gi:Nat)(v:Value)(f:List α→List Value)(hB:w.heap.size≤B'):OwnFrom B' (fun(s:List α) W=>RdR w gx gi v (f s) s.length W):=fun s X Y row hs hg hr =>
 hs.chg (X:=fun k=>row=some k) (Chg.grown hg (fun k e=>e)) (fun k e=>(hr k e).2) (hs.below.grown hg hs.below.size (fun k e=>by have:=(hr k e).1;omega))
theorem Uwr {x:Sta}(h:Ual x){v:Value}{w:World}(hv:Yx w v (U0 x)):Calls prog 20 #[v] w (Ub (.tuple #[stv x,.int .i64 0]) w):=by
 have KS:=Qd (fun w=>Ucr x w);rw[Xi h] at KS;have HS:=Qd h;have hws:=Ubv x;obtain⟨A,c,rfl,hc1,hc2,-⟩:=hv.1.form;unfold maxLen at hc2;obtain⟨b,off,hA2,hbl,-⟩:=hv.at_ (k:=0) rfl (by omega);subst hA2
 have CW:Hid (∀k W,k<26→Below w.heap.size w W→W.cell? ⟨b,off+k,none⟩=some (.int .u64 ((U0 x).getD k 0))):=Qd (fun k W hk hb=>by
  obtain⟨b',off',e,_,hh⟩:=hv.at_ (k:=k) rfl (by omega);cases e
  exact(hb.cell (p:=⟨b,off+k,none⟩) hbl).trans hh)
 have HSUM:=Qd (U0b x)
 have KM:Hid (∀W,Below w.heap.size w W→Calls prog 31 #[.slice (some ⟨b,off,none⟩) 25 c] W (fun e w'=>e = .returned (.int .u64 (Uin ((U0 x).take 25)))∧W=w')):=Qd (fun W hb=>by
  have h5:Yx w (.slice (some ⟨b,off,none⟩) 25 c) ((U0 x).take 25):=by
   refine⟨?_,fun x hx=>hv.2 x (List.mem_of_mem_take hx)⟩;have:=Sl.take_ (k:=25) hv.1 (by omega);have e:((U0 x).take 25).length=25:=by rw[List.length_take];omega
   rw[e];simpa [Uam,List.map_take] using this
  exact Uhp (h5.below hb) (by rw[List.length_take];omega))
 have HAF:=Qd (Uwp h);have HT:=Qd (Utc x);have HTO:=Qd (U0c h);have HWV:=Qd hv.2;rw[hws] at hc1 ⊢;obtain⟨ws,hwse⟩:∃ws,U0 x=ws:=⟨_,rfl⟩;rw[hwse] at CW HSUM KM HAF HT HWV;have CS:Hid (∀W,Below w.heap.size w W→W.cell? ⟨b,off+25,none⟩=some (.int .u64 (Uin (ws.take 25)))):=Qd (fun W hb=>by rw[HSUM.out];exact CW.out 25 W (by omega) hb);have CT:Hid (∀W,Below w.heap.size w W→W.cell? ⟨b,off+2,none⟩=some (.int .u64 (U3 x 4))):=Qd (fun W hb=>by rw[←HT.out];exact CW.out 2 W (by omega) hb);obtain⟨tt,htt⟩:∃tt,U3 x 4=tt:=⟨_,rfl⟩;rw[htt] at CT HTO;have HTT:=Qd htt;obtain⟨sm,hsm⟩:∃sm,Uin (ws.take 25)=sm:=⟨_,rfl⟩;rw[hsm] at CS KM;have hc3:(26:Int)≤(c:Int):=by omega
 have D0:Hid (Box ((w.alloc (.cells #[.slice (some ⟨b,off,none⟩) 26 c] 31)).alloc (.cells Uae.cells 52)) w.heap.size 31 #[.slice (some ⟨b,off,none⟩) 26 c]∧Box ((w.alloc (.cells #[.slice (some ⟨b,off,none⟩) 26 c] 31)).alloc (.cells Uae.cells 52)) (w.heap.size+1) 52 Uae.cells∧Below w.heap.size w ((w.alloc (.cells #[.slice (some ⟨b,off,none⟩) 26 c] 31)).alloc (.cells Uae.cells 52))) :=
  Qd ⟨(Box.new _ _ _).alloc _,Box.at_ (by simp) _ _,((Xb _ w).alloc (Xa _) _).alloc (by simp) _⟩
 clear hv h hws hwse htt hsm HSUM HT;refine(callsIn_wide (n:=3)).1 ?_;refine callsIn_of_wp_marks func20 rfl trivial ?_ rfl;simp only[ntmps20,List.size_toArray,List.length_cons,List.length_nil,Nat.reduceAdd,Nat.reduceSub,Array.replicate_succ,Array.replicate_zero,List.push_toArray,List.append_toArray,List.nil_append,List.cons_append];refine wpIn_wide.2 ?_;go_upto_region 3 with fail
 refine Uq fun W0 hW0=>?_
 have D1:Hid (Box W0 w.heap.size 31 #[.slice (some ⟨b,off,none⟩) 26 c]∧Box W0 (w.heap.size+1) 52 Uae.cells∧Below w.heap.size w W0):=Qd (by rw[hW0];exact D0.out);clear hW0 D0;refine Uis ?_;refine Xm (S:=fun w'=>Box w' w.heap.size 31 #[.slice (some ⟨b,off,none⟩) 26 c]∧Below w.heap.size w w') (by kernel_rfl) ⟨D1.out.1.drew,Ue D1.out.2.2 1⟩ (fun hHeld=>?_);refine Qe 0 (.slice (some ⟨b,off,none⟩) 26 c) (fun w hw=>?_) ?_
 ·have xl:=hw.1.cell 0;go_simp
 simp only[Qz];refine Qe 1 (.slice (some ⟨b,off,none⟩) 25 c) (fun w hw=>?_) ?_
 ·go_simp;intro hh;omega
 simp only[Qz];refine Qe 3 (.slice (some ⟨b,off,none⟩) 26 c) (fun w hw=>?_) ?_
 ·have xl:=hw.1.cell 0;go_simp
 simp only[Qz];refine Qn 4 (.pointer (some ⟨b,off+25,none⟩)) ?_;refine Qe 5 (.int .u64 sm) (fun w hw=>?_) ?_
 ·have xs:=CS.out _ hw.2;go_simp
 simp only[Qz];refine Qc 2 fun KQ hKQ=>?_
 go_simp;refine(KM.out _ (Ue D1.out.2.2 1)).mono ?_;rintro e wc ⟨rfl,rfl⟩;refine hKQ.out _ _ ⟨D1.out.1.drew,Ue D1.out.2.2 1⟩ (fun hHeld=>?_);clear hKQ KQ;refine Qn 6 (.bool false) ?_;refine Xl (by kernel_rfl) ?_ _;simp only[Umn];go_upto_region 7 with fail
 refine Uq fun W2 hW2=>?_
 have R2:Hid (RdR w W0.heap.size (W0.heap.size+1) (.slice (some ⟨b,off,none⟩) 26 c) Uae.list 0 W2):=Qd (by
  rw[hW2]
  exact⟨(D1.out.1.drew.alloc _).alloc _,(D1.out.2.1.drew.alloc _).alloc _,(Box.new W0.drew _ _).alloc _,Box.at_ (by simp) _ _,D1.out.2.1.lt,by omega,((Ue D1.out.2.2 1).alloc D1.out.2.2.size _).alloc (by have:=D1.out.2.2.size;simp;omega) _⟩)
 clear hW2 hHeld D1 KM CS;generalize W0.heap.size=gx at *;go_wp2_with fail;refine(Uqv gx _).mono ?_;rintro e w6 ⟨A,c',gl,rfl,hE⟩;obtain⟨gr,c'',hA,hgr1,hgr2⟩:=hE.own.form (show 0<(Uek gx 3).length by rw[Udu];omega);rw[Udu] at hA;injection hA with hA1 hA2 hA3
 subst hA1 hA3;have R6:=Qd (R2.out.kept hE.below);have HL:=Qd (hE.l.cell 0);have HRR:Hid (w6.rangeAt gr 0 (Uj0.map (Uum gx))):=Qd (by rw[Uqz];exact fun j u hu=>by have:=hE.own.cells (g:=gr) rfl j u hu;rw[Ua7] at this;exact this);have hl1:=hE.l.lt;have hgi:gx+1<gr:=by have:=R2.out.i.lt;omega
 have hge6:=R6.out.below.size;clear hE R2 hA2 hgr1;go_wp2_with fail;refine U4j fun a0 ha0=>?_
 refine(wpIn_wide (n:=3)).1 ?_;refine wpIn_rangeFunc_ownF rfl (by omega) (gf:=68) (lb:=#[.pointer (some ⟨gl,0,none⟩)]) (by rw[ha0];rfl) trivial (enters_of func68 (by kernel_rfl) rfl)
  (Uly (Uum gx) 1 gl gr c' 25 Uj0 rfl (by omega) w6 HL.out HRR.out hl1 hgr2) (Ulx gr) (Uz6 hgr2) (Xb _ _) (fun _=>rfl)
  (fun pre W=>RdR w gx (gx+1) (.slice (some ⟨b,off,none⟩) 26 c) (Uee ws pre) pre.length W) (fun _ _ _=>False) (U52 w _ gx (gx+1) _ (fun pre=>Uee ws pre) hge6) (fun _ _ _ _ _ hs _ _=>hs)
  R6.out
  (fun z=>⟨(a0.tmps.setIfInBounds 22 (Uum gx z)).setIfInBounds 6 (Uum gx z),[]⟩)
  ?assign ?body ?done ?stop
 case assign =>
  intro l z W K hK;rw[ha0] at hK ⊢;simp only[Qz] at hK
  gi_wp2
  exact hK
 case body =>
  rintro l pre z W H1 hlt;rw[ha0];simp only[Qz];have HH:=Qd H1;clear H1;obtain⟨n,hn⟩:∃n,pre.length=n:=⟨_,rfl⟩;have HNN:=Qd hn;have HSN:=Qd (Uta ws pre z);have HAL:=Qd (Uwn ws pre);rw[hn] at hlt HH HSN;clear hn;generalize Uee ws pre=cs at *;have ci:=HH.out.i.cell 0;have fi:=HH.out.i.frozen 0;have hw1:IntKind.i64.wrap ((n:Int)+1)=(n:Int)+1:=by rw[Xf];omega
  have hni:(n:Int)<26:=by omega
  have hn0:(0:Int)≤(n:Int):=by omega
  cases z with
  | none =>
   simp only[Uum]
   gi_wp2
   have HK:Hid (KeepsOthers W (W.setCell ⟨gx+1,0,none⟩ (.int .i64 ((n:Int)+1)))∧Ujy gr W (W.setCell ⟨gx+1,0,none⟩ (.int .i64 ((n:Int)+1)))∧RdR w gx (gx+1) (.slice (some ⟨b,off,none⟩) 26 c) (Uee ws (pre++[none])) (pre++[(none:Option Fld)]).length (W.setCell ⟨gx+1,0,none⟩ (.int .i64 ((n:Int)+1)))) :=
    Qd ⟨KeepsOthers.setCell _ _ _,Below.heap_setCell W _ _ gr (by simp;omega),by rw[HSN.out,List.length_append,HNN.out];exact HH.out.next⟩
   exact HK.out
  | some f =>
   obtain⟨fo,fok⟩:=f;simp only[Uum,ptr];have hfo:=U7v fok;have cl:=HH.out.l.cell 0;have cw:=CW.out n W (by omega) HH.out.below;obtain⟨u0,hu0⟩:∃u,cs[fo]? = some u:=⟨cs[fo]'(by rw[HAL.out];exact hfo),Xj _⟩;have cx:W.cell? ⟨gx,fo,none⟩=some u0:=(HH.out.x.cell fo).trans (by simpa using hu0);have fx:=HH.out.x.frozen fo;have HI:Hid (IntKind.i64.wrap (ws.getD n 0)=Ubo (ws.getD n 0)):=Qd rfl;have HSE:Hid (U61 ws cs (some ⟨fo,fok⟩,n)=cs.set fo (.int .i64 (Ubo (ws.getD n 0)))):=Qd rfl;rw[HSE.out] at HSN;clear HSE hu0;generalize ws.getD n 0=wn at *;generalize Ubo wn=iv at *;have hconv:=HI.out
   gi_wp2
   have HK:Hid (KeepsOthers W ((W.setCell ⟨gx,fo,none⟩ (.int .i64 iv)).setCell ⟨gx+1,0,none⟩ (.int .i64 ((n:Int)+1)))∧Ujy gr W ((W.setCell ⟨gx,fo,none⟩ (.int .i64 iv)).setCell ⟨gx+1,0,none⟩ (.int .i64 ((n:Int)+1)))∧RdR w gx (gx+1) (.slice (some ⟨b,off,none⟩) 26 c) (Uee ws (pre++[some ⟨fo,fok⟩])) (pre++[(some ⟨fo,fok⟩:Option Fld)]).length ((W.setCell ⟨gx,fo,none⟩ (.int .i64 iv)).setCell ⟨gx+1,0,none⟩ (.int .i64 ((n:Int)+1)))) :=
    Qd ⟨(KeepsOthers.setCell _ _ _).trans (KeepsOthers.setCell _ _ _),Ulx gr (Below.heap_setCell W _ _ gr (by simp;omega)) (Below.heap_setCell _ _ _ gr (by simp;omega)),by rw[HSN.out,List.length_append,HNN.out];exact(HH.out.setX fo _).next⟩
   exact HK.out
 case done =>
  rintro D ys W hD rfl H1 hK;rw[ha0];clear ha0;rw[HAF.out] at H1;have HR:=Qd H1;have HD:=Qd hD;clear H1 hD;have ct:=CT.out W HR.out.below;have cl:=HR.out.l.cell 0;have cx:W.cell? ⟨gx,2,none⟩=some (.int .i64 0):=HR.out.x.cell 2;have fx:=HR.out.x.frozen 2;dsimp only[Exit.inBlock,Exit.then];have hconv:=HTO.out;unfold Ubo at hconv;have HTO2:=Qd hconv;clear HTO;obtain⟨xo,hxo⟩:∃xo,x.out=xo:=⟨_,rfl⟩;rw[hxo] at hconv;have HXO:=Qd hxo;clear hxo HTO2;go_upto_region 13 with fail
  refine Uq fun W3 hW3=>?_
  have R3:Hid (RdR w gx (gx+1) (.slice (some ⟨b,off,none⟩) 26 c) (Uf4 x 0).list 25 W3∧W3.heap[D]? = some (.deferred (some []))):=Qd (by
   rw[hW3]
   exact⟨by have:=HR.out.setX 2 (.int .i64 xo);rw[←HXO.out] at this ⊢;exact this,(Below.heap_setCell W _ _ D (by have:=HR.out.lx;have:=HR.out.li;have:=HD.out;simp;omega)).trans hK⟩)
  clear hW3 HR hK ct cl cx fx hconv;have KF:=Qd (fun W=>Ung gx W);obtain⟨FA,hFA⟩:∃FA,(Ud3 gx).toArray=FA:=⟨_,rfl⟩;rw[hFA] at KF;have HFA:=Qd hFA;clear hFA;go_wp2_with fail;refine(KF.out _).mono ?_;rintro e w3 ⟨rfl,hb⟩;have R4:=Qd (Xc (R3.out.1.kept hb) ((hb.block D (Array.getElem?_eq_some_iff.1 R3.out.2).1).trans R3.out.2));clear hb R3 KF;go_wp2_with fail;go_loopw [41] (fun i wr=>∃j:Nat,j≤4∧i = .int .i64 (j:Int)∧Hid (RdR w gx (gx+1) (.slice (some ⟨b,off,none⟩) 26 c) (Uf4 x j).list 25 wr∧wr.heap[D]? = some (.deferred (some [])))) (fun i _=>4-(intOf i).toNat)
  case atStart=>exact⟨0,by omega,rfl,R4⟩
  case round =>
   obtain⟨j,hj,rfl,HR⟩:=hrel;clear R4;by_cases hlt:j<4
   ·rcases (show j=0∨j=1∨j=2∨j=3 by omega) with rfl|rfl|rfl|rfl
    rotate_right
    focus
     have ix:∀W,(Instr.index 109 (.agg FA) (.int .i64 3)).run prog W = .ok (.pointer (some ⟨gx,28,none⟩)) W:=by rw[←HFA.out];exact Ub9 gx (j:=3) (by omega)
     have xb:=HR.out.1.x.frozen 28
    rotate_right
    focus
     have ix:∀W,(Instr.index 109 (.agg FA) (.int .i64 2)).run prog W = .ok (.pointer (some ⟨gx,22,none⟩)) W:=by rw[←HFA.out];exact Ub9 gx (j:=2) (by omega)
     have xb:=HR.out.1.x.frozen 22
    rotate_right
    focus
     have ix:∀W,(Instr.index 109 (.agg FA) (.int .i64 1)).run prog W = .ok (.pointer (some ⟨gx,16,none⟩)) W:=by rw[←HFA.out];exact Ub9 gx (j:=1) (by omega)
     have xb:=HR.out.1.x.frozen 16
    rotate_right
    focus
     have ix:∀W,(Instr.index 109 (.agg FA) (.int .i64 0)).run prog W = .ok (.pointer (some ⟨gx,10,none⟩)) W:=by rw[←HFA.out];exact Ub9 gx (j:=0) (by omega)
     have xb:=HR.out.1.x.frozen 10
    all_goals
     have xl:=HR.out.1.l.cell 0;have xt:=CT.out _ HR.out.1.below
    rotate_right
    focus
     have hb0:(bits .and .u64 (tt / 8) 1==1)=Ujh x 3:=by rw[←HTT.out];exact Uht HS.out (j:=3) (by omega)
     have HNX:=Qd (Ud4 x (j:=3) (by omega));have HSX:Hid ((Uf4 x 3).list[28]? = some (.bool false)):=Qd rfl;have xc:wr.cell? ⟨gx,28,none⟩=some (.bool false):=by have h1:=HR.out.1.x.cell 28;rw[List.getElem?_toArray] at h1;exact h1.trans HSX.out
     clear HSX;obtain⟨bj,hbj⟩:∃b,Ujh x 3=b:=⟨_,rfl⟩
    rotate_right
    focus
     have hb0:(bits .and .u64 (tt / 4) 1==1)=Ujh x 2:=by rw[←HTT.out];exact Uht HS.out (j:=2) (by omega)
     have HNX:=Qd (Ud4 x (j:=2) (by omega));have HSX:Hid ((Uf4 x 2).list[22]? = some (.bool false)):=Qd rfl;have xc:wr.cell? ⟨gx,22,none⟩=some (.bool false):=by have h1:=HR.out.1.x.cell 22;rw[List.getElem?_toArray] at h1;exact h1.trans HSX.out
     clear HSX;obtain⟨bj,hbj⟩:∃b,Ujh x 2=b:=⟨_,rfl⟩
    rotate_right
    focus
     have hb0:(bits .and .u64 (tt / 2) 1==1)=Ujh x 1:=by rw[←HTT.out];exact Uht HS.out (j:=1) (by omega)
     have HNX:=Qd (Ud4 x (j:=1) (by omega));have HSX:Hid ((Uf4 x 1).list[16]? = some (.bool false)):=Qd rfl;have xc:wr.cell? ⟨gx,16,none⟩=some (.bool false):=by have h1:=HR.out.1.x.cell 16;rw[List.getElem?_toArray] at h1;exact h1.trans HSX.out
     clear HSX;obtain⟨bj,hbj⟩:∃b,Ujh x 1=b:=⟨_,rfl⟩
    rotate_right
    focus
     have hb0:(bits .and .u64 tt 1==1)=Ujh x 0:=by rw[←HTT.out];have:=Uht HS.out (j:=0) (by omega);rwa [show((2:Int) ^ 0)=1 from rfl,Int.ediv_one] at this
     have HNX:=Qd (Ud4 x (j:=0) (by omega));have HSX:Hid ((Uf4 x 0).list[10]? = some (.bool false)):=Qd rfl;have xc:wr.cell? ⟨gx,10,none⟩=some (.bool false):=by have h1:=HR.out.1.x.cell 10;rw[List.getElem?_toArray] at h1;exact h1.trans HSX.out
     clear HSX;obtain⟨bj,hbj⟩:∃b,Ujh x 0=b:=⟨_,rfl⟩
    all_goals
     rw[hbj] at hb0 HNX;clear hbj;go_upto_region 16 with fail
     go_wp2_with fail;clear ix xb xl xt xc
    ·go_roundw
     case rel=>exact⟨0+1,by omega,by go_num,by rw[HNX.out];exact Qd ⟨HR.out.1.setX 10 _,(Below.heap_setCell _ _ _ D (by have:=HR.out.1.li;have:=HR.out.1.lx;have:=HD.out;simp;omega)).trans HR.out.2⟩⟩
     case measure=>simp[intOf]
    ·go_roundw
     case rel=>exact⟨1+1,by omega,by go_num,by rw[HNX.out];exact Qd ⟨HR.out.1.setX 16 _,(Below.heap_setCell _ _ _ D (by have:=HR.out.1.li;have:=HR.out.1.lx;have:=HD.out;simp;omega)).trans HR.out.2⟩⟩
     case measure=>simp[intOf]
    ·go_roundw
     case rel=>exact⟨2+1,by omega,by go_num,by rw[HNX.out];exact Qd ⟨HR.out.1.setX 22 _,(Below.heap_setCell _ _ _ D (by have:=HR.out.1.li;have:=HR.out.1.lx;have:=HD.out;simp;omega)).trans HR.out.2⟩⟩
     case measure=>simp[intOf]
    ·go_roundw
     case rel=>exact⟨3+1,by omega,by go_num,by rw[HNX.out];exact Qd ⟨HR.out.1.setX 28 _,(Below.heap_setCell _ _ _ D (by have:=HR.out.1.li;have:=HR.out.1.lx;have:=HD.out;simp;omega)).trans HR.out.2⟩⟩
     case measure=>simp[intOf]
   ·obtain rfl:j=4:=by omega
    rw[Uwq] at HR;go_upto_region 18 with fail
    refine Uq fun W8 hW8=>?_
    have R8:=Qd HR.out;rw[←hW8] at R8;clear hW8 HR;have HXS:Hid ((prog.info? 52).map (·.size)=some x.cells.size):=Qd Yj;have HXZ:Hid ((prog.info? 52).map (·.size)=some Uae.cells.size):=Qd Yj;have BX:Hid (Box W8 gx 52 x.cells):=Qd R8.out.1.x;have BR:Hid (Box W8 (w.heap.size+1) 52 Uae.cells):=Qd R8.out.1.r;go_wp2_with (with_reducible first|refine Qg 52 ?_);refine Uo.go gx rfl BX.out underlying52 rfl HXS.out ?_;rw[show Value.agg x.cells=stv x from rfl];go_wp2_with fail;refine(KS.out _).mono ?_;rintro e w9 ⟨rfl,hb⟩;have R9:=Qd (Xc (R8.out.1.kept hb) ((hb.block D (Array.getElem?_eq_some_iff.1 R8.out.2).1).trans R8.out.2));clear hb R8 BX BR;have BX:Hid (Box w9 gx 52 x.cells):=Qd R9.out.1.x;have BR:Hid (Box w9 (w.heap.size+1) 52 Uae.cells):=Qd R9.out.1.r;go_wp2_with (with_reducible first|refine Qg 52 ?_|refine Qh 52 ?_);refine Uo.go gx rfl BX.out underlying52 rfl HXS.out ?_;go_wp2_with (with_reducible first|refine Qg 52 ?_|refine Qh 52 ?_);refine Uf.go (w.heap.size+1) rfl rfl BR.out Yj rfl (Sta.one _) ?_;refine Udg fun W9 hW9=>?_
    have HBR:Hid (Box W9 (w.heap.size+1) 52 x.cells):=Qd (by rw[hW9];exact BR.out.row _)
    have HBD:Hid (W9.heap[D]? = some (.deferred (some []))∧Below w.heap.size w W9):=Qd (by
     have h1:=HD.out;have h2:=R9.out.1.lx;have h3:=R9.out.1.li
     rw[hW9];exact⟨(setRow_other _ (w.heap.size+1) D _ (by omega)).trans R9.out.2,Uc R9.out.1.below (by omega) _⟩)
    clear hW9 R9 BX BR;go_wp2_with fail;refine⟨by simp,.inl ⟨_,_,rfl,run_takeDeferred HBD.out.1,?_⟩⟩;have hpo:=grownBy_putObj' W9 D (.deferred none);have HB':Hid (Box (W9.putObj D (.deferred none)) (w.heap.size+1) 52 x.cells):=Qd ((hpo.block _ HBR.out.lt (fun e=>by injection e with e;have h1:=HD.out;have h2:=HBR.out.lt;subst e;have h3:=HBR.out;have h4:=HBD.out.1;unfold Box at h3;rw[h3] at h4;cases h4)).trans HBR.out);refine⟨_,Ud results20 _ _ (w.heap.size+1) 52 _ (0,0) _ rfl HB'.out underlying52 rfl Yj,?_⟩;exact⟨rfl,HBD.out.2.grown hpo HBD.out.2.size (fun k e=>by injection e with e;have:=HD.out;omega)⟩
 case stop =>
  rintro D c pre W _ _ h _;exact h.elim
end Go.Proofs.YtdaflmjfeoacaaaGreat
namespace Go.Proofs.YtdaflmjfeoacaaaGreat
open Tryz
open Go.RowKit Go.Shelf
theorem Uhu {X:Nat→Prop}{w:World}{v:Value}{size n:Nat}{xs:List Value}(h:Sl w v size n xs)(ho:Ud0 X v):Ud0 (fun k=>X k∨w.heap.size≤k) v:=fun a n c e hn hx=>by
 obtain⟨_,A',c',e',_,_,_,h3⟩:=h;rw[e] at e';injection e' with e1 e2 _
 subst e1 e2;obtain⟨ad,ha,hb,_⟩:=h3 hn;injection ha with ha
 subst ha;rcases hx with hx|hx
 ·exact ho _ _ _ e hn hx
 ·omega
def WdX (X:Nat→Prop)(w:World)(v:Value)(ws:List Int):Prop:=Yx w v ws∧Ud0 X v
def WsX (X:Nat→Prop)(w:World)(v:Value)(es:List Value)(ls:List (List Int)):Prop:=es.length=ls.length∧Sl w v 1 es.length es∧Ud0 X v∧∀i,i<ls.length→WdX X w (es.getD i (.bool false)) (ls.getD i [])
section
variable {X:Nat→Prop} {w w':World} {v:Value} {es:List Value} {ws:List Int} {ls:List (List Int)}
theorem WdX.chg (h:WdX X w v ws)(hc:Chg X w w'):WdX X w' v ws:=⟨⟨h.1.1.chg h.2 hc,h.1.2⟩,h.2⟩
theorem WdX.low (h:WdX X w v ws):WdX (fun k=>X k∨w.heap.size≤k) w v ws:=⟨h.1,Uhu h.1.1 h.2⟩
theorem WdX.mono {Y:Nat→Prop}(h:WdX X w v ws)(hY:∀k,Y k→X k):WdX Y w v ws:=⟨h.1,h.2.mono hY⟩
theorem WsX.chg (h:WsX X w v es ls)(hc:Chg X w w'):WsX X w' v es ls:=⟨h.1,h.2.1.chg h.2.2.1 hc,h.2.2.1,fun i hi=>(h.2.2.2 i hi).chg hc⟩
theorem WsX.below (h:WsX X w v es ls)(hb:Below w.heap.size w w'):WsX X w' v es ls:=h.chg (Chg.of hb)
theorem WsX.low (h:WsX X w v es ls):WsX (fun k=>X k∨w.heap.size≤k) w v es ls:=⟨h.1,h.2.1,Uhu h.2.1 h.2.2.1,fun i hi=>(h.2.2.2 i hi).low⟩
theorem WsX.mono {Y:Nat→Prop}(h:WsX X w v es ls)(hY:∀k,Y k→X k):WsX Y w v es ls:=⟨h.1,h.2.1,h.2.2.1.mono hY,fun i hi=>(h.2.2.2 i hi).mono hY⟩
theorem WsX.nil (X:Nat→Prop)(w:World):WsX X w (.slice none 0 0) [] []:=⟨rfl,Sl.nil w 1,Ud0.nil _ _ _,fun i hi=>by simp at hi⟩
theorem WsX.form (h:WsX X w v es ls):∃A c,v = .slice A ls.length c∧ls.length≤c∧c≤maxLen:=by
 obtain⟨A,c,e,h1,h2,_⟩:=h.2.1.form;rw[h.1] at e h1;exact⟨A,c,e,h1,h2⟩
theorem WsX.at_ {A:Option Addr}{n c k:Nat}(h:WsX X w (.slice A n c) es ls)(hk:k<ls.length):∃b off u,A=some ⟨b,off,none⟩∧b<w.heap.size∧w.cell? ⟨b,off+k,none⟩=some u∧WdX X w u (ls.getD k []):=by
 have hn:n=es.length:=by
  obtain⟨_,A',c',e,_⟩:=h.2.1;injection e
 subst hn;have hke:k<es.length:=by rw[h.1];exact hk
 obtain⟨b,off,rfl,hb,hc⟩:=Sl.at_ h.2.1 (by omega) (by omega);refine⟨b,off,es.getD k (.bool false),rfl,hb,hc k _ ?_,h.2.2.2 k hk⟩;simp[List.getD_eq_getElem?_getD,Xj hke]
end
structure Brd where
 ring:List (List (List Int))
 drops:List Int
 m:Mrg
 x:Sta
 ver:Int
def Unj (ls:List (List Int)):Prop:=ls.length≤8∧∀ws,ws∈ls→ws.length=6
structure Uba (b:Brd):Prop where
 rl:b.ring.length=4
 dl:b.drops.length=4
 ring:∀k,k<4→Unj (b.ring.getD k [])
 drops:∀k,k<4→Ua0 (b.drops.getD k 0)
 m:Uaz b.m
 x:Ual b.x
 ver:Ua0 b.ver
def Zt (b:Brd)(rs vs:List Value):List Value:=rs++b.drops.map (Value.int .i64)++Ul b.m vs++b.x.list++[.int .i64 b.ver]
def bcs (b:Brd)(rs vs:List Value):Array Value:=(Zt b rs vs).toArray
def bv (b:Brd)(rs vs:List Value):Value := .agg (bcs b rs vs)
structure BrX (X:Nat→Prop) (w:World) (rs vs:List Value) (b:Brd):Prop where
 len:rs.length=4
 at_:∀k,k<4→∃es,WsX X w (rs.getD k (.bool false)) es (b.ring.getD k [])
 q:QsX X w vs b.m
section
variable {X:Nat→Prop} {w w':World} {rs vs:List Value} {b:Brd} {g:Nat} {t:TypeId}
theorem BrX.chg (h:BrX X w rs vs b)(hc:Chg X w w'):BrX X w' rs vs b:=⟨h.len,fun k hk=>by obtain⟨es,he⟩:=h.at_ k hk;exact⟨es,he.chg hc⟩,h.q.chg hc⟩
theorem BrX.below (h:BrX X w rs vs b)(hb:Below w.heap.size w w'):BrX X w' rs vs b:=h.chg (Chg.of hb)
theorem BrX.low (h:BrX X w rs vs b):BrX (fun k=>X k∨w.heap.size≤k) w rs vs b:=⟨h.len,fun k hk=>by obtain⟨es,he⟩:=h.at_ k hk;exact⟨es,he.low⟩,h.q.low⟩
theorem BrX.mono {Y:Nat→Prop}(h:BrX X w rs vs b)(hY:∀k,Y k→X k):BrX Y w rs vs b:=⟨h.len,fun k hk=>by obtain⟨es,he⟩:=h.at_ k hk;exact⟨es,he.mono hY⟩,h.q.mono hY⟩
theorem Ud5:(prog.info? 63).map (·.size)=some 57:=by kernel_rfl
theorem Uu {m:Mrg}(hv:vs.length=4)(hn:m.n.length=7):(Ul m vs).length=19:=by simp[Ul,hv,hn]
theorem Unk (h:BrX X w rs vs b)(hs:Uba b):(Zt b rs vs).length=57:=by simp[Zt,h.len,hs.dl,Uu h.q.len h.q.nl,Sta.list,Pos.list,Axs.list,V4.list,V3.list]
theorem Ub1 (h:BrX X w rs vs b)(hs:Uba b):(bcs b rs vs).size=57:=Unk h hs
theorem Uav (h:BrX X w rs vs b)(hs:Uba b):(prog.info? 63).map (·.size)=some (bcs b rs vs).size:=by rw[Ub1 h hs];exact Ud5
theorem Ubp (h:BrX X w rs vs b):(bcs b rs vs).all (·.oneCell')=true:=by
 have h1:=Uah h.q;have h2:b.x.list.toArray.all (·.oneCell')=true:=Sta.one _;have h3:∀u,u∈rs→u.oneCell'=true:=by
  obtain⟨v0,v1,v2,v3,e⟩:=Uz1 h.len;have k0:=h.at_ 0 (by omega);have k1:=h.at_ 1 (by omega);have k2:=h.at_ 2 (by omega);have k3:=h.at_ 3 (by omega);rw[e] at k0 k1 k2 k3 ⊢;obtain⟨_,k0⟩:=k0;obtain⟨_,k1⟩:=k1;obtain⟨_,k2⟩:=k2;obtain⟨_,k3⟩:=k3;have:=Uec k0.2.1;have:=Uec k1.2.1;have:=Uec k2.2.1;have:=Uec k3.2.1;intro u hu;simp at hu;rcases hu with rfl|rfl|rfl|rfl<;>simpa
 simp only[mcs,List.all_toArray,List.all_eq_true] at h1 h2;simp only[bcs,List.all_toArray,List.all_eq_true,Zt,List.mem_append];rintro u ((((hu|hu)|hu)|hu)|hu)
 ·exact h3 u hu
 ·obtain⟨n,_,rfl⟩:=List.mem_map.1 hu;rfl
 ·exact h1 u hu
 ·exact h2 u hu
 ·simp at hu;subst hu;rfl
theorem U7w {k:Nat}(h:Box w g t (bcs b rs vs))(hr:rs.length=4)(hk:k<4):w.cell? ⟨g,k,none⟩=some (rs.getD k (.bool false)):=by
 rw[h.cell,bcs,Zt];simp only[List.getElem?_toArray,List.append_assoc];rw[List.getElem?_append_left (by omega)];simp[List.getD_eq_getElem?_getD,Xj (show k<rs.length by omega)]
theorem U0i (h:Box w g t (bcs b rs vs)):w.rangeAt g 0 rs:=Box.midRange (A:=[]) (C:=b.drops.map (Value.int .i64)++Ul b.m vs++b.x.list++[.int .i64 b.ver]) (by simpa [bcs,Zt] using h) rfl
theorem Uuq {k:Nat}(h:Box w g t (bcs b rs vs))(hr:rs.length=4)(hd:b.drops.length=4)(hk:k<4):w.cell? ⟨g,4+k,none⟩=some (.int .i64 (b.drops.getD k 0)):=by
 rw[h.cell,bcs,Zt];simp only[List.getElem?_toArray,List.append_assoc];rw[List.getElem?_append_right (by omega),List.getElem?_append_left (by simp[hr,hd];omega)];rw[show 4+k-rs.length=k by omega,List.getElem?_map,Xj (by omega)];simp[List.getD_eq_getElem?_getD,Xj (show k<b.drops.length by omega)]
theorem b_m (h:Box w g t (bcs b rs vs))(hr:rs.length=4)(hd:b.drops.length=4):w.rangeAt g 8 (Ul b.m vs):=Box.midRange (A:=rs++b.drops.map (Value.int .i64)) (C:=b.x.list++[.int .i64 b.ver]) (by simpa [bcs,Zt] using h) (by simp[hr,hd])
theorem b_x (h:Box w g t (bcs b rs vs))(hr:rs.length=4)(hd:b.drops.length=4)(hv:vs.length=4)(hn:b.m.n.length=7):w.rangeAt g 27 b.x.list:=Box.midRange (A:=rs++b.drops.map (Value.int .i64)++Ul b.m vs) (C:=[.int .i64 b.ver]) (by simpa [bcs,Zt] using h) (by simp[hr,hd,Uu hv hn])
theorem U7x (h:Box w g t (bcs b rs vs))(hr:rs.length=4)(hd:b.drops.length=4)(hv:vs.length=4)(hn:b.m.n.length=7):w.cell? ⟨g,56,none⟩=some (.int .i64 b.ver):=by
 have:=Box.midRange (w:=w) (g:=g) (t:=t) (A:=rs++b.drops.map (Value.int .i64)++Ul b.m vs++b.x.list) (B:=[.int .i64 b.ver]) (C:=[]) (o:=56) (by simpa [bcs,Zt] using h) (by simp[hr,hd,Uu hv hn,Sta.list,Pos.list,Axs.list,V4.list,V3.list]);exact this 0 _ rfl
end
theorem Uc1 (n:Int)(h:Ua0 n)(w:World):Calls prog 75 #[.int .i64 n] w (fun e w'=>e = .returned (.bool true)∧w=w'):=by
 unfold Ua0 at h;have e1:decide (0≤n)=true:=Xi h.1;have e2:decide (n≤1099511627776)=true:=Xi h.2;clear h;go_enter func75,ntmps75;go_wp2_with fail;go_ret;exact⟨rfl,rfl⟩
theorem Uq3 {v:Value}{ws:List Int}{w:World}(h:Yx w v ws)(h6:ws.length=6):Calls prog 57 #[v] w (fun e w'=>e = .returned (.bool false)∧w=w'):=by
 obtain⟨A,c,rfl,-,-,-⟩:=h.1.form;rw[h6];clear h h6;go_enter func57,ntmps57;go_wp2_with fail;go_ret;exact⟨by simp,rfl⟩
theorem U0j {X:Nat→Prop}{v:Value}{es:List Value}{ls:List (List Int)}{w:World}(h:WsX X w v es ls)(hl:Unj ls):Calls prog 58 #[v,.func (.func 57) #[] #[]] w (Ub (.int .i64 (-1)) w):=by
 obtain⟨A,c,rfl,hc1,hc2⟩:=h.form;have HH:=Qd h;have HB:=Qd (fun k (hk:k<ls.length)=>hl.2 (ls.getD k []) (by rw[List.getD_eq_getElem?_getD,Xj hk];exact List.getElem_mem hk));have hl1:=hl.1;clear h hl;generalize hn:ls.length=n at *;have HN:=Qd hn;clear hn;unfold maxLen at hc2;go_enter func58,ntmps58;go_wp2_with fail;go_loopw [8] (fun i wr=>∃k:Nat,k≤n∧i = .int .i64 (k:Int)∧Hid (Below w.heap.size w wr)) (fun i _=>n-(intOf i).toNat)
 case atStart=>exact⟨0,Nat.zero_le _,rfl,Qd (Xb _ _)⟩
 case round =>
  obtain⟨k,hk,rfl,HR⟩:=hrel;by_cases hlt:k<n
  ·obtain⟨b,off,u,rfl,hb,hu,hd⟩:=(HH.out.below HR.out).at_ (k:=k) (by rw[HN.out];exact hlt);have HC:=Qd (Uq3 hd.1 (HB.out k hlt));have hki:(k:Int)<n:=by omega
   have hk0:(0:Int)≤k:=by omega
   clear hd;go_wp2_with fail;refine HC.out.mono ?_;rintro e w1 ⟨rfl,rfl⟩;go_wp2_with fail;go_roundw
   case rel=>exact⟨k+1,by omega,by simp,HR⟩
   case measure=>simp[intOf];omega
  ·obtain rfl:k=n:=by omega
   go_wp2_with fail;go_ret;exact⟨rfl,HR.out⟩
theorem Uhv {X:Nat→Prop}{v:Value}{es:List Value}{ls:List (List Int)}{w:World}(h:WsX X w v es ls)(hl:Unj ls):Calls prog 74 #[v,.func (.func 57) #[] #[]] w (Ub (.bool false) w):=by
 have K:=Qd (U0j h hl);clear h hl;go_enter func74,ntmps74;go_wp2_with fail;refine K.out.mono ?_;rintro e w1 ⟨rfl,hb⟩;have HB:=Qd hb;clear hb;go_wp2_with fail;go_ret;exact⟨rfl,HB.out⟩
end Go.Proofs.YtdaflmjfeoacaaaGreat
