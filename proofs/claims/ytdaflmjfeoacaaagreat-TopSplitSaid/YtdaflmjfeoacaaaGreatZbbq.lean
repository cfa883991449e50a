/- Part of the proof of TopTry, TopSplit: BeP, PlB. Conditions: none. -/
import Derived.Test.YtdaflmjfeoacaaaGreatZbbp
import Derived.Test.YtdaflmjfeoacaaaGreatZbad
import Derived.Test.YtdaflmjfeoacaaaGreatZbbl
set_option linter.all false
set_option maxHeartbeats 16000000
set_option maxRecDepth 4000
namespace Go.Proofs.YtdaflmjfeoacaaaGreat
open Tryz
open Go.RowKit Go.Shelf
def Uf5 (T:FT)(w:World)(e:Ending)(w':World):Prop :=
 ∃v,e = .returned (.tuple #[v,.bool (Uf8 T)])∧WdX (fun j=>j<w.heap.size) w' v (Z3 T)∧Below w.heap.size w w'
theorem Uf5.nope {T:FT}{w w':World}(h:¬(T.t.done=true∧T.t.ans=1))(hb:Below w.heap.size w w'):Uf5 T w (.returned (.tuple #[.slice none 0 0,.bool false])) w':=by
 have hB:Uf8 T=false:=Xh h;refine⟨.slice none 0 0,by rw[hB],⟨?_,Ud0.nil _ _ _⟩,hb⟩;unfold Z3;rw[hB];exact Yx.nil _
theorem Uf5.yes {T:FT}{w w':World}{v:Value}(h:T.t.done=true∧T.t.ans=1)(hv:WdX (fun j=>j<w.heap.size) w' v ((T.t.regs.drop 1).take 6))(hb:Below w.heap.size w w'):Uf5 T w (.returned (.tuple #[v,.bool true])) w':=by
 have hB:Uf8 T=true:=Xi h;refine⟨v,by rw[hB],?_,hb⟩;unfold Z3;rw[hB];exact hv
set_option maxRecDepth 20000 in
theorem Utj {v:Value}{T:FT}{w:World}(h:Yz w v T):Calls prog 64 #[v] w (Uf5 T w):=by
 obtain⟨cv,rfl,hI,ht,hc⟩:=h;have h32:=ht.1;have e34:=Ua2 (cv:=cv) h32;have e35:=Ug7 (cv:=cv) h32;have HR:=Qd (fun i (hi:i<32)=>Ucp (cv:=cv) h32 hi);have HW:=Qd ht.2.1;have HH:=Qd h32;have HB0:Hid (∀o,Below w.heap.size w (w.alloc o)):=Qd fun o=>(Xb _ w).alloc (Xa _) o
 generalize Us cv T.t=C at *;clear hI ht hc h32;by_cases hd:¬T.t.done=true
 ·have hd':T.t.done=false:=by simpa using hd
  rw[hd'] at e34;have F:=Qd (fun w' hb=>Uf5.nope (w:=w) (w':=w') (fun h=>hd h.1) hb);clear hd hd';go_enter func64,ntmps64;go_wp2;go_ret2;exact F.out _ (HB0.out _)
 have hd':=Decidable.not_not.1 hd;rw[hd'] at e34;by_cases ha:¬T.t.ans=1
 ·have hne:(T.t.ans != 1)=true:=by simpa using ha
  have F:=Qd (fun w' hb=>Uf5.nope (w:=w) (w':=w') (fun h=>ha h.2) hb);clear hd hd';go_enter func64,ntmps64;go_wp2;go_ret2;exact F.out _ (HB0.out _)
 have ha':=Decidable.not_not.1 ha;rw[ha'] at e35;obtain⟨hcl,hcg⟩:=Ut3 HH.out (show 6≤28 by omega);have F:Hid (∀v w',WdX (fun j=>j<w.heap.size) w' v ((T.t.regs.drop 1).take 6)→Below w.heap.size w w'→Uf5 T w (.returned (.tuple #[v,.bool true])) w'):=Qd fun v w' hv hb=>Uf5.yes ⟨hd',ha'⟩ hv hb
 have HCW:Hid (∀x∈(T.t.regs.drop 1).take 6,W64 x):=Qd fun x hx=>HW.out x (List.mem_of_mem_drop (List.mem_of_mem_take hx))
 have HSL:Hid (∀W,Box W w.heap.size 36 C→Sl W (.slice (some ⟨w.heap.size,2+1,none⟩) 6 31) 1 6 (Uam ((T.t.regs.drop 1).take 6))):=Qd fun W hW=>by
  refine⟨by rw[Ug3,hcl],some ⟨w.heap.size,2+1,none⟩,31,rfl,by omega,by simp[maxLen],(fun e=>by cases e),fun _=>⟨_,rfl,hW.lt,fun j u hu=>?_⟩⟩;have hj:j<6:=by have:=(List.getElem?_eq_some_iff.1 hu).1;rw[Ug3,hcl] at this;exact this
  rw[Ug2 (by rw[hcl];exact hj),hcg j hj] at hu;rw[Ua7,hW.cell,show 2+1+j=2+(1+j) by omega,HR.out (1+j) (by omega)];exact hu
 have HCL:=Qd hcl;generalize (T.t.regs.drop 1).take 6=ws at *;clear hd hd' ha ha' hcl hcg;go_enter func64,ntmps64;go_wp2_with fail;refine Y7 fun W0 hW0=>?_
 have bx:Box W0 w.heap.size 36 C:=by rw[hW0];exact Box.new _ _ _
 have hb0:Below w.heap.size w W0:=by rw[hW0];exact HB0.out _
 clear hW0;refine(Ukh _ 6 (Uam ws) W0 (HSL.out W0 bx) (by omega) (Uj3 ws)).mono ?_;rintro e w5 ⟨v5,rfl,ho5,hb5⟩;have hwd:WdX (fun j=>j<w.heap.size) w5 v5 ws:=⟨⟨by rw[HCL.out];exact Sl.of_own ho5,HCW.out⟩,Ud0.own ho5 (fun k hk=>Xe hk hb0.size)⟩;have HF:=Qd (F.out v5 w5 hwd (Ua hb0 hb5 hb0.size));clear hwd ho5 hb5 hb0 bx;go_wp2;go_ret2;exact HF.out
section
variable {X:Nat→Prop} {gb:Nat} {w:World} {R:Rep} {b:Bch}
theorem U01 (hg:Box w gb 55 (ncs b R))(hl:(Ym b R).map List.length=Uf0){k:Nat}(hk:k<b.head.length)(v:Int):Box (w.setCell ⟨gb,178+k,none⟩ (.int .i64 v)) gb 55 (ncs { b with head:=b.head.set k v } R):=by
 have:=Ue5 (S:=Ym b R) hg hl 7 k (o:=178) (by decide) rfl (by show k<(Ucb b.head).length;rw[Ucb,List.length_map];exact hk) (.int .i64 v);have e:(Ym b R).set 7 (((Ym b R).getD 7 []).set k (.int .i64 v))=Ym { b with head:=b.head.set k v } R:=by
  simp[Ym,Ucb,List.map_set]
 rw[e] at this;exact this
theorem U3h (hg:Box w gb 55 (ncs b R))(hl:(Ym b R).map List.length=Uf0)(v:Int):Box (w.setCell ⟨gb,223,none⟩ (.int .i64 v)) gb 55 (ncs { b with top:=v } R):=Ue5 (S:=Ym b R) hg hl 11 0 (o:=223) (by decide) rfl (Nat.zero_lt_one) (.int .i64 v)
theorem U4o (hg:Box w gb 55 (ncs b R))(hl:(Ym b R).map List.length=Uf0){m':Mrg}{vs':List Value}(hv:(Ul m' vs').length=19):w.there gb 224 (Ul m' vs').length∧Box (w.setCells gb 224 (Ul m' vs')) gb 55 (ncs { b with m:=m' } { R with vs:=vs' }):=by
 have h19:(Ul b.m R.vs).length=19:=by
  have:=congrArg (fun l=>l.getD 12 0) hl;simpa [Ym,Uf0] using this
 refine⟨hg.midThere ?_,Uo6 (S:=Ym b R) hg hl 12 (o:=224) (vs:=Ul m' vs') (by decide) rfl (by show(Ul b.m R.vs).length=_;rw[h19,hv])⟩;have e:(ncs b R).size=345:=Z5 hl;rw[e,hv];omega
theorem U77 (hg:Box w gb 55 (ncs b R))(hl:(Ym b R).map List.length=Uf0)(x':Sta):w.there gb 243 x'.cells.size∧Box (w.setCells gb 243 x'.list) gb 55 (ncs { b with x:=x' } R):=by
 refine⟨hg.midThere ?_,Uo6 (S:=Ym b R) hg hl 13 (o:=243) (vs:=x'.list) (by decide) rfl rfl⟩;have e:(ncs b R).size=345:=Z5 hl;rw[e];show 243+29≤345;omega
theorem BnX.withM (h:BnX X w R b){m':Mrg}{vs':List Value}(hq:QsX X w vs' m'):BnX X w { R with vs:=vs' } { b with m:=m' }:=⟨h.mem,h.ll,h.lists,h.pl,h.pub,h.fuse,hq,h.rl,h.reads⟩
theorem BnX.with_ {b':Bch}(h:BnX X w R b)(h1:b'.mem=b.mem)(h2:b'.lists=b.lists)(h3:b'.pub=b.pub)(h4:b'.fuse=b.fuse)(h5:b'.m=b.m)(h6:b'.reads=b.reads):BnX X w R b' :=
 ⟨by rw[h1];exact h.mem,h.ll,by rw[h2];exact h.lists,h.pl,by rw[h3];exact h.pub,by rw[h4];exact h.fuse,by rw[h5];exact h.q,h.rl,by rw[h6];exact h.reads⟩
end
structure FzR (w:World) (gb:Nat) (b:Bch) (R:Rep) (W:World):Prop where
 p:Box W w.heap.size 99 #[.pointer (some ⟨gb,0,none⟩)]
 g:Box W gb 55 (ncs b R)
 c:Chg (fun j=>j=gb) w W
section
variable {X:Nat→Prop} {w W W' W0:World} {N0 gb g:Nat} {b:Bch} {R:Rep} {v:Value} {ws:List Int}
theorem FzR.kept (H:FzR w gb b R W)(hb:Below W.heap.size W W'):FzR w gb b R W':=⟨H.p.kept hb,H.g.kept hb,H.c.trans (Chg.of hb)⟩
theorem FzR.drew (H:FzR w gb b R W):FzR w gb b R W.drew:=⟨H.p.drew,H.g.drew,H.c.drew⟩
theorem FzR.far (H:FzR w gb b R W)(hc:Chg (fun j=>j=g) W W')(hg:w.heap.size<g)(hgb:gb<w.heap.size):FzR w gb b R W' :=
 ⟨H.p.chg hc (by omega),H.g.chg hc (by omega),⟨hc.os.trans H.c.os,hc.tape.trans H.c.tape,hc.output.trans H.c.output,Xd H.c.size hc.size,fun k hk hX=>(hc.block k (Xe hk H.c.size) (by omega)).trans (H.c.block k hk hX)⟩⟩
def EvR (X:Nat→Prop)(w:World)(N0 gb:Nat)(b:Bch)(R:Rep)(v:Value)(ws:List Int)(W:World):Prop :=
 FzR w gb b R W∧BnX (fun j=>X j∨N0≤j) W R b∧WdX (fun j=>(X j∨j=w.heap.size)∨N0≤j) W v ws∧N0≤W.heap.size∧w.heap.size<N0
theorem EvR.start (h1:FzR w gb b R W0)(h2:BnX X W0 R b)(h3:WdX (fun j=>X j∨j=w.heap.size) W0 v ws):EvR X w W0.heap.size gb b R v ws W0:=⟨h1,h2.low,h3.low,Xa _,h1.p.lt⟩
theorem EvR.below (H:EvR X w N0 gb b R v ws W)(hb:Below W.heap.size W W'):EvR X w N0 gb b R v ws W':=⟨H.1.kept hb,H.2.1.below hb,H.2.2.1.chg (Chg.of hb),Xd H.2.2.2.1 hb.size,H.2.2.2.2⟩
theorem EvR.held (H:EvR X w N0 gb b R v ws W):FzR w gb b R W∧BnX X W R b:=⟨H.1,H.2.1.mono (fun _ hj=>Or.inl hj)⟩
theorem EvR.fin (H:EvR X w N0 gb b R v ws W)(hg:N0≤g)(hgb:gb<w.heap.size)(hc:Chg (fun j=>j=g) W W'):FzR w gb b R W'∧BnX X W' R b∧WdX (fun j=>X j∨j=w.heap.size) W' v ws :=
 ⟨H.1.far hc (Xe H.2.2.2.2 hg) hgb,(H.2.1.chg (hc.mono (fun _ _ e=>Or.inr (by rw[e];exact hg)))).mono (fun _ hj=>Or.inl hj),(H.2.2.1.chg (hc.mono (fun _ _ e=>Or.inr (by rw[e];exact hg)))).mono (fun _ hj=>Or.inl hj)⟩
end
open Go.RowKit Go.Shelf
theorem U1a {k:Wrk}(s:Int)(hp:Uce k.x.pose)(h0:Zg k.x.x0)(h1:Zg k.x.x1)(h2:Zg k.x.x2):Uce (Ulq k s).x.pose∧Zg (Ulq k s).x.x0∧Zg (Ulq k s).x.x1∧Zg (Ulq k s).x.x2:=by
 unfold Ulq;split
 ·exact⟨U09 _ _ _,h0,h1,h2⟩
 ·split
  ·exact⟨Uxe _ _ _,h0,h1,h2⟩
  ·split
   ·exact⟨hp,Ud9 _ _ _ _,Ud9 _ _ _ _,Ud9 _ _ _ _⟩
   ·exact⟨hp,h0,h1,Ud9 _ _ _ _⟩
theorem Utn {x:Sta}(h:Uce x.pose)(v:V3)(s:Smp):Uce (Ucg x v s).x.pose∧Zg (Ucg x v s).x.x0∧Zg (Ucg x v s).x.x1∧Zg (Ucg x v s).x.x2 :=
 U1a _ h (Ufa _ _ _ _) (Ufa _ _ _ _) (Ufa _ _ _ _)
theorem U6i {x:Sta}{c:Uag}{s:Smp}(h:(Uei x c s).2=0):Ubg s∧x.n≠1099511627776∧x.out≠1099511627776∧x.t≤s.t:=by
 unfold Uei at h;split at h
 ·cases h
 ·rename_i h1;split at h
  ·cases h
  ·rename_i h2;refine⟨?_,?_,?_,by omega⟩
   ·exact Decidable.byContradiction fun hh=>h1 (Or.inl hh)
   ·exact fun hh=>h1 (Or.inr (Or.inl hh))
   ·exact fun hh=>h1 (Or.inr (Or.inr hh))
theorem U1b (x0:Sta)(c:Uag)(s:Smp):Ual (Uej x0 c s).1:=by
 have h:=Ufr x0;unfold Uej;dsimp only;generalize Zs x0=x at *;obtain⟨ht,hn,ho,hp,ha,hb,hc⟩:=h;unfold Ua0 at ht hn ho;split
 ·split
  ·exact⟨ht,hn,by unfold Ua0;dsimp only;omega,hp,ha,hb,hc⟩
  ·exact⟨ht,hn,ho,hp,ha,hb,hc⟩
 ·rename_i he;have hk:=U6i (Decidable.not_not.1 he);obtain⟨w1,w2,w3⟩:=Uuj x (Uei x c s).1 s;obtain⟨k1,k2,k3,k4⟩:=Utn hp (Uei x c s).1 s;refine⟨hk.1.2.1,?_,?_,k1,k2,k3,k4⟩
  ·show Ua0 ((Ucg x (Uei x c s).1 s).x.n+1);rw[w1];unfold Ua0;omega
  ·unfold U8l Ua0;dsimp only;rw[w2];split<;>omega
theorem Uux {x:Sta}(h:Ual x):Zs x=x:=if_pos h
theorem Upd (x:Sta)(c:Uag)(l:List Smp):Ual (Uf3 x c l):=by
 unfold Uf3;have h:=Ufr x;generalize Zs x=y at *
 induction l generalizing y with
 | nil=>exact h
 | cons s l ih=>exact ih _ (U1b y c s)
theorem Uxf (x:Sta)(c:Uag)(l m:List Smp):Uf3 x c (l++m)=Uf3 (Uf3 x c l) c m:=by
 have h:=Uux (Upd x c l);have e:∀y,Zs y=y→Uf3 y c m=m.foldl (fun x s=>(Uej x c s).1) y:=fun y hy=>by unfold Uf3;rw[hy]
 rw[e _ h];unfold Uf3;rw[List.foldl_append]
theorem Ufb {b:Brd}(h:Uba b){k:Nat}(hk:k<4){ws:List Int}(h6:ws.length=6)(h8:(b.ring.getD k []).length<8):Uba (Ujk b k ws):=by
 refine⟨by show(b.ring.set k _).length=4;rw[List.length_set];exact h.rl,h.dl,fun j hj=>?_,h.drops,h.m,h.x,h.ver⟩;show Unj ((b.ring.set k (b.ring.getD k []++[ws])).getD j []);by_cases hjk:k=j
 ·subst hjk;rw[Zc (by rw[h.rl];omega)];have:=h.ring k hk;refine⟨by rw[List.length_append];simp only[List.length_cons,List.length_nil];omega,fun u hu=>?_⟩;rcases List.mem_append.1 hu with hu|hu
  ·exact this.2 u hu
  ·simp at hu;subst hu;exact h6
 ·rw[Zp hjk];exact h.ring j hj
theorem Uct {b:Brd}(h:Uba b)(c:Uag){mark:Int}(ht:mark≤1099511627776):Uba (Uhw b c mark):=by
 obtain⟨e1,e2,e3,e4⟩:=Uc2 b 4;refine⟨rfl,by show(Ys b 4).drops.length=4;rw[e2];exact h.dl,fun k hk=>?_,fun k hk=>by show Ua0 ((Ys b 4).drops.getD k 0);rw[e2];exact h.drops k hk,Uoy _ _ _ (Ue1 (Ud6 h.m 4 (by omega)) ht),Upd _ _ _,?_⟩
 ·show Unj (([[],[],[],[]]:List (List (List Int))).getD k []);rcases (show k=0∨k=1∨k=2∨k=3 by omega) with rfl|rfl|rfl|rfl<;>exact⟨by decide,fun u hu=>by simp at hu⟩
 ·have:=h.ver;unfold Ua0 at *;show 0≤min (b.ver+1) 1099511627776∧min (b.ver+1) 1099511627776≤1099511627776;omega
theorem Ufc:Uba Ujj:=by
 refine⟨rfl,rfl,fun k hk=>?_,fun k hk=>?_,Uls,by decide,by decide⟩
 ·rcases (show k=0∨k=1∨k=2∨k=3 by omega) with rfl|rfl|rfl|rfl<;>exact⟨by decide,fun u hu=>by simp[Ujj] at hu⟩
 ·rcases (show k=0∨k=1∨k=2∨k=3 by omega) with rfl|rfl|rfl|rfl<;>decide
theorem Uh4 {n:Int}(h1 : -9223372036854775808≤n)(h2:n≤9223372036854775807):Ubo (Ubr n)=n:=by
 unfold Ubo Ubr;rw[Xg,Xf];omega
theorem Uh5 {v:Smp}(h:Ubg v):(Yk v).length=6:=by unfold Yk;rw[if_pos h];rfl
theorem Uxg {v:Smp}(h:Ubg v):Zd (Yk v)=(v,0):=by
 have h0:=h;obtain⟨⟨hx,hy,hz⟩,ht,hs0,hs1⟩:=h;unfold inL at hx hy hz;have e:Uqh (Yk v)=v:=by
  unfold Yk;rw[if_pos h0];obtain⟨t,s,x,y,z⟩:=v;dsimp only at *;simp only[Uqh,Smp.list,List.map_cons,List.map_nil,List.cons_append,List.nil_append,List.getD_cons_zero,List.getD_cons_succ];rw[Uh4 (by omega) (by omega),Uh4 (by omega) (by omega),Uh4 (by omega) (by omega),Uh4 (by omega) (by omega),Uh4 (by omega) (by omega)]
 have e2:Uin ((Yk v).take 5)=(Yk v).getD 5 0:=by
  unfold Yk;rw[if_pos h0];simp only[Smp.list,List.map_cons,List.map_nil,List.cons_append,List.nil_append];generalize Ubr v.t=a;generalize Ubr v.s=b;generalize Ubr v.v.x=c;generalize Ubr v.v.y=d;generalize Ubr v.v.z=e;generalize hs:Uin [a,b,c,d,e]=f;exact hs
 unfold Zd;rw[if_neg (by rw[Uh5 h0];simp),if_neg (by rw[e2];simp),e,if_pos h0]
theorem Ukd {q:List (List Smp)}{s:Nat}(hq:q.length=4)(hs:s<4)(h0:∀k,k<4→k≠s→q.getD k []=[]):Zx q 4=if q.getD s []=[] then (-1,false) else ((s:Int),false):=by
 match q,hq with
 | [a,b,c,d],_ =>
  have k0:=h0 0 (by omega);have k1:=h0 1 (by omega);have k2:=h0 2 (by omega);have k3:=h0 3 (by omega);rcases (show s=0∨s=1∨s=2∨s=3 by omega) with rfl|rfl|rfl|rfl
  ·have:=k1 (by omega);have:=k2 (by omega);have:=k3 (by omega);simp at *
   subst_vars
   cases a<;>simp[Zx]
  ·have:=k0 (by omega);have:=k2 (by omega);have:=k3 (by omega);simp at *
   subst_vars
   cases b<;>simp[Zx]
  ·have:=k0 (by omega);have:=k1 (by omega);have:=k3 (by omega);simp at *
   subst_vars
   cases c<;>simp[Zx]
  ·have:=k0 (by omega);have:=k1 (by omega);have:=k2 (by omega);simp at *
   subst_vars
   cases d<;>simp[Zx]
structure U8y (s:Nat) (L:List Smp) (m m':Mrg):Prop where
 q:∀k,k<4→m'.q.getD k []=[]
 ql:m'.q.length=4
 n:m'.n=m.n
 taken:m'.taken=m.taken+L.length
 last:L≠[]→m'.some=true∧m'.last=L.getLastD Ujx
theorem U6j {s:Nat}(hs:s<4):∀(L:List Smp) (f:Nat) (m:Mrg) (out:List Smp),m.q.length=4→m.q.getD s []=L→(∀k,k<4→k≠s→m.q.getD k []=[])→(∀v,v∈L→v.t≤m.mark)→L.length<f →
  (Une f m out).2=out++L∧U8y s L m (Une f m out).1:=by
 intro L
 induction L with
 | nil =>
  intro f m out hq hL h0 _ hf;obtain⟨f,rfl⟩:∃g,f=g+1:=⟨f-1,by simp at hf;omega⟩;have hp:=Ukd hq hs h0;rw[hL,if_pos rfl] at hp;unfold Une;rw[if_pos (by unfold Uc7;rw[hp];left;decide)];exact⟨by simp,fun k hk=>by by_cases hks:k=s;(· rw[hks];exact hL);exact h0 k hk hks,hq,rfl,by simp,fun h=>absurd rfl h⟩
 | cons v L ih =>
  intro f m out hq hL h0 ht hf;obtain⟨f,rfl⟩:∃g,f=g+1:=⟨f-1,by simp at hf;omega⟩;have hp:=Ukd hq hs h0;rw[hL,if_neg (by simp)] at hp;have hfst:Ubs m=s:=by unfold Ubs;rw[hp];simp
  have hst:¬Uc7 m:=by
   unfold Uc7;rw[hp];simp only[Int.toNat_natCast];rw[hL];have:=ht v (by simp);simp only[Yl,List.headD_cons];omega
  unfold Une;rw[if_neg hst,hfst,hL];have:=ih f (Uc8 m s) (out++[Yl (v::L)]) (by simp[Uc8,hq]) (by simp only[Uc8];rw[Zc (by rw[hq];omega),hL];rfl) (fun k hk hks=>by simp only[Uc8];rw[Zp (fun e=>hks e.symm)];exact h0 k hk hks) (fun u hu=>ht u (by simp[hu])) (by simp at hf;omega);obtain⟨e1,e2⟩:=this;refine⟨by rw[e1];simp[Yl],e2.q,e2.ql,e2.n,by rw[e2.taken];simp only[Uc8,List.length_cons];omega,fun _=>?_⟩;by_cases hL0:L=[]
  ·subst hL0;obtain⟨g,hg⟩:∃g,f=g+1:=⟨f-1,by simp at hf;omega⟩;have hp2:=Ukd (q:=(Uc8 m s).q) (by simp[Uc8,hq]) hs (fun k hk hks=>by simp only[Uc8];rw[Zp (fun e=>hks e.symm)];exact h0 k hk hks);have hr:(Uc8 m s).q.getD s []=[]:=by simp only[Uc8];rw[Zc (by rw[hq];omega),hL];rfl
   rw[hr,if_pos rfl] at hp2;rw[hg];unfold Une;rw[if_pos (by unfold Uc7;rw[hp2];left;decide)];exact⟨rfl,by simp only[Uc8];rw[hL];rfl⟩
  ·have:=e2.last hL0;refine⟨this.1,?_⟩;rw[this.2];cases L with
   | nil=>exact absurd rfl hL0
   | cons a L=>simp
def Uea (s:Nat):Int→List Smp→Prop
 | _,[]=>True
 | t,v::L=>Ubg v∧v.s=(s:Int)∧t<v.t∧Uea s v.t L
def Uch (t:Int)(L:List Smp):Int:=L.foldl (fun _ v=>v.t) t
theorem Udw {s:Nat}:∀(L:List Smp) (t:Int) (v:Smp),Uea s t (L++[v])↔Uea s t L∧Ubg v∧v.s=(s:Int)∧Uch t L<v.t:=by
 intro L
 induction L with
 | nil=>intro t v;simp[Uea,Uch]
 | cons a L ih =>
  intro t v;have:=ih a.t v;simp only[List.cons_append,Uea];rw[this];simp only[Uch,List.foldl_cons]
  constructor
  ·rintro ⟨a,b,c,d,e⟩;exact⟨⟨a,b,c,d⟩,e⟩
  ·rintro ⟨⟨a,b,c,d⟩,e⟩;exact⟨a,b,c,d,e⟩
theorem Uiw (t:Int)(L:List Smp)(v:Smp):Uch t (L++[v])=v.t:=by simp[Uch]
theorem U6k {s:Nat}:∀(L:List Smp) (t:Int),Uea s t L→(∀v,v∈L→v.t≤Uch t L)∧t≤Uch t L:=by
 intro L
 induction L with
 | nil=>intro t _;exact⟨fun v hv=>by simp at hv,Int.le_refl _⟩
 | cons a L ih =>
  rintro t ⟨h1,h2,h3,h4⟩;obtain⟨k1,k2⟩:=ih a.t h4;have e:Uch t (a::L)=Uch a.t L:=rfl;rw[e];exact⟨fun v hv=>by rcases List.mem_cons.1 hv with rfl|hv;exact k2;exact k1 v hv,by omega⟩
theorem Uuy {s:Nat}{L:List Smp}{t:Int}(h:Uea s t L)(ht:t≤1099511627776):Uch t L≤1099511627776:=by
 induction L generalizing t with
 | nil=>exact ht
 | cons a L ih=>exact ih (t:=a.t) h.2.2.2 h.1.2.1.2
theorem U6l {m:Mrg}{k:Nat}{v:Smp}(hv:Ubg v)(hs:v.s=(k:Int))(hb:Ubu m v=true)(hl:0<(m.q.getD k []).length→((m.q.getD k []).getD ((m.q.getD k []).length-1) Ujx).t<v.t)(h16:(m.q.getD k []).length<16)(hn:m.n.getD 0 0≠1099511627776) :
  (Uiq m k (Yk v)).1={ Zo m 0 with q:=m.q.set k (m.q.getD k []++[v]) }:=by
 have hr:=Uxg hv;have hlate:Uqm m k v=false:=by
  unfold Uqm;rw[hb];simp only[Bool.not_true,Bool.false_or,Bool.and_eq_false_iff,decide_eq_false_iff_not];by_cases h0:0<(m.q.getD k []).length
  ·right;have:=hl h0;omega
  ·left;exact h0
 have hw:Uab m k (Yk v)=(v,0):=by
  unfold Uab;rw[hr];rw[if_neg (by simp),if_neg (by simp[hs]),if_neg (by simp[hlate]),if_neg (by omega)]
 unfold Uiq;rw[hw,if_neg hn,if_pos rfl]
structure U8z (s:Nat) (P L:List Smp) (m m':Mrg):Prop where
 ql:m'.q.length=4
 nl:m'.n.length=m.n.length
 row:m'.q.getD s []=P++L
 others:∀k,k≠s→m'.q.getD k []=m.q.getD k []
 n:m'.n.getD 0 0=m.n.getD 0 0+L.length
 same:m'.mark=m.mark∧m'.some=m.some∧m'.last=m.last∧m'.taken=m.taken
theorem U3s {s:Nat}(hs:s<4):∀(L P:List Smp) (t:Int) (b:Brd),Uea s t L→b.m.q.length=4→0<b.m.n.length→b.m.q.getD s []=P→(0<P.length→(P.getD (P.length-1) Ujx).t≤t)→(∀v:Smp,t<v.t→Ubu b.m v=true)→P.length+L.length≤16→b.m.n.getD 0 0+L.length≤1000 →
  U8z s P L b.m (Ubw b s (L.map Yk)).m:=by
 intro L
 induction L with
 | nil=>intro P t b _ hq _ hP _ _ _ _;exact⟨hq,rfl,by rw[List.append_nil];exact hP,fun _ _=>rfl,(Int.add_zero _).symm,rfl,rfl,rfl,rfl⟩
 | cons v L ih =>
  rintro P t b ⟨g1,g2,g3,g4⟩ hq hnl hP hPt hb h16 hn;have hlen:(v::L).length=L.length+1:=rfl;rw[hlen] at h16 hn;have hp:=U6l (m:=b.m) (k:=s) g1 g2 (hb v g3) (by rw[hP];intro h;have:=hPt h;omega) (by rw[hP];omega) (by omega);have e:Ubw b s ((v::L).map Yk)=Ubw (Uxu b s (Yk v)) s (L.map Yk):=rfl;have em:(Uxu b s (Yk v)).m={ Zo b.m 0 with q:=b.m.q.set s (b.m.q.getD s []++[v]) }:=hp;rw[hP] at em;have hn0:(Uxu b s (Yk v)).m.n.getD 0 0=b.m.n.getD 0 0+1:=by rw[em];simp only[Zo];rw[Zc hnl]
  have:=ih (P++[v]) v.t (Uxu b s (Yk v)) g4 (by rw[em];simp[hq]) (by rw[em];simp[Zo,hnl]) (by rw[em];simp only;rw[Zc (by rw[hq];omega)])
   (fun _=>by rw[List.length_append];simp) (fun u hu=>by have:=hb u (by omega);rw[em];exact this) (by rw[List.length_append,List.length_singleton];omega) (by rw[hn0];omega)
  rw[e];obtain⟨i1,i2,i3,i4,i5,i6,i7,i8,i9⟩:=this;refine⟨i1,by rw[i2,em];simp[Zo],by rw[i3];simp,fun k hk=>?_,by rw[i5,hn0,hlen];omega,by rw[i6,em];rfl,by rw[i7,em];rfl,by rw[i8,em];rfl,by rw[i9,em];rfl⟩;rw[i4 k hk,em];simp only;rw[Zp (fun e=>hk e.symm)]
theorem U3t {b:Brd}{s:Nat}(hs:s<4)(h0:∀k,k<4→k≠s→b.ring.getD k []=[]):(Ys b 4).m=(Ubw b s (b.ring.getD s [])).m:=by
 have k0:=h0 0 (by omega);have k1:=h0 1 (by omega);have k2:=h0 2 (by omega);have k3:=h0 3 (by omega);have e:∀(c:Brd) (k:Nat),Ubw c k []=c:=fun _ _=>rfl
 rcases (show s=0∨s=1∨s=2∨s=3 by omega) with rfl|rfl|rfl|rfl
 ·simp only[Ys,k1 (by omega),k2 (by omega),k3 (by omega),e]
 ·simp only[Ys,k0 (by omega),k2 (by omega),k3 (by omega),e]
 ·simp only[Ys,k0 (by omega),k1 (by omega),k3 (by omega),e]
 ·simp only[Ys,k0 (by omega),k1 (by omega),k2 (by omega),e]
structure U3u (c:Uag) (s:Nat) (t:Int) (L:List Smp) (b:Brd):Prop where
 sane:Uba b
 others:∀k,k<4→k≠s→b.ring.getD k []=[]
 q:∀k,k<4→b.m.q.getD k []=[]
 beh:∀v:Smp,t<v.t→Ubu b.m v=true
 n:b.m.n.getD 0 0=(L.length:Int)
 taken:b.m.taken=(L.length:Int)
 x:b.x=Uf3 Ub8 c L
theorem Uuz {c:Uag}{s:Nat}{t mark:Int}{L M:List Smp}{b:Brd}(hs:s<4)(h:U3u c s t L b)(hr:b.ring.getD s []=M.map Yk)(hg:Uea s t M)(hM:M.length≤16)(hL:L.length+M.length≤1000)(hm:∀v,v∈M→v.t≤mark)(hmx:mark≤1099511627776)(htm:t≤mark) :
  U3u c s (Uch t M) (L++M) (Uhw b c mark)∧(∀k,k<4→(Uhw b c mark).ring.getD k []=[]):=by
 have e1:(Udj (Ys b 4)).m=(Ubw b s (M.map Yk)).m:=by show(Ys b 4).m=_;rw[U3t hs h.others,hr]
 have hp:=U3s hs M [] t b hg h.sane.m.ql (by rw[h.sane.m.nl];omega) (h.q s hs) (fun hh=>by simp at hh) h.beh (by simpa using hM) (by rw[h.n];omega);have et:Uc9 b mark=Ugl (Ubw b s (M.map Yk)).m mark:=by unfold Uc9;rw[e1]
 have hsane:Uaz (Uc9 b mark):=Ue1 (Ud6 h.sane.m 4 (by omega)) hmx;have hrow:(Uc9 b mark).q.getD s []=M:=by rw[et];show(Ubw b s (M.map Yk)).m.q.getD s []=M;rw[hp.row];rfl
 have hoth:∀k,k<4→k≠s→(Uc9 b mark).q.getD k []=[]:=fun k hk hks=>by rw[et];show(Ubw b s (M.map Yk)).m.q.getD k []=[];rw[hp.others k hks];exact h.q k hk
 have hmk:∀v,v∈M→v.t≤(Uc9 b mark).mark:=fun v hv=>by have:=hm v hv;rw[et];show v.t≤max _ mark;omega
 have hleft:M.length<Zh (Uc9 b mark)+1:=by
  have:(Uc9 b mark).q.getD s []=M:=hrow;unfold Zh;rcases (show s=0∨s=1∨s=2∨s=3 by omega) with rfl|rfl|rfl|rfl<;>rw[this]<;>omega
 have ha:=U6j hs M (Zh (Uc9 b mark)+1) (Uc9 b mark) [] hsane.ql hrow hoth hmk hleft;have eb:b.x=b.x:=rfl;obtain⟨a1,a2⟩:=ha;have en:(Uda b mark).1.n.getD 0 0=((L++M).length:Int):=by
  unfold Uda;rw[a2.n,et];show(Ubw b s (M.map Yk)).m.n.getD 0 0=_;rw[hp.n,h.n,List.length_append];omega
 have etk:(Uda b mark).1.taken=((L++M).length:Int):=by
  unfold Uda;rw[a2.taken,et];show(Ubw b s (M.map Yk)).m.taken+_=_;rw[hp.same.2.2.2,h.taken,List.length_append];omega
 refine⟨⟨Uct h.sane c hmx,fun k hk _=>?_,a2.q,fun v hv=>?_,en,etk,?_⟩,fun k hk=>?_⟩
 ·show([[],[],[],[]]:List (List (List Int))).getD k []=[];rcases (show k=0∨k=1∨k=2∨k=3 by omega) with rfl|rfl|rfl|rfl<;>rfl
 ·show Ubu (Uda b mark).1 v=true;by_cases hM0:M=[]
  ·subst hM0;have hstop:Uc7 (Uc9 b mark):=by
    have hpk:=Ukd hsane.ql hs hoth;rw[hrow,if_pos rfl] at hpk;unfold Uc7;rw[hpk];left;decide
   have e:(Uda b mark).1=Uc9 b mark:=by unfold Uda Une;rw[if_pos hstop]
   rw[e,et];have:=h.beh v hv;exact this
  ·obtain⟨l1,l2⟩:=a2.last hM0;unfold Ubu;have l1':(Uda b mark).1.some=true:=l1;have l2':(Uda b mark).1.last=M.getLastD Ujx:=l2;rw[l1',l2'];simp only[Bool.not_true,Bool.false_or];rw[Ube]
   left
   have:Uch t M=(M.getLastD Ujx).t:=by
    obtain⟨M',u,rfl⟩:∃M' u,M=M'++[u]:=⟨M.dropLast,M.getLast hM0,(List.dropLast_concat_getLast hM0).symm⟩;rw[Uiw];simp
   omega
 ·show Uf3 b.x c (Uda b mark).2=Uf3 Ub8 c (L++M);unfold Uda;rw[a1,h.x,List.nil_append,←Uxf]
 ·show([[],[],[],[]]:List (List (List Int))).getD k []=[];rcases (show k=0∨k=1∨k=2∨k=3 by omega) with rfl|rfl|rfl|rfl<;>rfl
def U86 (c:Uag)(s:Nat)(b:Brd)(v:Smp):Brd:=Uhw (Ujk b s (Yk v)) c v.t
def xB (c:Uag)(s:Nat)(L:List Smp):Brd:=L.foldl (U86 c s) Ujj
def yB (s:Nat)(L:List Smp):Brd:=L.foldl (fun b v=>Ujk b s (Yk v)) Ujj
theorem U1c (c:Uag)(s:Nat)(L:List Smp)(v:Smp):xB c s (L++[v])=U86 c s (xB c s L) v:=by unfold xB;rw[List.foldl_append];rfl
theorem U1d (s:Nat)(L:List Smp)(v:Smp):yB s (L++[v])=Ujk (yB s L) s (Yk v):=by unfold yB;rw[List.foldl_append];rfl
theorem Uu0 (c:Uag)(s:Nat):U3u c s (-1) [] Ujj:=by
 refine⟨Ufc,fun k hk _=>?_,fun k hk=>?_,fun v _=>rfl,rfl,rfl,by unfold Uf3;exact(Uux Ufc.x).symm⟩
 all_goals
  rcases (show k=0∨k=1∨k=2∨k=3 by omega) with rfl|rfl|rfl|rfl<;>rfl
theorem U1e {c:Uag}{s:Nat}{t:Int}{L:List Smp}{b:Brd}(hs:s<4)(h:U3u c s t L b){ws:List Int}(h6:ws.length=6)(h8:(b.ring.getD s []).length<8):U3u c s t L (Ujk b s ws)∧(Ujk b s ws).ring.getD s []=b.ring.getD s []++[ws]:=by
 refine⟨⟨Ufb h.sane hs h6 h8,fun k hk hks=>?_,h.q,h.beh,h.n,h.taken,h.x⟩,?_⟩
 ·show(b.ring.set s _).getD k []=[];rw[Zp (fun e=>hks e.symm)];exact h.others k hk hks
 ·show(b.ring.set s _).getD s []=_;rw[Zc (by rw[h.sane.rl];omega)]
theorem U6m {c:Uag}{s:Nat}(hs:s<4){L:List Smp}{v:Smp}(hg:Uea s (-1) (L++[v]))(hl:L.length<100):U3u c s (Uch (-1) L) L (xB c s L)∧(xB c s L).ring.getD s []=[]→U3u c s (Uch (-1) (L++[v])) (L++[v]) (xB c s (L++[v]))∧(xB c s (L++[v])).ring.getD s []=[]:=by
 rintro ⟨h,h0⟩;obtain⟨g1,g2,g3,g4⟩:=(Udw L (-1) v).1 hg;obtain⟨p1,p2⟩:=U1e hs h (Uh5 g2) (by rw[h0];decide);rw[h0] at p2;have:=Uuz (M:=[v]) (mark:=v.t) hs p1 p2 ⟨g2,g3,g4,trivial⟩ (by simp) (by simp;omega) (fun u hu=>by simp at hu;subst hu;exact Int.le_refl _) g2.2.1.2 (by omega);rw[U1c,Uiw];exact⟨this.1,this.2 s hs⟩
theorem Urd (c:Uag){s:Nat}(hs:s<4):∀(n:Nat) (L:List Smp),L.length=n→Uea s (-1) L→n≤8→U3u c s (Uch (-1) L) L (xB c s L)∧(xB c s L).ring.getD s []=[]:=by
 intro n
 induction n with
 | zero =>
  intro L hL _ _;obtain rfl:=List.length_eq_zero_iff.1 hL;exact⟨Uu0 c s,(by rcases (show s=0∨s=1∨s=2∨s=3 by omega) with rfl|rfl|rfl|rfl<;>rfl)⟩
 | succ n ih =>
  intro L hL hg hn;have hne:L≠[]:=by intro e;subst e;simp at hL
  obtain⟨L',v,rfl⟩:∃M' u,L=M'++[u]:=⟨L.dropLast,L.getLast hne,(List.dropLast_concat_getLast hne).symm⟩;simp at hL;exact U6m hs hg (by omega) (ih L' hL ((Udw L' (-1) v).1 hg).1 (by omega))
theorem Ujo (c:Uag){s:Nat}(hs:s<4):∀(n:Nat) (L:List Smp),L.length=n→Uea s (-1) L→n≤8→U3u c s (-1) [] (yB s L)∧(yB s L).ring.getD s []=L.map Yk:=by
 intro n
 induction n with
 | zero =>
  intro L hL _ _;obtain rfl:=List.length_eq_zero_iff.1 hL;exact⟨Uu0 c s,(by rcases (show s=0∨s=1∨s=2∨s=3 by omega) with rfl|rfl|rfl|rfl<;>rfl)⟩
 | succ n ih =>
  intro L hL hg hn;have hne:L≠[]:=by intro e;subst e;simp at hL
  obtain⟨L',v,rfl⟩:∃M' u,L=M'++[u]:=⟨L.dropLast,L.getLast hne,(List.dropLast_concat_getLast hne).symm⟩;simp at hL;obtain⟨g1,g2,g3,g4⟩:=(Udw L' (-1) v).1 hg;obtain⟨h1,h2⟩:=ih L' hL g1 (by omega);obtain⟨p1,p2⟩:=U1e hs h1 (Uh5 g2) (by rw[h2,List.length_map];omega);rw[U1d];exact⟨p1,by rw[p2,h2];simp⟩
theorem Uxh (c:Uag){s:Nat}(hs:s<4){L:List Smp}(hg:Uea s (-1) L)(hn:L.length≤8) :
  (Uhw (yB s L) c (max (Uch (-1) L) 0)).x=(xB c s L).x∧(Uhw (yB s L) c (max (Uch (-1) L) 0)).m.taken=(L.length:Int)∧(xB c s L).m.taken=(L.length:Int):=by
 obtain⟨x1,x2⟩:=Urd c hs _ L rfl hg hn;obtain⟨y1,y2⟩:=Ujo c hs _ L rfl hg hn;obtain⟨l1,l2⟩:=U6k L (-1) hg;have l3:=Uuy hg (by omega);have:=Uuz (mark:=max (Uch (-1) L) 0) hs y1 y2 hg (by omega) (by simp;omega) (fun v hv=>by have:=l1 v hv;omega) (by omega) (by omega);exact⟨by rw[this.1.x,x1.x];rfl,by rw[this.1.taken];rfl,x1.taken⟩
end Go.Proofs.YtdaflmjfeoacaaaGreat
