/- Part of the proof of TopTry, TopSplit: SnC. Conditions: none. -/
import Derived.Test.YtdaflmjfeoacaaaGreatZbbf
import Derived.Test.YtdaflmjfeoacaaaGreatZbbb
import Derived.Sort.CutIn
set_option linter.all false
set_option maxHeartbeats 16000000
set_option maxRecDepth 4000
namespace Go.Proofs.YtdaflmjfeoacaaaGreat
open Tryz
open Go.RowKit Go.Shelf
attribute [local go_sem] Oper.semAt_some
def U28 (n:Nat):Bool:=[0,1,3,4,5,6,7,8,9,11,12,13,14,15,17,18,19,20,21,23,24,25,26,27].contains n
structure Fld where
 off:Nat
 ok:U28 off=true
def U29 (x:Sta)(n:Nat):Int:=match x.list[n]? with
 | some (.int _ v)=>v
 | _=>0
theorem Uqy {n:Nat}(h:U28 n=true):n=0∨n=1∨n=3∨n=4∨n=5∨n=6∨n=7∨n=8∨n=9∨n=11∨n=12∨n=13∨n=14∨n=15∨n=17∨n=18∨n=19∨n=20∨n=21∨n=23∨n=24∨n=25∨n=26∨n=27:=by
 unfold U28 at h;simpa using h
theorem U7u (x:Sta)(f:Fld):x.list[f.off]? = some (.int .i64 (U29 x f.off)):=by
 obtain⟨n,h⟩:=f;dsimp only;rcases Uqy h with rfl|rfl|rfl|rfl|rfl|rfl|rfl|rfl|rfl|rfl|rfl|rfl|rfl|rfl|rfl|rfl|rfl|rfl|rfl|rfl|rfl|rfl|rfl|rfl<;>rfl
def Uum (b:Nat):Option Fld→Value
 | none => .pointer none
 | some f=>ptr b f.off
def Uj0:List (Option Fld):=[some ⟨0,rfl⟩,some ⟨1,rfl⟩,none,some ⟨3,rfl⟩,some ⟨4,rfl⟩,some ⟨5,rfl⟩,some ⟨6,rfl⟩,some ⟨7,rfl⟩,some ⟨8,rfl⟩,some ⟨9,rfl⟩,some ⟨11,rfl⟩,some ⟨12,rfl⟩,some ⟨13,rfl⟩,some ⟨14,rfl⟩,some ⟨15,rfl⟩,some ⟨17,rfl⟩,some ⟨18,rfl⟩,some ⟨19,rfl⟩,some ⟨20,rfl⟩,some ⟨21,rfl⟩,some ⟨23,rfl⟩,some ⟨24,rfl⟩,some ⟨25,rfl⟩,some ⟨26,rfl⟩,some ⟨27,rfl⟩]
set_option maxRecDepth 100000 in
theorem Uqz (b:Nat):Uj0.map (Uum b)=Uek b 3:=by simp[Uj0,Uum,Uek,Ufz,Ue2,List.range_succ]
def Unh (b:Bool)(n:Int):Int:=if b then n else 0
def U3 (x:Sta)(j:Nat):Int:=x.out*16+(if 0<j then Unh x.pose.bad 1 else 0)+(if 1<j then Unh x.x0.bad 2 else 0)+(if 2<j then Unh x.x1.bad 4 else 0)+(if 3<j then Unh x.x2.bad 8 else 0)
def Uaq (x:Sta)(t:Int):Option Fld→Int
 | none=>t
 | some f=>Ubr (U29 x f.off)
def Uwm (x:Sta):List Int:=Uj0.map (Uaq x (U3 x 4))
def U0 (x:Sta):List Int:=Uwm x++[Uin (Uwm x)]
def Ujh (x:Sta)(j:Nat):Bool:=if j=0 then x.pose.bad else if j=1 then x.x0.bad else if j=2 then x.x1.bad else x.x2.bad
theorem Uun (x:Sta){j:Nat}(hj:j<4):x.list[10+j*6]? = some (.bool (Ujh x j)):=by
 rcases (show j=0∨j=1∨j=2∨j=3 by omega) with rfl|rfl|rfl|rfl<;>rfl
theorem U8v (a b c d:Value):(∀w,(Instr.index 109 (.agg #[a,b,c,d]) (.int .i64 0)).run prog w = .ok a w)∧(∀w,(Instr.index 109 (.agg #[a,b,c,d]) (.int .i64 1)).run prog w = .ok b w) ∧
  (∀w,(Instr.index 109 (.agg #[a,b,c,d]) (.int .i64 2)).run prog w = .ok c w)∧(∀w,(Instr.index 109 (.agg #[a,b,c,d]) (.int .i64 3)).run prog w = .ok d w) :=
 ⟨fun _=>by kernel_rfl,fun _=>by kernel_rfl,fun _=>by kernel_rfl,fun _=>by kernel_rfl⟩
theorem Ub9 (b:Nat){j:Nat}(hj:j<4):∀w,(Instr.index 109 (.agg (Ud3 b).toArray) (.int .i64 (j:Int))).run prog w = .ok (.pointer (some ⟨b,10+j*6,none⟩)) w:=by
 obtain⟨i0,i1,i2,i3⟩:=U8v (ptr b 10) (ptr b 16) (ptr b 22) (ptr b 28);rcases (show j=0∨j=1∨j=2∨j=3 by omega) with rfl|rfl|rfl|rfl
 ·exact i0
 ·exact i1
 ·exact i2
 ·exact i3
theorem Uq0 {x:Sta}(h:Ual x)(j:Nat):0≤U3 x j∧U3 x j≤17592186044431:=by
 have h1:=h.2.2.1;unfold Ua0 at h1;unfold U3 Unh
 repeat' split
 all_goals omega
theorem Uuo (q r i:Nat)(h:r<2 ^ i):(2 ^ (i+1)*q+r) ||| 2 ^ i=2 ^ (i+1)*q+(2 ^ i+r):=by
 have h1:r<2 ^ (i+1):=by rw[Nat.pow_succ];omega
 have e1:=Nat.two_pow_add_eq_or_of_lt h1 q;have e2:=Nat.two_pow_add_eq_or_of_lt h 1;have h2:2 ^ i+r<2 ^ (i+1):=by rw[Nat.pow_succ];omega
 have e3:=Nat.two_pow_add_eq_or_of_lt h2 q;rw[Nat.mul_one] at e2;rw[e3,e1,e2,Nat.or_assoc,Nat.or_comm r]
theorem Uo4 (a b c:Nat)(ha:a<18446744073709551616)(hb:b<18446744073709551616)(hc:c<18446744073709551616)(h:a ||| b=c):bits .or .u64 (a:Int) (b:Int)=(c:Int):=by
 show IntKind.u64.wrap (((BitVec.ofInt 64 (a:Int) ||| BitVec.ofInt 64 (b:Int)).toNat:Nat):Int)=_;have e:(BitVec.ofInt 64 (a:Int) ||| BitVec.ofInt 64 (b:Int)).toNat=c:=by
  rw[BitVec.toNat_or,BitVec.ofInt_natCast,BitVec.ofInt_natCast,BitVec.toNat_ofNat,BitVec.toNat_ofNat,Nat.mod_eq_of_lt (by omega),Nat.mod_eq_of_lt (by omega),h]
 rw[e,Xg];omega
theorem Ufs {x:Sta}(h:Ual x){j:Nat}(hj:j<4)(hb:Ujh x j=true):bits .or .u64 (U3 x j) ((2 ^ j:Nat):Int)=U3 x (j+1):=by
 have h1:=h.2.2.1;unfold Ua0 at h1;obtain⟨o,ho⟩:∃o:Nat,x.out=(o:Int):=⟨x.out.toNat,by omega⟩;rcases (show j=0∨j=1∨j=2∨j=3 by omega) with rfl|rfl|rfl|rfl
 ·have e1:U3 x 0=((2 ^ (0+1)*(8*o)+0:Nat):Int):=by simp[U3,ho];omega
  have e2:U3 x (0+1)=((2 ^ (0+1)*(8*o)+(2 ^ 0+0):Nat):Int):=by simp[Ujh] at hb;simp[U3,Unh,ho,hb];omega
  rw[e1,e2];exact Uo4 _ _ _ (by omega) (by decide) (by omega) (Uuo _ _ _ (by decide))
 ·obtain⟨r,hr,er⟩:∃r:Nat,r<2∧Unh x.pose.bad 1=(r:Int):=by cases x.pose.bad;(exact⟨0,by decide,rfl⟩);exact⟨1,by decide,rfl⟩
  have e1:U3 x 1=((2 ^ (1+1)*(4*o)+r:Nat):Int):=by simp[U3,ho,er];omega
  have e2:U3 x (1+1)=((2 ^ (1+1)*(4*o)+(2 ^ 1+r):Nat):Int):=by simp[Ujh] at hb;simp[U3,ho,er,hb,show ∀n,Unh true n=n from fun _=>rfl];omega
  rw[e1,e2];exact Uo4 _ _ _ (by omega) (by decide) (by omega) (Uuo _ _ _ (by simpa using hr))
 ·obtain⟨r,hr,er⟩:∃r:Nat,r<4∧Unh x.pose.bad 1+Unh x.x0.bad 2=(r:Int):=by cases x.pose.bad<;>cases x.x0.bad;(exact⟨0,by decide,rfl⟩);(exact⟨2,by decide,rfl⟩);(exact⟨1,by decide,rfl⟩);exact⟨3,by decide,rfl⟩
  have e1:U3 x 2=((2 ^ (2+1)*(2*o)+r:Nat):Int):=by simp[U3,ho];omega
  have e2:U3 x (2+1)=((2 ^ (2+1)*(2*o)+(2 ^ 2+r):Nat):Int):=by simp[Ujh] at hb;simp[U3,ho,hb,show ∀n,Unh true n=n from fun _=>rfl];omega
  rw[e1,e2];exact Uo4 _ _ _ (by omega) (by decide) (by omega) (Uuo _ _ _ (by simpa using hr))
 ·obtain⟨r,hr,er⟩:∃r:Nat,r<8∧Unh x.pose.bad 1+Unh x.x0.bad 2+Unh x.x1.bad 4=(r:Int):=by cases x.pose.bad<;>cases x.x0.bad<;>cases x.x1.bad;(exact⟨0,by decide,rfl⟩);(exact⟨4,by decide,rfl⟩);(exact⟨2,by decide,rfl⟩);(exact⟨6,by decide,rfl⟩);(exact⟨1,by decide,rfl⟩);(exact⟨5,by decide,rfl⟩);(exact⟨3,by decide,rfl⟩);exact⟨7,by decide,rfl⟩
  have e1:U3 x 3=((2 ^ (3+1)*o+r:Nat):Int):=by simp[U3,ho];omega
  have e2:U3 x (3+1)=((2 ^ (3+1)*o+(2 ^ 3+r):Nat):Int):=by simp[Ujh] at hb;simp[U3,ho,hb,show ∀n,Unh true n=n from fun _=>rfl];omega
  rw[e1,e2];exact Uo4 _ _ _ (by omega) (by decide) (by omega) (Uuo _ _ _ (by simpa using hr))
theorem Uft {x:Sta}{j:Nat}(hj:j<4)(hb:Ujh x j=false):U3 x (j+1)=U3 x j:=by
 rcases (show j=0∨j=1∨j=2∨j=3 by omega) with rfl|rfl|rfl|rfl<;>simp[Ujh] at hb<;>simp[U3,Unh,hb]
structure WfR (w:World) (gt:Nat) (x:Sta) (t:Int) (W:World):Prop where
 x:Box W w.heap.size 52 x.cells
 t:Box W gt 33 #[.int .u64 t]
 lt:w.heap.size<gt
 below:Below w.heap.size w W
section
variable {w W W':World} {gt:Nat} {x:Sta} {t u:Int}
theorem WfR.kept (H:WfR w gt x t W)(hb:Below W.heap.size W W'):WfR w gt x t W':=⟨H.x.kept hb,H.t.kept hb,H.lt,Ua H.below hb H.below.size⟩
theorem WfR.drew (H:WfR w gt x t W):WfR w gt x t W.drew:=⟨H.x.drew,H.t.drew,H.lt,Ue H.below 1⟩
theorem WfR.put (H:WfR w gt x t W)(hW:W'=W.setCell ⟨gt,0,none⟩ (.int .u64 u)):WfR w gt x u W':=by
 have:=H.lt;rw[hW];exact⟨H.x.far (by simp;omega) _,H.t.set_ 0 _,H.lt,H.below.setCell (by simp;omega) _⟩
end
theorem U4j {P:Program}{c:Code}{Q:Exit→Act→World→Prop}{a:Act}{w:World}(h:∀a0,a0=a→c.wp P Q a0 w):c.wp P Q a w:=h a rfl
structure WdR (w:World) (gt B g6:Nat) (x:Sta) (t:Int) (ms:List Int) (W:World):Prop where
 f:WfR w gt x t W
 sz:B≤W.heap.size
 l:∃v,Box W g6 31 #[v]∧Own W B v ms
theorem WdR.chg {w W W':World}{gt B g6:Nat}{x:Sta}{t:Int}{ms:List Int}{X:Nat→Prop}(H:WdR w gt B g6 x t ms W)(hc:Chg X W W')(hX:∀k,X k→∃o,W.heap[k]? = some o∧o.isCells=false)(hb:Below w.heap.size w W'):WdR w gt B g6 x t ms W':=by
 obtain⟨⟨a,b,hlt,_⟩,hz,v,h1,h2⟩:=H;have hn:∀{g:Nat} {t:TypeId} {cs:Array Value},Box W g t cs→¬X g:=fun hb hx=>by
  obtain⟨o,ho,hc⟩:=hX _ hx;unfold Box at hb;rw[hb] at ho;cases ho;cases hc
 refine⟨⟨a.chg hc (hn a),b.chg hc (hn b),hlt,hb⟩,Xd hz hc.size,v,h1.chg hc (hn h1),⟨Zk h2.1 hc (fun k hk hx=>?_),h2.2⟩⟩;obtain⟨o,ho,hcc⟩:=hX _ hx;rcases h2.1.2 with ⟨e,_⟩|⟨g',cap,cur,e,_,hh,_⟩
 ·subst e;cases hk
 ·subst e;injection hk with hk
  subst hk;rw[hh] at ho;cases ho;cases hcc
theorem U50 {α:Type}(w:World)(gt B B' g6:Nat)(x:Sta)(t:Int)(f:List α→List Int)(hB:w.heap.size≤B'):OwnFrom B' (fun(s:List α) W=>WdR w gt B g6 x t (f s) W):=fun s X Y row hs hg hr =>
 hs.chg (X:=fun k=>row=some k) (Chg.grown hg (fun k e=>e)) (fun k e=>(hr k e).2) (hs.f.below.grown hg hs.f.below.size (fun k e=>by have:=(hr k e).1;omega))
theorem Us8 {W W':World}{row:Option Nat}(hg:W.grownBy W' row)(hr:∀k,row=some k→∃cs t,W.heap[k]? = some (.cells cs t (0,0))):KeepsOthers W W' :=
 ⟨hg.size,fun k o hk hc=>(hg.block k (Array.getElem?_eq_some_iff.1 hk).1 (fun e=>by
  obtain⟨cs,t,h⟩:=hr k e.symm;rw[h] at hk;cases hk
  cases hc)).trans hk⟩
theorem WdR.app {w W w':World}{gt B g6 gr:Nat}{x:Sta}{t:Int}{ms:List Int}{v v':Value}{y:Int}(H:WfR w gt x t W)(bl:Box W g6 31 #[v])(own:Own W B v ms)(ho:w'.ownsRow B 33 1 v' (ms.length+1) (Uam ms++[.int .u64 y]))
  (hg:(W.alloc (.cells #[.int .u64 y] 33)).grownBy w' v.ownBlock) (hy:W64 y) (h6:gt<g6) (hB:g6<B) (hr:gr<B) (hrn:gr≠g6) (hrl:gr<W.heap.size) (hz:B≤W.heap.size) :
  Box w' g6 31 #[v]∧WdR w gt B g6 x t (ms++[y]) (w'.setCell ⟨g6,0,none⟩ v')∧KeepsOthers W (w'.setCell ⟨g6,0,none⟩ v')∧Ujy gr W (w'.setCell ⟨g6,0,none⟩ v'):=by
 have hlt:∀k,v.ownBlock=some k→B≤k∧k<W.heap.size:=fun k hk=>own.1.lt k hk
 have keep:∀k,k<W.heap.size→k<B→w'.heap[k]? = W.heap[k]? := fun k hk hkB=>(hg.block k (by simp;omega) (fun e=>by have:=(hlt k e.symm).1;omega)).trans (Below.heap_alloc W _ k hk)
 have l6:=bl.lt;have lx:=H.x.lt;have lt':=H.t.lt;have hxt:=H.lt;have b6:Box w' g6 31 #[v]:=(keep g6 l6 hB).trans bl;refine⟨b6,⟨⟨(show Box w' w.heap.size 52 x.cells from (keep _ lx (by omega)).trans H.x).far (by simp;omega) _,(show Box w' gt 33 _ from (keep _ lt' (by omega)).trans H.t).far (by simp;omega) _,H.lt,?_⟩,?_,v',b6.set_ 0 v',?_,?_⟩,?_,?_⟩
 ·exact((H.below.alloc H.below.size _).grown hg (by have:=H.below.size;simp;omega) (fun k e=>by have:=(hlt k e).1;omega)).setCell (by simp;omega) _
 ·have:=hg.size;simp at this ⊢;omega
 ·have e:Uam (ms++[y])=Uam ms++[.int .u64 y]:=by simp[Uam]
  rw[e,List.length_append];exact Zk ho (Chg.setCell (X:=(· = g6)) rfl _) (fun k hk e=>by have:=(ho.lt k hk).1;omega)
 ·intro z hz;rcases List.mem_append.1 hz with h|h
  ·exact own.2 z h
  ·simp at h;subst h;exact hy
 ·refine((KeepsOthers.alloc W _).trans (Us8 hg (fun k hk=>?_))).trans (KeepsOthers.setCell _ _ _);rcases own.1.2 with ⟨e,_⟩|⟨g',cap,cur,e,_,hh,_⟩
  ·subst e;cases hk
  ·subst e;injection hk with hk
   subst hk;exact⟨cur,_,(Below.heap_alloc W _ _ (Array.getElem?_eq_some_iff.1 hh).1).trans hh⟩
 ·show(w'.setCell ⟨g6,0,none⟩ v').heap[gr]? = W.heap[gr]?;exact(Below.heap_setCell w' _ v' gr (by simpa using hrn)).trans (keep gr hrl hr)
theorem U51 {x:Sta}(h:Ual x)(pre:List (Option Fld)):∀z∈pre.map (Uaq x (U3 x 4)),W64 z:=by
 intro z hz;obtain⟨f,_,rfl⟩:=List.mem_map.1 hz;cases f with
 | none=>have:=Uq0 h 4;show W64 (U3 x 4);unfold W64;omega
 | some f=>exact Ujd _
theorem Uz8 {w:World}{base:Nat}{e:TypeId}{sz n D k:Nat}{v:Value}{xs:List Value}{o:Obj}(h:w.ownsRow base e sz v n xs)(hD:w.heap[D]? = some o)(hk:v.ownBlock=some k)(hkD:D=k)(ho:o.isCells=false:=by rfl):False:=by
 subst hkD;rcases h.2 with ⟨e,_⟩|⟨g',cap,cur,e,_,hh,_⟩
 ·subst e;cases hk
 ·subst e;injection hk with hk
  subst hk;rw[hh] at hD;cases hD;cases ho
theorem Us9 {x:Sta}(h:Ual x)(w:World):Calls prog 91 #[stv x] w (Ubj (U0 x) w):=by
 obtain⟨i0,hi,hz0,hz1,hz2⟩:=info_parts Ugu;have KS:=Qd (fun w=>Ucr x w);rw[Xi h] at KS;have HS:=Qd h;have HB0:Hid (Box (w.alloc (.cells x.cells 52)) w.heap.size 52 x.cells):=Qd (Box.new w _ _);have HL0:Hid (Below w.heap.size w (w.alloc (.cells x.cells 52))):=Qd ((Xb _ w).alloc (Xa _) _);have HXS:Hid ((prog.info? 52).map (·.size)=some x.cells.size):=Qd Yj;have hout:=h.2.2.1;unfold Ua0 at hout;have hc1:IntKind.u64.wrap x.out=x.out:=by rw[Xg];omega
 have hc2:IntKind.u64.wrap (x.out*16)=x.out*16:=by rw[Xg];omega
 have H30:Hid (U3 x 0=x.out*16):=Qd (by simp[U3]);clear h;dsimp only[stv] at KS ⊢;refine(callsIn_wide (n:=3)).1 ?_;refine callsIn_of_wp_marks func91 rfl trivial ?_ rfl;simp only[ntmps91,List.size_toArray,List.length_cons,List.length_nil,Nat.reduceAdd,Nat.reduceSub,Array.replicate_succ,Array.replicate_zero,List.push_toArray,List.append_toArray,List.nil_append,List.cons_append];refine wpIn_wide.2 ?_;go_upto_region 1 with fail
 refine Uq fun W0 hW0=>?_
 have B0:Hid (Box W0 w.heap.size 52 x.cells):=Qd (by rw[hW0];exact HB0.out);have L0:Hid (Below w.heap.size w W0):=Qd (by rw[hW0];exact HL0.out);clear hW0 HB0 HL0;go_wp2_with (with_reducible first|refine Qg 52 ?_);refine Uo.go w.heap.size rfl B0.out underlying52 rfl HXS.out ?_;go_wp2_with fail;refine(KS.out _).mono ?_;rintro e w1 ⟨rfl,hb⟩;have B1:=Qd (B0.out.kept hb);have L1:=Qd (Ua L0.out hb L0.out.size);clear hb B0 L0 KS;have x2:=(Ull B1.out).2.2;go_upto_region 4 with fail
 refine Uq fun W2 hW2=>?_
 have R2:Hid (WfR w w1.heap.size x (U3 x 0) W2):=Qd (by rw[hW2,H30.out];exact⟨B1.out.alloc _,Box.new _ _ _,B1.out.lt,L1.out.alloc L1.out.size _⟩);clear hW2 B1 L1 x2 hc1 hc2 H30 hout;generalize w1.heap.size=gt at *;have KF:=Qd (fun W=>Ung w.heap.size W);obtain⟨FA,hFA⟩:∃FA,(Ud3 w.heap.size).toArray=FA:=⟨_,rfl⟩;rw[hFA] at KF;have HFA:=Qd hFA;clear hFA;go_wp2_with fail;refine(KF.out _).mono ?_;rintro e w3 ⟨rfl,hb⟩;have R3:=Qd (R2.out.kept hb);clear hb R2 KF;go_wp2_with fail;go_loopw [16] (fun i wr=>∃j:Nat,j≤4∧i = .int .i64 (j:Int)∧Hid (WfR w gt x (U3 x j) wr)) (fun i _=>4-(intOf i).toNat)
 case atStart=>exact⟨0,by omega,rfl,R3⟩
 case round =>
  obtain⟨j,hj,rfl,HR⟩:=hrel;clear R3;by_cases hlt:j<4
  ·rcases (show j=0∨j=1∨j=2∨j=3 by omega) with rfl|rfl|rfl|rfl
   ·have ix:∀W,(Instr.index 109 (.agg FA) (.int .i64 0)).run prog W = .ok (.pointer (some ⟨w.heap.size,10,none⟩)) W:=by rw[←HFA.out];exact Ub9 w.heap.size (j:=0) (by omega)
    have xb:wr.cell? ⟨w.heap.size,10,none⟩=some (.bool (Ujh x 0)):=(HR.out.x.cell 10).trans (by have:=Uun x (j:=0) (by omega);simpa [Sta.cells] using this);cases hb:Ujh x 0
    ·have HN:Hid (U3 x (0+1)=U3 x 0):=Qd (Uft (by omega) hb);rw[hb] at xb;clear hb;go_wp2_with fail;clear ix xb;go_roundw
     case rel=>exact⟨0+1,by omega,by go_num,by rw[HN.out];exact HR⟩
     case measure=>simp[intOf]
    ·have HN:Hid (bits .or .u64 (U3 x 0) 1=U3 x (0+1)):=Qd (Ufs HS.out (j:=0) (by omega) hb);rw[hb] at xb;clear hb;have hwp:IntKind.u64.wrap 1=1:=by decide
     generalize U3 x 0=tj at *;generalize hn:U3 x (0+1)=tn at *;have HN2:=Qd hn;have hor:=HN.out;clear hn;go_upto_region 8 with fail
     clear ix xb;refine Uis ?_;refine Uk (S:=fun w'=>Box w' gt 33 #[.int .u64 tj]) 4 4 (by kernel_rfl) rfl (by kernel_rfl) (by decide) HR.out.t.drew (fun hHeld=>?_);refine Qe 0 (.int .u64 tj) (fun w hw=>?_) ?_
     ·have xt:=hw.cell 0;go_simp
     simp only[Qz];refine Qn 1 (.int .i64 ((0:Nat):Int)) ?_;refine Qn 2 (.int .u64 1) ?_;refine Qn 3 (.int .u64 tn) ?_;refine Xl (by kernel_rfl) ?_ _;have xt:=HR.out.t.drew.cell 0;have ft:=HR.out.t.drew.frozen 0;refine U4 rfl (by rfl) ?_;go_simp;simp only[Umn];refine Yn fun W9 hW9=>?_
     have R9:Hid (WfR w gt x tn W9):=Qd (HR.out.drew.put hW9);clear hW9 hHeld xt ft HR;clear hor hwp;go_wp2_with fail;go_roundw
     case rel=>exact⟨0+1,by omega,by go_num,by rw[HN2.out];exact R9⟩
     case measure=>simp[intOf]
   ·have ix:∀W,(Instr.index 109 (.agg FA) (.int .i64 1)).run prog W = .ok (.pointer (some ⟨w.heap.size,16,none⟩)) W:=by rw[←HFA.out];exact Ub9 w.heap.size (j:=1) (by omega)
    have xb:wr.cell? ⟨w.heap.size,16,none⟩=some (.bool (Ujh x 1)):=(HR.out.x.cell 16).trans (by have:=Uun x (j:=1) (by omega);simpa [Sta.cells] using this);cases hb:Ujh x 1
    ·have HN:Hid (U3 x (1+1)=U3 x 1):=Qd (Uft (by omega) hb);rw[hb] at xb;clear hb;go_wp2_with fail;clear ix xb;go_roundw
     case rel=>exact⟨1+1,by omega,by go_num,by rw[HN.out];exact HR⟩
     case measure=>simp[intOf]
    ·have HN:Hid (bits .or .u64 (U3 x 1) 2=U3 x (1+1)):=Qd (Ufs HS.out (j:=1) (by omega) hb);rw[hb] at xb;clear hb;have hwp:IntKind.u64.wrap 2=2:=by decide
     generalize U3 x 1=tj at *;generalize hn:U3 x (1+1)=tn at *;have HN2:=Qd hn;have hor:=HN.out;clear hn;go_upto_region 8 with fail
     clear ix xb;refine Uis ?_;refine Uk (S:=fun w'=>Box w' gt 33 #[.int .u64 tj]) 4 4 (by kernel_rfl) rfl (by kernel_rfl) (by decide) HR.out.t.drew (fun hHeld=>?_);refine Qe 0 (.int .u64 tj) (fun w hw=>?_) ?_
     ·have xt:=hw.cell 0;go_simp
     simp only[Qz];refine Qn 1 (.int .i64 ((1:Nat):Int)) ?_;refine Qn 2 (.int .u64 2) ?_;refine Qn 3 (.int .u64 tn) ?_;refine Xl (by kernel_rfl) ?_ _;have xt:=HR.out.t.drew.cell 0;have ft:=HR.out.t.drew.frozen 0;refine U4 rfl (by rfl) ?_;go_simp;simp only[Umn];refine Yn fun W9 hW9=>?_
     have R9:Hid (WfR w gt x tn W9):=Qd (HR.out.drew.put hW9);clear hW9 hHeld xt ft HR;clear hor hwp;go_wp2_with fail;go_roundw
     case rel=>exact⟨1+1,by omega,by go_num,by rw[HN2.out];exact R9⟩
     case measure=>simp[intOf]
   ·have ix:∀W,(Instr.index 109 (.agg FA) (.int .i64 2)).run prog W = .ok (.pointer (some ⟨w.heap.size,22,none⟩)) W:=by rw[←HFA.out];exact Ub9 w.heap.size (j:=2) (by omega)
    have xb:wr.cell? ⟨w.heap.size,22,none⟩=some (.bool (Ujh x 2)):=(HR.out.x.cell 22).trans (by have:=Uun x (j:=2) (by omega);simpa [Sta.cells] using this);cases hb:Ujh x 2
    ·have HN:Hid (U3 x (2+1)=U3 x 2):=Qd (Uft (by omega) hb);rw[hb] at xb;clear hb;go_wp2_with fail;clear ix xb;go_roundw
     case rel=>exact⟨2+1,by omega,by go_num,by rw[HN.out];exact HR⟩
     case measure=>simp[intOf]
    ·have HN:Hid (bits .or .u64 (U3 x 2) 4=U3 x (2+1)):=Qd (Ufs HS.out (j:=2) (by omega) hb);rw[hb] at xb;clear hb;have hwp:IntKind.u64.wrap 4=4:=by decide
     generalize U3 x 2=tj at *;generalize hn:U3 x (2+1)=tn at *;have HN2:=Qd hn;have hor:=HN.out;clear hn;go_upto_region 8 with fail
     clear ix xb;refine Uis ?_;refine Uk (S:=fun w'=>Box w' gt 33 #[.int .u64 tj]) 4 4 (by kernel_rfl) rfl (by kernel_rfl) (by decide) HR.out.t.drew (fun hHeld=>?_);refine Qe 0 (.int .u64 tj) (fun w hw=>?_) ?_
     ·have xt:=hw.cell 0;go_simp
     simp only[Qz];refine Qn 1 (.int .i64 ((2:Nat):Int)) ?_;refine Qn 2 (.int .u64 4) ?_;refine Qn 3 (.int .u64 tn) ?_;refine Xl (by kernel_rfl) ?_ _;have xt:=HR.out.t.drew.cell 0;have ft:=HR.out.t.drew.frozen 0;refine U4 rfl (by rfl) ?_;go_simp;simp only[Umn];refine Yn fun W9 hW9=>?_
     have R9:Hid (WfR w gt x tn W9):=Qd (HR.out.drew.put hW9);clear hW9 hHeld xt ft HR;clear hor hwp;go_wp2_with fail;go_roundw
     case rel=>exact⟨2+1,by omega,by go_num,by rw[HN2.out];exact R9⟩
     case measure=>simp[intOf]
   ·have ix:∀W,(Instr.index 109 (.agg FA) (.int .i64 3)).run prog W = .ok (.pointer (some ⟨w.heap.size,28,none⟩)) W:=by rw[←HFA.out];exact Ub9 w.heap.size (j:=3) (by omega)
    have xb:wr.cell? ⟨w.heap.size,28,none⟩=some (.bool (Ujh x 3)):=(HR.out.x.cell 28).trans (by have:=Uun x (j:=3) (by omega);simpa [Sta.cells] using this);cases hb:Ujh x 3
    ·have HN:Hid (U3 x (3+1)=U3 x 3):=Qd (Uft (by omega) hb);rw[hb] at xb;clear hb;go_wp2_with fail;clear ix xb;go_roundw
     case rel=>exact⟨3+1,by omega,by go_num,by rw[HN.out];exact HR⟩
     case measure=>simp[intOf]
    ·have HN:Hid (bits .or .u64 (U3 x 3) 8=U3 x (3+1)):=Qd (Ufs HS.out (j:=3) (by omega) hb);rw[hb] at xb;clear hb;have hwp:IntKind.u64.wrap 8=8:=by decide
     generalize U3 x 3=tj at *;generalize hn:U3 x (3+1)=tn at *;have HN2:=Qd hn;have hor:=HN.out;clear hn;go_upto_region 8 with fail
     clear ix xb;refine Uis ?_;refine Uk (S:=fun w'=>Box w' gt 33 #[.int .u64 tj]) 4 4 (by kernel_rfl) rfl (by kernel_rfl) (by decide) HR.out.t.drew (fun hHeld=>?_);refine Qe 0 (.int .u64 tj) (fun w hw=>?_) ?_
     ·have xt:=hw.cell 0;go_simp
     simp only[Qz];refine Qn 1 (.int .i64 ((3:Nat):Int)) ?_;refine Qn 2 (.int .u64 8) ?_;refine Qn 3 (.int .u64 tn) ?_;refine Xl (by kernel_rfl) ?_ _;have xt:=HR.out.t.drew.cell 0;have ft:=HR.out.t.drew.frozen 0;refine U4 rfl (by rfl) ?_;go_simp;simp only[Umn];refine Yn fun W9 hW9=>?_
     have R9:Hid (WfR w gt x tn W9):=Qd (HR.out.drew.put hW9);clear hW9 hHeld xt ft HR;clear hor hwp;go_wp2_with fail;go_roundw
     case rel=>exact⟨3+1,by omega,by go_num,by rw[HN2.out];exact R9⟩
     case measure=>simp[intOf]
  ·have hge:¬(j:Int)<4:=by omega
   obtain rfl:j=4:=by omega
   clear hlt hge hj;have HT:Hid (W64 (U3 x 4)):=Qd (by have:=Uq0 HS.out 4;unfold W64;omega);have HWT:Hid (U0 x=Uj0.map (Uaq x (U3 x 4))++[Uin (Uj0.map (Uaq x (U3 x 4)))]):=Qd rfl;have H64:=Qd (U51 HS.out);obtain⟨tt,htt⟩:∃tt,U3 x 4=tt:=⟨_,rfl⟩;rw[htt] at HR HT HWT H64;clear htt;go_wp2_with fail;refine(Uqv w.heap.size _).mono ?_;rintro e w6 ⟨A,c,gl,rfl,hE⟩;obtain⟨gr,c',hA,hgr1,hgr2⟩:=hE.own.form (show 0<(Uek w.heap.size 3).length by rw[Udu];omega);rw[Udu] at hA;injection hA with hA1 hA2 hA3
   subst hA1 hA3;have hbw:Below wr.heap.size wr w6:=((Xb _ wr).alloc (Xa _) _).trans (hE.below.mono (by simp));have HR6:=Qd (HR.out.kept hbw);have B6:Hid (Box w6 wr.heap.size 31 #[.slice none 0 0]):=Qd ((Box.new wr _ _).kept hE.below);have HL:=Qd (hE.l.cell 0);have HRR:Hid (w6.rangeAt gr 0 (Uj0.map (Uum w.heap.size))):=Qd (by rw[Uqz];exact fun j u hu=>by have:=hE.own.cells (g:=gr) rfl j u hu;rw[Ua7] at this;exact this);have hl1:=hE.l.lt;have hl2:=hE.lg;have hl3:=HR.out.t.lt;simp only[World.size_alloc] at hl2 hgr1;clear hE hbw HR hA2;generalize wr.heap.size=g6 at *;go_wp2_with fail;refine U4j fun a0 ha0=>?_
   refine(wpIn_wide (n:=3)).1 ?_;refine wpIn_rangeFunc_ownF rfl (by omega) (gf:=68) (lb:=#[.pointer (some ⟨gl,0,none⟩)]) (by rw[ha0];rfl) trivial (enters_of func68 (by kernel_rfl) rfl)
    (Uly (Uum w.heap.size) 1 gl gr c 25 Uj0 rfl (by omega) w6 HL.out HRR.out hl1 hgr2) (Ulx gr) (Uz6 hgr2) (Xb _ _) (fun _=>rfl)
    (fun pre W=>WdR w gt w6.heap.size g6 x tt (pre.map (Uaq x tt)) W) (fun _ _ _=>False) (U50 w gt _ _ g6 x tt (fun pre=>pre.map (Uaq x tt)) HR6.out.below.size) (fun _ _ _ _ _ hs _ _=>hs)
    ⟨HR6.out,Xa _,_,B6.out,⟨World.ownsRow_nil _ _ _ _,by simp⟩⟩
    (fun z=>⟨(a0.tmps.setIfInBounds 29 (Uum w.heap.size z)).setIfInBounds 7 (Uum w.heap.size z),[]⟩)
    ?assign ?body ?done ?stop
   case assign =>
    intro l z W K hK;rw[ha0] at hK ⊢;simp only[Qz] at hK
    gi_wp2
    exact hK
   case body =>
    rintro l pre z W ⟨H1,hz,v,bl,own⟩ hlt;rw[ha0];simp only[Qz];obtain⟨A2,c2,hv,hc1,hc2⟩:=Zz own.1;subst hv;have hgt:gt<g6:=hl3;have hg6:g6<w6.heap.size:=B6.out.lt;have hrW:gr<W.heap.size:=by omega
    have HT2:=HT.out;obtain⟨n,hn⟩:∃n,(pre.map (Uaq x tt)).length=n:=⟨_,rfl⟩;have hn25:n<25:=by rw[←hn,List.length_map];exact hlt
    have own1:W.ownsRow w6.heap.size 33 1 (.slice A2 n c2) n (Uam (pre.map (Uaq x tt))):=by have:=own.1;rw[hn] at this;exact this
    have HNN:=Qd hn;rw[hn] at bl own hc1;clear hn;have OWN:=Qd own;have OW1:=Qd own1;have BL:=Qd bl;have HH1:=Qd H1;have HZ:=Qd hz;clear own own1 bl H1 hz;cases z with
    | none =>
     simp only[Uum];have cl:=BL.out.cell 0;have ct:=HH1.out.t.cell 0
     gi_wp2_with (gi_at_builtin;refine Uhs rfl _ _ 31 rfl w6.heap.size 33 i0 _ 1 8 underlying31 hi hz0 hz1 hz2 rfl (by decide) _ _ _ rfl (OW1.out.alloc _) _ 1 [.int .u64 tt] rfl (Sl.of_own (Yt _ _ 1 #[.int .u64 tt] 1 rfl (by decide))) (by intro u hu;simp at hu;subst hu;rfl) (by simp only[maxLen];omega) (by omega) (by have:=HZ.out;simp;omega) ?_)
     intro v' w' hown hgrow hat;have HA:=Qd (WdR.app (gr:=gr) HH1.out BL.out OWN.out (by rw[HNN.out];exact hown) hgrow HT2 hgt hg6 (by omega) (by omega) hrW HZ.out);obtain⟨A3,c3,hv3,-,-⟩:=Zz hown;subst hv3;clear hown hgrow hat cl ct;have cl:=HA.out.1.cell 0;have fl:=HA.out.1.frozen 0
     gi_wp2
     exact⟨HA.out.2.2.1,HA.out.2.2.2,by dsimp only;rw[List.map_append];exact HA.out.2.1⟩
    | some f =>
     simp only[Uum,ptr];have HCF:Hid (x.cells[f.off]? = some (.int .i64 (U29 x f.off))):=Qd (by have:=U7u x f;simpa [Sta.cells] using this);have HUU:Hid (IntKind.u64.wrap (U29 x f.off)=Ubr (U29 x f.off)):=Qd rfl;have HWW:Hid (W64 (Ubr (U29 x f.off))):=Qd (Ujd _);have HWA:Hid (Uaq x tt (some f)=Ubr (U29 x f.off)):=Qd rfl;obtain⟨fo,fok⟩:=f;dsimp only at HCF HUU HWW HWA ⊢;generalize Ubr (U29 x fo)=uu at *;generalize U29 x fo=fv at *;have hconv:=HUU.out
     gi_upto_region 15 with fail
     refine Uz7 ?_;refine Ujz (S:=fun w'=>Box w' g6 31 #[.slice A2 n c2]∧Box w' w.heap.size 52 x.cells) 7 7 (by kernel_rfl) (by kernel_rfl) (fun _ _ h=>h) (by kernel_rfl) (by kernel_rfl) (by decide) ⟨BL.out.drew,HH1.out.x.drew⟩ (fun hHeld=>?_);refine Qe 0 (.slice A2 n c2) (fun w hw=>?_) ?_
     ·have xl:=hw.1.cell 0;go_simp
     simp only[Qz];refine Qn 1 (.pointer (some ⟨w.heap.size,fo,none⟩)) ?_;refine Qn 2 (.pointer (some ⟨w.heap.size,fo,none⟩)) ?_;refine Qe 3 (.int .i64 fv) (fun w hw=>?_) ?_
     ·have xf:=(hw.2.cell fo).trans HCF.out;go_simp
     simp only[Qz];refine Qn 4 (.int .u64 uu) ?_;refine Ut fun WD hWD=>?_
     have OD:Hid (WD.ownsRow w6.heap.size 33 1 (.slice A2 n c2) n (Uam (pre.map (Uaq x tt)))):=Qd (by rw[hWD];exact Zk (X:=fun _=>False) OW1.out ((Chg.refl _ _).drew) (fun _ _ hx=>hx));have HD:Hid (WfR w gt x tt WD∧Box WD g6 31 #[.slice A2 n c2]∧Own WD w6.heap.size (.slice A2 n c2) (pre.map (Uaq x tt))∧KeepsOthers W WD∧Ujy gr W WD∧w6.heap.size≤WD.heap.size∧gr<WD.heap.size):=Qd (by rw[hWD];exact⟨HH1.out.drew,BL.out.drew,⟨Zk (X:=fun _=>False) OWN.out.1 ((Chg.refl _ _).drew) (fun _ _ hx=>hx),OWN.out.2⟩,KeepsOthers.drew W,rfl,HZ.out,hrW⟩);replace hHeld:=Xc HD.out.2.1 HD.out.1.x;clear hWD;refine Qc 5 fun KQ hKQ=>?_
     go_simp;refine hKQ.out _ _ ⟨HD.out.2.1.alloc _,HD.out.1.x.alloc _⟩ (fun hHeld=>?_);clear hKQ KQ;refine Qc 6 fun KQ hKQ=>?_
     rw[if_pos (by rfl)];refine Zm _ _ _ 31 rfl w6.heap.size 33 i0 _ 1 8 underlying31 hi hz0 hz1 hz2 rfl (by decide) _ _ _ rfl (OD.out.alloc _) (.slice (some ⟨WD.heap.size,0,none⟩) 1 1) 1 [.int .u64 uu] rfl (Sl.of_own (Yt _ _ 1 #[.int .u64 uu] 1 rfl (by decide))) (by intro u hu;simp at hu;subst hu;rfl) (by simp only[maxLen];omega) (by omega) (by have:=HD.out.2.2.2.2.2.1;simp;omega) ?_;intro v' w' hown hgrow hat;have HA:=Qd (WdR.app (gr:=gr) HD.out.1 HD.out.2.1 HD.out.2.2.1 (by rw[HNN.out];exact hown) hgrow HWW.out hgt hg6 (by omega) (by omega) HD.out.2.2.2.2.2.2 HD.out.2.2.2.2.2.1);have HXX:Hid (Box w' w.heap.size 52 x.cells):=Qd ((hgrow.block _ (HD.out.1.x.alloc _).lt (fun e=>by have:=(OD.out.lt _ e.symm).1;have:=HD.out.1.lt;omega)).trans (HD.out.1.x.alloc _));obtain⟨A3,c3,hv3,-,-⟩:=Zz hown;subst hv3;clear hown hgrow hat;go_simp;refine hKQ.out _ _ ⟨HA.out.1,HXX.out⟩ (fun hHeld=>?_);clear hKQ KQ;refine Xl (by kernel_rfl) ?_ _;have cl:=HA.out.1.cell 0;have fl:=HA.out.1.frozen 0;refine U4 rfl (by rfl) ?_;go_simp;simp only[Umn];have HK:Hid (KeepsOthers W (w'.setCell ⟨g6,0,none⟩ (.slice A3 (n+1) c3))∧Ujy gr W (w'.setCell ⟨g6,0,none⟩ (.slice A3 (n+1) c3))∧WdR w gt w6.heap.size g6 x tt ((pre++[(some ⟨fo,fok⟩:Option Fld)]).map (Uaq x tt)) (w'.setCell ⟨g6,0,none⟩ (.slice A3 (n+1) c3))) :=
      Qd ⟨HD.out.2.2.2.1.trans HA.out.2.2.1,Ulx gr HD.out.2.2.2.2.1 HA.out.2.2.2,by rw[List.map_append,List.map_cons,List.map_nil,HWA.out];exact HA.out.2.1⟩
     exact HK.out
   case done =>
    rintro D ys W hD rfl ⟨H1,hz,v,bl,own⟩ hK;rw[ha0];clear ha0;obtain⟨A2,c2,hv,hc1,hc2⟩:=Zz own.1;subst hv;have hn25:(Uj0.map (Uaq x tt)).length=25:=rfl;rw[hn25] at bl hc1;have own1:W.ownsRow w6.heap.size 33 1 (.slice A2 25 c2) 25 (Uam (Uj0.map (Uaq x tt))):=own.1;have KM:=Qd (fun W hb=>Uhp (w:=W) (v := .slice A2 25 c2) (ms:=Uj0.map (Uaq x tt)) hb (by rw[hn25];decide));have HWF:=Qd (U4e (Uj0.map (Uaq x tt)));rw[hn25] at own;generalize Uin (Uj0.map (Uaq x tt))=sm at *;dsimp only[Exit.inBlock,Exit.then];go_upto_region 16 with fail
    refine Uis ?_;refine Xm (S:=fun w'=>Box w' g6 31 #[.slice A2 25 c2]) (by kernel_rfl) bl.drew (fun hHeld=>?_);refine Qe 0 (.slice A2 25 c2) (fun w hw=>?_) ?_
    ·have xl:=hw.cell 0;go_simp
    simp only[Qz];refine Qe 1 (.slice A2 25 c2) (fun w hw=>?_) ?_
    ·have xl:=hw.cell 0;go_simp
    simp only[Qz];refine Ut fun WD hWD=>?_
    have OD:Hid (Own WD w6.heap.size (.slice A2 25 c2) (Uj0.map (Uaq x tt))):=Qd (by rw[hWD];exact⟨Zk (X:=fun _=>False) own.1 ((Chg.refl _ _).drew) (fun _ _ hx=>hx),own.2⟩);have OD1:Hid (WD.ownsRow w6.heap.size 33 1 (.slice A2 25 c2) 25 (Uam (Uj0.map (Uaq x tt)))):=Qd (by rw[hWD];exact Zk (X:=fun _=>False) own1 ((Chg.refl _ _).drew) (fun _ _ hx=>hx));have HD:Hid (Box WD g6 31 #[.slice A2 25 c2]∧WD.heap[D]? = some (.deferred (some []))∧Below w.heap.size w WD∧w6.heap.size≤WD.heap.size):=Qd (by rw[hWD];exact⟨bl.drew,hK,Ue H1.below 1,hz⟩);replace hHeld:=HD.out.1;clear hWD own own1 bl H1 hK hz hc1 hc2;refine Qc 2 fun KQ hKQ=>?_
    go_simp;refine(KM.out _ OD.out.words).mono ?_;rintro e wc ⟨rfl,rfl⟩;refine hKQ.out _ _ HD.out.1 (fun hHeld=>?_);clear hKQ KQ;refine Qc 3 fun KQ hKQ=>?_
    go_simp;refine hKQ.out _ _ (HD.out.1.alloc _) (fun hHeld=>?_);clear hKQ KQ;refine Qc 4 fun KQ hKQ=>?_
    rw[if_pos (by rfl)];refine Zm _ _ _ 31 rfl w6.heap.size 33 i0 _ 1 8 underlying31 hi hz0 hz1 hz2 rfl (by decide) _ _ _ rfl (OD1.out.alloc _) (.slice (some ⟨WD.heap.size,0,none⟩) 1 1) 1 [.int .u64 sm] rfl (Sl.of_own (Yt _ _ 1 #[.int .u64 sm] 1 rfl (by decide))) (by intro u hu;simp at hu;subst hu;rfl) (by simp[maxLen]) (by omega) (by have:=HD.out.2.2.2;simp;omega) ?_;intro v' w' hown hgrow hat;obtain⟨A3,c3,hv3,-,-⟩:=Zz hown;subst hv3;have HK4:Hid (w'.heap[D]? = some (.deferred (some []))∧w'.ownsRow w6.heap.size 33 1 (.slice A3 26 c3) (Uj0.map (Uaq x tt)++[sm]).length (Uam (Uj0.map (Uaq x tt)++[sm]))∧Below w.heap.size w w'):=Qd ⟨(hgrow.block D (by have:=(Array.getElem?_eq_some_iff.1 HD.out.2.1).1;simp;omega) (fun e=>Uz8 OD1.out HD.out.2.1 e.symm rfl)).trans ((Below.heap_alloc WD _ D (Array.getElem?_eq_some_iff.1 HD.out.2.1).1).trans HD.out.2.1),by rw[show Uam (Uj0.map (Uaq x tt)++[sm])=Uam (Uj0.map (Uaq x tt))++[.int .u64 sm] by simp[Uam]];exact hown,(HD.out.2.2.1.alloc HD.out.2.2.1.size _).grown hgrow (by have:=HD.out.2.2.1.size;simp;omega) (fun k e=>by have:=(OD1.out.lt k e).1;have:=HR6.out.below.size;omega)⟩;have HGB:Hid (Box w' g6 31 #[.slice A2 25 c2]):=Qd ((hgrow.block _ (HD.out.1.alloc _).lt (fun e=>by have:=(OD1.out.lt _ e.symm).1;have:=B6.out.lt;omega)).trans (HD.out.1.alloc _));clear hown hgrow hat;go_simp;refine hKQ.out _ _ HGB.out (fun hHeld=>?_);clear hKQ KQ;refine Qn 5 (.slice A3 26 c3) ?_;refine Xl (by kernel_rfl) ?_ _;simp only[Umn];refine Yn fun W9 hW9=>?_
    have K9:=Qd HK4.out;rw[←hW9] at K9;clear hW9 hHeld;go_wp2_with fail;refine⟨by simp,.inl ⟨_,_,rfl,run_takeDeferred K9.out.1,?_⟩⟩;have hpo:=grownBy_putObj' W9 D (.deferred none);refine⟨.slice A3 26 c3,?_,_,rfl,?_,?_⟩
    ·simp[results,results91,go_sem]
    ·rw[HWT.out]
     exact⟨Zk (X:=fun k=>some D=some k) (U2l K9.out.2.1 HR6.out.below.size) (Chg.grown hpo (fun k e=>e)) (fun k hk e=>Uz8 K9.out.2.1 K9.out.1 hk (by injection e)),fun z hz=>by
      rcases List.mem_append.1 hz with h|h
      ·exact H64.out Uj0 z h
      ·simp at h;subst h;exact HWF.out⟩
    ·exact K9.out.2.2.grown hpo K9.out.2.2.size (fun k e=>by injection e with e;have:=HR6.out.below.size;omega)
   case stop =>
    rintro D c pre W _ _ h _;exact h.elim
end Go.Proofs.YtdaflmjfeoacaaaGreat
