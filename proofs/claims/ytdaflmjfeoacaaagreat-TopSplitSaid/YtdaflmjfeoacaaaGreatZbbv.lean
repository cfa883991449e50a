/- Part of the proof of TopTry, TopSplit: ToO. Conditions: none. -/
import Derived.Test.YtdaflmjfeoacaaaGreatZbbu
import Derived.Test.YtdaflmjfeoacaaaGreatChecked
import Derived.ProofKit
import Derived.OpenShut
import Derived.ShutString
import Derived.ChangeOld
import Derived.Deep.Slices
import Derived.Deep.Fields
import Derived.ChangeSame
import Derived.Lib.SmallJoins
set_option linter.all false
set_option maxHeartbeats 16000000
set_option maxRecDepth 4000
namespace Go.Proofs.YtdaflmjfeoacaaaGreat
open Tryz
open Go.RowKit Go.ChangeShapes Go.WideShapes Go.Deep
theorem own:ownKnob prog.godebug=none:=by kernel_rfl
theorem Ugr:laidOutB prog=true:=by kernel_rfl
section
variable {H:Type} {enc:TypeId×Value→H} {P:Program} {w:World} {base:Nat} {held:Bool}
theorem Ure {α:Type}(f:α→List Value)(C:Nat)(l:List α)(hf:∀x∈l,(f x).length=C):(l.flatMap f).length=l.length*C:=by
 induction l with
 | nil=>simp
 | cons x l ih=>rw[List.flatMap_cons,List.length_append,ih (fun y hy=>hf y (by simp[hy])),hf x (by simp),List.length_cons,Nat.add_mul];omega
theorem Uxj {α:Type}(f:α→List Value)(C n:Nat)(F:Nat→α)(hf:∀i,(f (F i)).length=C)(hC:0<C)(j:Nat)(u:Value)(h:(((List.range n).map F).flatMap f)[j]? = some u) :
  j / C<n∧(f (F (j / C)))[j % C]? = some u:=by
 have hl:(((List.range n).map F).flatMap f).length=n*C:=by
  rw[Ure f C _ (by intro x hx;simp at hx;obtain⟨i,_,rfl⟩:=hx;exact hf i)];simp
 have hj:j<n*C:=by rw[←hl];exact(List.getElem?_eq_some_iff.1 h).1
 have hq:j / C<n:=Nat.div_lt_of_lt_mul (by rw[Nat.mul_comm];exact hj);have hr:j % C<C:=Nat.mod_lt _ hC;refine⟨hq,?_⟩;have hg:=Ufi f C ((List.range n).map F) (by intro x hx;simp at hx;obtain⟨i,_,rfl⟩:=hx;exact hf i) (j / C) (j % C) (by simpa using hq) hr;rw[Nat.mul_comm,Nat.div_add_mod] at hg;rw[hg] at h;simpa using h
theorem Upe {α:Type}(f:α→List Value)(ok:α→Prop)(C:Nat){t e:TypeId}{fuel:Nat}{v:Value}{x:DataW H×List MemPlace}
  (ht:P.underlying t=some (.slice e)) (hC:P.cellsOf e=C) (hC0:0<C) (hf:∀x,(f x).length=C)
  (hel:∀n cs y,DataW.trod enc P w base (fun _=>true) held n e cs=some y→∃x,cs=f x∧ok x)
  (h:DataW.trod enc P w base (fun _=>true) held fuel t [v]=some x) :
  ∃l:List α,Sl w v C l.length (l.flatMap f)∧∀x∈l,ok x:=by
 rcases open_slice ht h with ⟨h0,_⟩|⟨a,len,cap,m,n,D,Pl,hcs,hb,hl,hm,hmm,hx,hi⟩
 ·injection h0 with h0
  subst h0;exact⟨[],Sl.nil w C,by simp⟩
 ·injection hcs with hcs
  subst hcs;simp only[if_true] at hmm;have hex:∀i,i<m→∃x,(∀j u,(f x)[j]? = some u→w.cell? ((a.add (i*C)).add j)=some u)∧ok x:=by
   intro i him;obtain⟨cs',hc,ht'⟩:=hi i him;rw[hC] at hc;obtain⟨_,hcl,hat⟩:=World.cells?_some hc;obtain⟨x,rfl,hx⟩:=hel _ _ _ ht';exact⟨x,fun j u hu=>by rw[hat j (by have:=(List.getElem?_eq_some_iff.1 hu).1;omega),hu],hx⟩
  by_cases hn:len=0
  ·subst hn;exact⟨[],⟨by simp,some a,cap,rfl,by simp,hm,(fun e=>by cases e),fun h=>absurd h (by simp)⟩,by simp⟩
  ·have h0:0<m:=by omega
   obtain⟨x0,_⟩:=hex 0 h0;have hch:∃F:Nat→α,∀i,i<m→(∀j u,(f (F i))[j]? = some u→w.cell? ((a.add (i*C)).add j)=some u)∧ok (F i) :=
    ⟨fun i=>if hi:i<m then (hex i hi).choose else x0,fun i hi=>by simp only[hi,dif_pos];exact(hex i hi).choose_spec⟩
   obtain⟨F,hF⟩:=hch;refine⟨(List.range len).map F,⟨?_,some a,cap,?_,?_,hm,(fun e=>by cases e),fun _=>⟨a,rfl,?_,?_⟩⟩,?_⟩
   ·rw[Ure f C _ (by intro x hx;simp at hx;obtain⟨i,_,rfl⟩:=hx;exact hf _)]
   ·simp
   ·simpa using hl
   ·obtain⟨hc,_⟩:=hF 0 h0;have h00:0<(f (F 0)).length:=by rw[hf];exact hC0
    have:=World.block_lt_of_cell? w _ (hc 0 _ (Xj h00));simpa [Ugt] using this
   ·intro j u hu;obtain⟨hq,hu'⟩:=Uxj f C len F (fun _=>hf _) hC0 j u hu;have:=(hF (j / C) (by omega)).1 _ _ hu'
    rwa [U4w,Nat.mul_comm,Nat.div_add_mod] at this
   ·intro x hx;simp at hx;obtain⟨i,hi,rfl⟩:=hx;exact(hF i (by omega)).2
theorem U8c {n:Int}(h:(Lit.int .u64 n).wf=true):W64 n:=by
 simp[Lit.wf,IntKind.min,IntKind.max,IntKind.bits,IntKind.signed] at h;unfold W64;omega
theorem U8d {n:Int}(h:(Lit.int .i64 n).wf=true):I64 n:=by
 simp[Lit.wf,IntKind.min,IntKind.max,IntKind.bits,IntKind.signed] at h;unfold I64;omega
end
section
variable {H:Type} {enc:TypeId×Value→H} {w:World} {base:Nat} {held:Bool}
theorem Upf {α:Type}(g:α→Value)(l:List α):l.flatMap (fun x=>[g x])=l.map g:=by
 induction l with
 | nil=>rfl
 | cons x l ih=>rw[List.flatMap_cons,ih];rfl
theorem Unu {fuel:Nat}{v:Value}{x:DataW H×List MemPlace}(h:DataW.trod enc prog w base (fun _=>true) held fuel 31 [v]=some x):∃ms,Yx w v ms:=by
 obtain⟨l,h1,h2⟩:=Upe (fun x:Int=>[.int .u64 x]) W64 1 underlying31 (by kernel_rfl) (by omega) (fun _=>rfl)
  (fun n cs y hy=>by obtain⟨n,rfl,_,hw⟩:=DataW.trod_int underlying33 hy;exact⟨n,rfl,U8c hw⟩) h
 have e:l.flatMap (fun x:Int=>[Value.int .u64 x])=Uam l:=Upf _ _;rw[e] at h1;exact⟨l,h1,h2⟩
theorem Uu1 {n:Nat}{t:TypeId}(hu:prog.underlying t=some (.array n 3))(hC:prog.cellsOf t=n){fuel:Nat}{cs:List Value}{x:DataW H×List MemPlace}(h:DataW.trod enc prog w base (fun _=>true) held fuel t cs=some x):∃l:List Int,cs=Ucb l∧l.length=n:=by
 obtain⟨xs,m,rfl,_,hl,hx,hi⟩:=DataW.trod_array hu h;rw[hC] at hl;have hc1:prog.cellsOf 3=1:=by kernel_rfl
 rw[hc1] at hi;have hex:∀i,i<n→∃q:Int,cs[i]? = some (.int .i64 q):=by
  intro i hin;have h1:=hi i hin;rw[Nat.mul_one,List.drop_eq_getElem_cons (by omega)] at h1;simp only[List.take_succ_cons,List.take_zero] at h1;have hys:xs[i]? = some (xs[i]'(by omega)):=Xj (by omega);obtain⟨q,e,_,_⟩:=DataW.trod_int underlying3 (h1.trans hys);injection e with e
  exact⟨q,by rw[Xj (by omega),e]⟩
 have:∀(k:Nat) (c:List Value),(∀i,i<k→∃q:Int,c[i]? = some (.int .i64 q))→c.length=k→∃l:List Int,c=Ucb l∧l.length=k:=by
  intro k
  induction k with
  | zero=>intro c _ hc;exact⟨[],by simpa [Ucb] using hc,rfl⟩
  | succ k ih =>
   intro c hc hcl;cases c with
   | nil=>simp at hcl
   | cons d c =>
    obtain⟨q,hq⟩:=hc 0 (by omega);obtain⟨l,e,hl⟩:=ih c (fun i hi=>by have:=hc (i+1) (by omega);simpa using this) (by simpa using hcl);simp at hq;subst hq e;exact⟨q::l,by simp[Ucb],by simp[hl]⟩
 exact this n cs hex hl
theorem Unv {l:List Int}(h:l.length=3):∃a b c,Ucb l=[.int .i64 a,.int .i64 b,.int .i64 c]:=by
 match l,h with
 | [a,b,c],_=>exact⟨a,b,c,rfl⟩
theorem U8e {l:List Value}(h:l.length=5):∃a b c d e,l=[a,b,c,d,e]:=by
 match l,h with
 | [a,b,c,d,e],_=>exact⟨a,b,c,d,e,rfl⟩
theorem U1g {cs:List Value}{j:Nat}(h:j<cs.length):(cs.drop j).take 1=[cs[j]]:=by
 rw[List.drop_eq_getElem_cons h];rfl
theorem Ub2 {fuel:Nat}{cs:List Value}{x:DataW H×List MemPlace}(h:DataW.trod enc prog w base (fun _=>true) held fuel 26 cs=some x):∃c:Ul8,cs=c.list:=by
 obtain⟨ys,n',hn',hy,hlen,hyl,hf⟩:=DataW.trod_struct underlying26 h;have hl:cs.length=5:=by rw[hlen];kernel_rfl
 have hyl':ys.length=3:=by rw[hyl];rfl
 have at_:∀(j:Nat) (hj:j<3),ys[j]? = some (ys[j]'(by omega)):=fun j hj=>Xj (by omega)
 have t0:DataW.trod enc prog w base (fun _=>true) held n' 24 ((cs.drop 0).take (prog.cellsOf 24))=some (ys[0]'(by omega)):=(hf 0 _ rfl).trans (at_ 0 (by omega));have t1:DataW.trod enc prog w base (fun _=>true) held n' 3 ((cs.drop 3).take (prog.cellsOf 3))=some (ys[1]'(by omega)):=(hf 1 _ rfl).trans (at_ 1 (by omega));have t2:DataW.trod enc prog w base (fun _=>true) held n' 3 ((cs.drop 4).take (prog.cellsOf 3))=some (ys[2]'(by omega)):=(hf 2 _ rfl).trans (at_ 2 (by omega));rw[show prog.cellsOf 3=1 by kernel_rfl,U1g (by omega)] at t1 t2;rw[show prog.cellsOf 24=3 by kernel_rfl] at t0;obtain⟨l,e0,hl3⟩:=Uu1 (n:=3) underlying24 (by kernel_rfl) t0;obtain⟨a,b,c,e3⟩:=Unv hl3;obtain⟨g,e1,_,_⟩:=DataW.trod_int underlying3 t1;obtain⟨m,e2,_,_⟩:=DataW.trod_int underlying3 t2;injection e1 with e1;injection e2 with e2
 refine⟨⟨⟨a,b,c⟩,g,m⟩,?_⟩;rw[e3] at e0;obtain⟨c0,c1,c2,c3,c4,rfl⟩:=U8e hl;simp at e0 e1 e2;obtain⟨rfl,rfl,rfl⟩:=e0;subst e1 e2
 rfl
theorem Umq {fuel:Nat}{cs:List Value}{x:DataW H×List MemPlace}(h:DataW.trod enc prog w base (fun _=>true) held fuel 40 cs=some x):∃s:Smp,cs=sml s:=by
 obtain⟨ys,n',hn',hy,hlen,hyl,hf⟩:=DataW.trod_struct underlying40 h;have hl:cs.length=5:=by rw[hlen];kernel_rfl
 have hyl':ys.length=3:=by rw[hyl];rfl
 have at_:∀(j:Nat) (hj:j<3),ys[j]? = some (ys[j]'(by omega)):=fun j hj=>Xj (by omega)
 have t0:DataW.trod enc prog w base (fun _=>true) held n' 3 ((cs.drop 0).take (prog.cellsOf 3))=some (ys[0]'(by omega)):=(hf 0 _ rfl).trans (at_ 0 (by omega));have t1:DataW.trod enc prog w base (fun _=>true) held n' 3 ((cs.drop 1).take (prog.cellsOf 3))=some (ys[1]'(by omega)):=(hf 1 _ rfl).trans (at_ 1 (by omega));have t2:DataW.trod enc prog w base (fun _=>true) held n' 24 ((cs.drop 2).take (prog.cellsOf 24))=some (ys[2]'(by omega)):=(hf 2 _ rfl).trans (at_ 2 (by omega));rw[show prog.cellsOf 3=1 by kernel_rfl,U1g (by omega)] at t0 t1;rw[show prog.cellsOf 24=3 by kernel_rfl] at t2;obtain⟨l,e2,hl3⟩:=Uu1 (n:=3) underlying24 (by kernel_rfl) t2;obtain⟨a,b,c,e3⟩:=Unv hl3;obtain⟨t,e0,_,_⟩:=DataW.trod_int underlying3 t0;obtain⟨s,e1,_,_⟩:=DataW.trod_int underlying3 t1;injection e0 with e0;injection e1 with e1
 refine⟨⟨t,s,⟨a,b,c⟩⟩,?_⟩;rw[e3] at e2;obtain⟨c0,c1,c2,c3,c4,rfl⟩:=U8e hl;simp at e0 e1 e2;obtain⟨rfl,rfl,rfl⟩:=e2;subst e0 e1
 rfl
theorem U1h {fuel:Nat}{v:Value}{x:DataW H×List MemPlace}(h:DataW.trod enc prog w base (fun _=>true) held fuel 41 [v]=some x):∃l,SmX (fun _=>False) w v l:=by
 obtain⟨l,h1,_⟩:=Upe sml (fun _=>True) 5 underlying41 (by kernel_rfl) (by omega) (fun _=>rfl) (fun n cs y hy=>by obtain⟨s,hs⟩:=Umq hy;exact⟨s,hs,trivial⟩) h;exact⟨l,h1,fun _ _ _ _ _ hx=>hx.elim⟩
theorem U3v {fuel:Nat}{v:Value}{x:DataW H×List MemPlace}(h:DataW.trod enc prog w base (fun _=>true) held fuel 28 [v]=some x):∃l,PkX (fun _=>False) w v l:=by
 obtain⟨l,h1,h2⟩:=Upe (fun x:Int=>[.int .i64 x]) I64 1 underlying28 (by kernel_rfl) (by omega) (fun _=>rfl)
  (fun n cs y hy=>by obtain⟨n,rfl,_,hw⟩:=DataW.trod_int underlying3 hy;exact⟨n,rfl,U8d hw⟩) h
 have e:l.flatMap (fun x:Int=>[Value.int .i64 x])=Ucb l:=Upf _ _;rw[e] at h1;exact⟨l,h1,fun _ _ _ _ _ hx=>hx.elim,h2⟩
theorem U3w {fuel:Nat}{v:Value}{x:DataW H×List MemPlace}(h:DataW.trod enc prog w base (fun _=>true) held fuel 22 [v]=some x):∃es ls,WsX (fun _=>False) w v es ls:=by
 obtain⟨l,h1,h2⟩:=Upe (fun a:Value×List Int=>[a.1]) (fun a=>Yx w a.1 a.2) 1 underlying22 (by kernel_rfl) (by omega) (fun _=>rfl) (fun n cs y hy=>by
  rcases open_slice underlying31 hy with ⟨h0,_⟩|⟨a,len,cap,m,n,D,Pl,hcs,_⟩
  ·subst h0;obtain⟨ms,hm⟩:=Unu hy;exact⟨(_,ms),rfl,hm⟩
  ·subst hcs;obtain⟨ms,hm⟩:=Unu hy
   exact⟨(_,ms),rfl,hm⟩) h
 have e:l.flatMap (fun a:Value×List Int=>[a.1])=l.map (·.1):=Upf _ _;rw[e] at h1;refine⟨l.map (·.1),l.map (·.2),by simp,by rw[List.length_map];exact h1,fun _ _ _ _ _ hx=>hx.elim,fun i hi=>?_⟩;have hil:i<l.length:=by simpa using hi
 have hw:=h2 _ (List.getElem_mem hil);rw[List.getD_eq_getElem?_getD,List.getD_eq_getElem?_getD,List.getElem?_map,List.getElem?_map,Xj hil];exact⟨hw,fun _ _ _ _ _ hx=>hx.elim⟩
theorem Unw {P:Program}{W:World}{r:Reach}{b0 n:Nat}{t e:TypeId}{v:Value}(ht:P.underlying t=some (.array n e))(h:Value.okWide P W r b0 t v):∃cs,v = .agg cs∧cs.size=P.cellsOf t:=by
 simp only[Value.okWide,ht] at h;obtain⟨cs,h1,h2,_⟩:=h;exact⟨cs,h1,h2⟩
set_option maxRecDepth 100000 in
theorem Urf {r:Reach}{b0:Nat}{v:Value}{d:DataW H}{p:List MemPlace}(hv:Value.okWide prog w r b0 27 v)(h:DataW.Trod enc prog w base (fun _=>true) held 27 v d p):∃c:Uag,v=Ucf c:=by
 obtain⟨cs,rfl,hsz⟩:=Unw underlying27 hv;obtain⟨fuel,hf⟩:=h;obtain⟨xs,m,rfl,_,hl,hx,hi⟩:=DataW.trod_array underlying27 hf;obtain⟨l⟩:=cs;simp only[Value.cells] at hi hl;rw[show prog.cellsOf 27=20 by kernel_rfl] at hl;rw[show prog.cellsOf 26=5 by kernel_rfl] at hi;have at_:∀(j:Nat) (hj:j<4),xs[j]? = some (xs[j]'(by omega)):=fun j hj=>Xj (by omega)
 obtain⟨c0,e0⟩:=Ub2 ((hi 0 (by omega)).trans (at_ 0 (by omega)));obtain⟨c1,e1⟩:=Ub2 ((hi 1 (by omega)).trans (at_ 1 (by omega)));obtain⟨c2,e2⟩:=Ub2 ((hi 2 (by omega)).trans (at_ 2 (by omega)));obtain⟨c3,e3⟩:=Ub2 ((hi 3 (by omega)).trans (at_ 3 (by omega)));refine⟨⟨c0,c1,c2,c3⟩,?_⟩;have hl20:l.length=20:=hl;have e:l=c0.list++c1.list++c2.list++c3.list:=by
  rw[←e0,←e1,←e2,←e3];simp only[Nat.zero_mul,List.drop_zero,Nat.one_mul];have k1:l=l.take 5++l.drop 5:=(List.take_append_drop 5 l).symm;have k2:l.drop 5=(l.drop 5).take 5++l.drop (2*5):=by have:=(List.take_append_drop 5 (l.drop 5)).symm;rwa [List.drop_drop] at this
  have k3:l.drop (2*5)=(l.drop (2*5)).take 5++l.drop (3*5):=by have:=(List.take_append_drop 5 (l.drop (2*5))).symm;rwa [List.drop_drop] at this
  have k4:l.drop (3*5)=(l.drop (3*5)).take 5:=by rw[List.take_of_length_le (by rw[List.length_drop];omega)]
  rw[←k4,List.append_assoc,List.append_assoc,←k3,←k2,←k1]
 show Value.agg l.toArray=Value.agg _;rw[e]
 rfl
set_option maxRecDepth 100000 in
theorem U1i {r:Reach}{b0:Nat}{v:Value}{d:DataW H}{p:List MemPlace}(hv:Value.okWide prog w r b0 23 v)(h:DataW.Trod enc prog w base (fun _=>true) held 23 v d p) :
  ∃(lv:List Value) (ls:List (List (List Int))),v = .agg lv.toArray∧lv.length=4∧ls.length=4∧∀k,k<4→∃es,WsX (fun _=>False) w (lv.getD k (.bool false)) es (ls.getD k []):=by
 obtain⟨cs,rfl,hsz⟩:=Unw underlying23 hv;obtain⟨fuel,hf⟩:=h;obtain⟨xs,m,rfl,_,hl,hx,hi⟩:=DataW.trod_array underlying23 hf;obtain⟨l⟩:=cs;simp only[Value.cells] at hi hl;rw[show prog.cellsOf 23=4 by kernel_rfl] at hl;rw[show prog.cellsOf 22=1 by kernel_rfl] at hi;have at_:∀(j:Nat) (hj:j<4),xs[j]? = some (xs[j]'(by omega)):=fun j hj=>Xj (by omega)
 have hl4:l.length=4:=hl;have hex:∀k (hk:k<4),∃es ls,WsX (fun _=>False) w (l[k]'(by omega)) es ls:=fun k hk=>by
  have h1:=(hi k hk).trans (at_ k hk);rw[Nat.mul_one,U1g (by rw[hl4];exact hk)] at h1;exact U3w h1
 obtain⟨es0,l0,h0⟩:=hex 0 (by omega);obtain⟨es1,l1,h1⟩:=hex 1 (by omega);obtain⟨es2,l2,h2⟩:=hex 2 (by omega);obtain⟨es3,l3,h3⟩:=hex 3 (by omega);refine⟨l,[l0,l1,l2,l3],rfl,hl4,rfl,fun k hk=>?_⟩;have hg:∀k (hk:k<4),l.getD k (.bool false)=l[k]'(by omega):=fun k hk=>by rw[List.getD_eq_getElem?_getD,Xj (by omega)];rfl
 rw[hg k hk];rcases (show k=0∨k=1∨k=2∨k=3 by omega) with rfl|rfl|rfl|rfl
 ·exact⟨es0,h0⟩
 ·exact⟨es1,h1⟩
 ·exact⟨es2,h2⟩
 ·exact⟨es3,h3⟩
end
end Go.Proofs.YtdaflmjfeoacaaaGreat
