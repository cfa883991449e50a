/- Part of the proof of TopTry, TopSplit: NumR, NumS, NumT, NumU. Conditions: none. -/
import Derived.Test.YtdaflmjfeoacaaaGreatZbal
import Derived.BigQuiet
import Derived.Test.YtdaflmjfeoacaaaGreatZbak
set_option linter.all false
set_option maxHeartbeats 16000000
set_option maxRecDepth 4000
namespace Go.Proofs.YtdaflmjfeoacaaaGreat
open Tryz
open Go.RowKit Go.Shelf
attribute [local go_sem] Oper.semAt_some
def Ujv (g o:Nat)(l:List Int)(w:World):Prop:=∀i,i<l.length→w.cell? ⟨g,o+i,none⟩=some (.int .i64 (l.getD i 0))
theorem Ujv.below {g o n₀:Nat}{l:List Int}{w w':World}(h:Ujv g o l w)(hb:Below n₀ w w')(hg:g<n₀):Ujv g o l w':=fun i hi=>(hb.cell (p:=⟨g,o+i,none⟩) hg).trans (h i hi)
theorem Uoo {w:World}{pa ga oa n ca i:Nat}{x:Int}(hi:i<n)(h1:w.cell? ⟨pa,0,none⟩=some (.slice (some ⟨ga,oa,none⟩) n ca))(h2:w.cell? ⟨ga,oa+i,none⟩=some (.int .i64 x)) :
  Calls prog 125 #[.int .i64 i,.pointer (some ⟨pa,0,none⟩)] w (Ub (.bool (chg x)) w):=by
 have KL:=Qd (fun w=>Yv x w);generalize Um x=b at *;generalize chg x=c at *;go_enter func125,ntmps125;go_wp2_with fail;refine(KL.out _).mono ?_;rintro e w1 ⟨rfl,rfl⟩;go_wp2_with fail;go_ret;exact⟨rfl,Xb _ _⟩
set_option maxRecDepth 100000 in
theorem Usf {α:Type}(enc:α→Value)(N pn pf n₀ n:Nat){pa:Value}(f:Nat→α)(hn:n≤1000)(w:World)(hn₀:n₀≤w.heap.size)(hpn:pn<n₀)(hpf:pf<n₀)(hF:U2q pn pf n (.func (.func 125) #[] #[pa]) w)
  (hC:∀i,i<n→∀w',Below n₀ w w'→Calls prog 125 #[.int .i64 i,pa] w' (Ub (enc (f i)) w')) :
  SeqStopsK Fence.wide (N+1) prog 151 #[.pointer (some ⟨pn,0,none⟩),.pointer (some ⟨pf,0,none⟩)] (fun z:α=>#[enc z]) (Below n₀) (fun ys=>ys=(List.range n).map f) (fun pre=>pre <+: (List.range n).map f) n w:=by
 intro l J Jx W hW hJ hJx hY h0;have HJ:=Qd hJ;clear hJ hJx;obtain⟨f1,f2⟩:U2q pn pf n (.func (.func 125) #[] #[pa]) W:=⟨(hW.cell (p:=⟨pn,0,none⟩) (show pn<_ by omega)).trans hF.1,(hW.cell (p:=⟨pf,0,none⟩) (show pf<_ by omega)).trans hF.2⟩;have HY:=Qd hY;have HC:Hid (∀i,i<n→∀w',Below n₀ W w'→Calls prog 125 #[.int .i64 i,pa] w' (Ub (enc (f i)) w')):=Qd (fun i hi w' hb=>hC i hi w' ((hW.mono hn₀).trans hb));clear hY hC hF;refine callsIn_of_wp func151 rfl trivial ?_ rfl;simp only[ntmps151,List.size_toArray,List.length_cons,List.length_nil,Nat.reduceAdd,Nat.reduceSub,Array.replicate_succ,Array.replicate_zero,List.push_toArray,List.append_toArray,List.nil_append,List.cons_append]
 gi_wp2
 gi_loopw [6] (fun i wr=>∃k:Nat,k≤n∧i = .int .i64 k∧J ((List.range k).map f) wr∧Below n₀ W wr)
  (fun i _=>n-(intOf i).toNat)
 case atStart=>exact⟨0,Nat.zero_le _,rfl,h0,Xb _ _⟩
 case round =>
  obtain⟨k,hk,rfl,hJs,hnx⟩:=hrel;by_cases hlt:k<n
  ·have g2:wr.cell? ⟨pf,0,none⟩=some (.func (.func 125) #[] #[pa]):=(hnx.cell (p:=⟨pf,0,none⟩) hpf).trans f2;have KF:=HC.out k hlt wr hnx
   gi_wp2
   refine⟨trivial,?_⟩;refine(callsIn_wide.2 KF).mono ?_;rintro e w1 ⟨rfl,hb1⟩;obtain⟨fn,tmps,assign,body,hy,hR⟩:=HY.out _ (f k) w1 (Uk3 HJ.out hJs hb1) (by simpa using hlt);rw[show N+1-1=N from rfl] at hR
   gi_wp2
   refine hR.mono ?_;rintro e W3 (⟨rfl,hJ3,hk3⟩|⟨rfl,hJx3⟩)
   ·gi_wp2
    go_roundw
    case rel=>exact⟨k+1,by omega,by simp,by rw[List.range_succ,List.map_append];exact hJ3,(hnx.trans (hb1.mono (by have:=hnx.size;have:=hW.size;omega))).trans hk3⟩
    case measure=>simp[intOf];omega
   ·gi_wp2
    refine Xk (results_none rfl _ _ _) rfl ?_;exact⟨⟨_,rfl⟩,.inr ⟨_,Ujb f hlt,hJx3⟩⟩
  ·obtain rfl:k=n:=by omega
   gi_wp2
   go_end0;exact⟨⟨_,rfl⟩,.inl ⟨_,rfl,hJs⟩⟩
theorem Uvw (n:Nat)(fn:Fn)(bd cp:Array Value)(w:World):Calls prog 124 #[.int .i64 n,.func fn bd cp] w fun e w' =>
  e = .returned (.func (.func 151) #[] #[.pointer (some ⟨w.heap.size,0,none⟩),.pointer (some ⟨w.heap.size+1,0,none⟩)])∧(w.alloc (.cells #[.int .i64 n] 3)).alloc (.cells #[.func fn bd cp] 82)=w':=by
 go_enter func124,ntmps124;go_wp2_with fail;go_ret;exact⟨rfl,rfl⟩
theorem Uyw (l:List Int):((List.range l.length).map fun i=>chg (l.getD i 0)).any id=Ua3 l:=by
 have:(List.range l.length).map (fun i=>l.getD i 0)=l:=by
  apply List.ext_getElem
  ·simp
  ·intro i h1 h2;have:i<l.length:=h2;simp[this]
 unfold Ua3
 conv=>rhs;rw[←this]
 rw[List.any_map,List.any_map];rfl
set_option maxRecDepth 100000 in
theorem Uex {w:World}{g o c:Nat}(l:List Int)(hl:l.length≤1000)(hg:g<w.heap.size)(hn:Ujv g o l w) :
  Calls prog 99 #[.slice (some ⟨g,o,none⟩) l.length c] w (Ub (.bool (Ua3 l)) w):=by
 rw[←Uyw];refine(callsIn_wide (n:=3)).1 ?_;refine callsIn_of_wp_marks func99 rfl trivial ?_ rfl;simp only[ntmps99,List.size_toArray,List.length_cons,List.length_nil,Nat.reduceAdd,Nat.reduceSub,Array.replicate_succ,Array.replicate_zero,List.push_toArray,List.append_toArray,List.nil_append,List.cons_append]
 gi_wp2
 refine⟨trivial,?_⟩;refine(callsIn_wide.2 (Uvw _ _ _ _ _)).mono ?_;rintro e w1 ⟨rfl,rfl⟩
 gi_wp2
 obtain⟨W0,hW0⟩:∃W0,((((w.alloc (.cells #[.slice (some ⟨g,o,none⟩) l.length c] 28)).alloc (.cells #[.bool false] 4)).alloc (.cells #[.int .i64 l.length] 3)).alloc (.cells #[.func (.func 125) #[] #[.pointer (some ⟨w.heap.size,0,none⟩)]] 82))=W0:=⟨_,rfl⟩;have hB0:Below w.heap.size w W0:=by rw[←hW0];exact((((Xb _ w).alloc (Xa _) _).alloc (by simp) _).alloc (by simp;omega) _).alloc (by simp;omega) _
 have hsz:W0.heap.size=w.heap.size+4:=by rw[←hW0];simp
 have bL:Box W0 w.heap.size 28 #[.slice (some ⟨g,o,none⟩) l.length c]:=by rw[←hW0];exact(((Box.new w _ _).alloc _).alloc _).alloc _
 have bR:Box W0 (w.heap.size+1) 4 #[.bool false]:=by rw[←hW0];exact((Box.at_ (by simp) _ _).alloc _).alloc _
 have bN:Box W0 (w.heap.size+1+1) 3 #[.int .i64 l.length]:=by rw[←hW0];exact(Box.at_ (by simp) _ _).alloc _
 have bF:Box W0 (w.heap.size+1+1+1) 82 #[.func (.func 125) #[] #[.pointer (some ⟨w.heap.size,0,none⟩)]]:=by rw[←hW0];exact Box.at_ (by simp) _ _
 rw[hW0];clear hW0;refine wpIn_rangeFunc_ownF rfl (by omega) (gf:=151) (lb:=#[.pointer (some ⟨w.heap.size+1+1,0,none⟩),.pointer (some ⟨w.heap.size+1+1+1,0,none⟩)]) rfl trivial (enters_of func151 (by kernel_rfl) rfl)
  (Usf (fun b:Bool => .bool b) 1 (w.heap.size+1+1) (w.heap.size+1+1+1) W0.heap.size l.length (fun i=>chg (l.getD i 0)) hl W0 (Xa _) (by omega) (by omega) ⟨bN.cell 0,bF.cell 0⟩
   (fun i hi w' hb=>Uoo hi ((hb.cell (p:=⟨w.heap.size,0,none⟩) (show w.heap.size<_ by omega)).trans (bL.cell 0)) (((hn.below hB0 hg).below hb (by omega)) i hi))) belowK_t (belowK_b (Xa _)) (Xb _ _) (fun _=>rfl)
  (fun pre W=>(pre.any id=false∧Box W (w.heap.size+1) 4 #[.bool false])∧Below w.heap.size w W)
  (fun cd pre W=>(cd = .ret∧pre.any id=true∧Box W (w.heap.size+1) 4 #[.bool true])∧Below w.heap.size w W)
  (OwnFrom.and (OwnFrom.and (ownFrom_pure _ _) (Own.from (Uk4 _ _ (fun _=>_)) _)) (ownFrom_below (Xa _) (by omega)))
  (fun cd=>OwnFrom.and (OwnFrom.and (ownFrom_pure _ _) (OwnFrom.and (ownFrom_pure _ _) (Own.from (Uk4 _ _ (fun _=>_)) _))) (ownFrom_below (Xa _) (by omega)))
  ⟨⟨rfl,bR⟩,hB0⟩
  (fun x=>{ tmps:=#[.slice (some ⟨g,o,none⟩) l.length c,.pointer (some ⟨w.heap.size,0,none⟩),.pointer (some ⟨w.heap.size+1,0,none⟩),.bool x,.slice (some ⟨g,o,none⟩) l.length c,.int .i64 l.length,.func (.func 125) #[] #[.pointer (some ⟨w.heap.size,0,none⟩)],.func (.func 151) #[] #[.pointer (some ⟨w.heap.size+1+1,0,none⟩),.pointer (some ⟨w.heap.size+1+1+1,0,none⟩)],.bool x,undef],defers:=[] })
  ?assign ?body ?done ?stop
 case assign =>
  intro l x W K hK
  gi_wp2
  exact hK
 case body =>
  rintro l2 pre x W ⟨⟨hp,bR1⟩,hB1⟩ _;obtain⟨c1,c3⟩:=Xc (bR1.cell 0) (bR1.frozen 0);cases x
  ·gi_wp2
   exact⟨KeepsOthers.refl _,Xb _ _,⟨by simpa using hp,bR1⟩,hB1⟩
  ·gi_wp2
   exact⟨KeepsOthers.setCell _ _ _,⟨rfl,by simp,bR1.set_ 0 _⟩,hB1.setCell (p:=⟨w.heap.size+1,0,none⟩) (show _≤w.heap.size+1 by omega) _⟩
 case done =>
  rintro D ys W hD hys ⟨⟨hp,bR1⟩,hB1⟩ hK;obtain⟨c1,c3⟩:=Xc (bR1.cell 0) (bR1.frozen 0)
  gi_wp2
  have hK2:=(KeepsOthers.setCell W ⟨w.heap.size+1,0,none⟩ (.bool false)).same D _ hK rfl;have bR2:=bR1.set_ 0 (.bool false);refine⟨by simp,.inl ⟨_,_,rfl,run_takeDeferred hK2,?_⟩⟩;have bR3:Box ((W.setCell ⟨w.heap.size+1,0,none⟩ (.bool false)).putObj D (.deferred none)) (w.heap.size+1) 4 #[.bool false] :=
   ((grownBy_putObj' _ D (.deferred none)).block _ (Box.lt bR2) (fun e=>by cases e;omega)).trans bR2
  have hc5:=bR3.cell 0;refine⟨.bool false,?_,by rw[←hys,hp],(hB1.setCell (p:=⟨w.heap.size+1,0,none⟩) (show _≤w.heap.size+1 by omega) _).trans (belowK_b (w:=w) (Xa _) _ D _ _ (by omega) hK2 rfl rfl)⟩;simp[results,results99,go_sem,hc5]
 case stop =>
  rintro D cd pre W hD hpre ⟨⟨rfl,hp,bR1⟩,hB1⟩ hK
  gi_wp2
  refine⟨by simp,.inl ⟨_,_,rfl,run_takeDeferred hK,?_⟩⟩;have bR3:Box (W.putObj D (.deferred none)) (w.heap.size+1) 4 #[.bool true] :=
   ((grownBy_putObj' _ D (.deferred none)).block _ (Box.lt bR1) (fun e=>by cases e;omega)).trans bR1
  have hc5:=bR3.cell 0
  refine⟨.bool true,?_,by rw[show((List.range l.length).map fun i=>chg (l.getD i 0)).any id=true from by
   obtain⟨x,hx,hx2⟩:=List.any_eq_true.1 hp
   exact List.any_eq_true.2 ⟨x,hpre.subset hx,hx2⟩],hB1.trans (belowK_b (w:=w) (Xa _) W D _ _ (by omega) hK rfl rfl)⟩
  simp[results,results99,go_sem,hc5]
end Go.Proofs.YtdaflmjfeoacaaaGreat
namespace Go.Proofs.YtdaflmjfeoacaaaGreat
open Tryz
open Go.RowKit Go.Shelf
def U8p (a b:Int):Sm:=⟨Uen a b,(Uom a b).1,(Uom a b).2⟩
def Umj (a b:List Int):List Sm:=(List.range a.length).map fun i=>U8p (a.getD i 0) (b.getD i 0)
theorem Up9:∀a b:List Int,Ucl (List.zipWith U8p a b)=Uay a b
 | [],_=>by simp[Ucl,Uay]
 | _::_,[]=>by simp[Ucl,Uay]
 | x::a,y::b=>by simp only[List.zipWith_cons_cons,Ucl,Uay,Up9 a b];rfl
theorem Uqa {a b:List Int}(h:a.length=b.length):Ucl (Umj a b)=Uay a b:=by
 rw[←Up9]
 congr 1
 apply List.ext_getElem
 ·simp[Umj,h]
 ·intro i h1 h2;have h3:i<a.length:=by simp[Umj] at h1;exact h1
  have h4:i<b.length:=by omega
  simp[Umj,h3,h4]
theorem Uue (a b:List Int)(hl:a.length≤64)(h:a.length=b.length) : -5316911983139663491615228241121378304≤Uay a b∧Uay a b≤5316911983139663491615228241121378304:=by
 rw[←Uqa h];have:=Uuc (Umj a b);have e:(Umj a b).length=a.length:=by simp[Umj]
 rw[e] at this;omega
theorem Uvx {w:World}{ga oa ca gb ob cb n:Nat}(a b:List Int)(hn:a.length=n)(hab:a.length=b.length)(hl:n≤64)(hga:ga<w.heap.size)(hgb:gb<w.heap.size)(ha:Ujv ga oa a w)(hb:Ujv gb ob b w) :
  SeqStopsK Fence.wide 2 prog 150 #[.pointer (some ⟨w.heap.size+2,0,none⟩),.pointer (some ⟨w.heap.size+3,0,none⟩)] (fun z:Sm=>#[wz z.v])
   (Below (Uhf (.slice (some ⟨ga,oa,none⟩) n ca) (.slice (some ⟨gb,ob,none⟩) n cb) n w).heap.size) (fun ys=>ys=Umj a b) (fun pre=>pre <+: Umj a b) n (Uhf (.slice (some ⟨ga,oa,none⟩) n ca) (.slice (some ⟨gb,ob,none⟩) n cb) n w):=by
 have hB:Below w.heap.size w (Uhf (.slice (some ⟨ga,oa,none⟩) n ca) (.slice (some ⟨gb,ob,none⟩) n cb) n w):=((((Xb _ w).alloc (Xa _) _).alloc (by simp) _).alloc (by simp;omega) _).alloc (by simp;omega) _;have hsz:(Uhf (.slice (some ⟨ga,oa,none⟩) n ca) (.slice (some ⟨gb,ob,none⟩) n cb) n w).heap.size=w.heap.size+4:=by simp[Uhf]
 have bA:Box (Uhf (.slice (some ⟨ga,oa,none⟩) n ca) (.slice (some ⟨gb,ob,none⟩) n cb) n w) w.heap.size 28 #[.slice (some ⟨ga,oa,none⟩) n ca]:=(((Box.new w _ _).alloc _).alloc _).alloc _;have bB:Box (Uhf (.slice (some ⟨ga,oa,none⟩) n ca) (.slice (some ⟨gb,ob,none⟩) n cb) n w) (w.heap.size+1) 28 #[.slice (some ⟨gb,ob,none⟩) n cb]:=((Box.at_ (by simp) _ _).alloc _).alloc _;have bN:Box (Uhf (.slice (some ⟨ga,oa,none⟩) n ca) (.slice (some ⟨gb,ob,none⟩) n cb) n w) (w.heap.size+2) 3 #[.int .i64 n]:=(Box.at_ (by simp) _ _).alloc _;have bF:Box (Uhf (.slice (some ⟨ga,oa,none⟩) n ca) (.slice (some ⟨gb,ob,none⟩) n cb) n w) (w.heap.size+3) 206 #[.func (.func 123) #[] #[.pointer (some ⟨w.heap.size,0,none⟩),.pointer (some ⟨w.heap.size+1,0,none⟩)]]:=Box.at_ (by simp) _ _;generalize Uhf (.slice (some ⟨ga,oa,none⟩) n ca) (.slice (some ⟨gb,ob,none⟩) n cb) n w=W at *;subst hn;refine Usd (fun z:Sm=>wz z.v) 1 (w.heap.size+2) (w.heap.size+3) W.heap.size a.length (fun i=>U8p (a.getD i 0) (b.getD i 0)) (by omega) W (Xa _) (by omega) (by omega) ⟨bN.cell 0,bF.cell 0⟩ ?_;intro i hi w' hb';refine Umi (ga:=ga) (gb:=gb) (oa:=oa) (ob:=ob) (n:=a.length) (ca:=ca) (cb:=cb) hi ⟨?_,?_,?_,?_⟩
 ·exact(hb'.cell (p:=⟨w.heap.size,0,none⟩) (show w.heap.size<_ by omega)).trans (bA.cell 0)
 ·exact(hb'.cell (p:=⟨w.heap.size+1,0,none⟩) (show w.heap.size+1<_ by omega)).trans (bB.cell 0)
 ·exact((ha.below hB hga).below hb' (by omega)) i hi
 ·exact((hb.below hB hgb).below hb' (by omega)) i (by omega)
theorem Ujc {w:World}{ga oa ca gb ob cb n:Nat}(a b:List Int)(hn:a.length=n)(hab:a.length=b.length)(hl:n≤64)(hga:ga<w.heap.size)(hgb:gb<w.heap.size)(ha:Ujv ga oa a w)(hb:Ujv gb ob b w) :
  Calls prog 97 #[.func (.func 150) #[] #[.pointer (some ⟨w.heap.size+2,0,none⟩),.pointer (some ⟨w.heap.size+3,0,none⟩)]] (Uhf (.slice (some ⟨ga,oa,none⟩) n ca) (.slice (some ⟨gb,ob,none⟩) n cb) n w)
   (fun e w'=>e = .returned (wz (Uay a b))∧Below w.heap.size w w'):=by
 have:=Use (w:=Uhf (.slice (some ⟨ga,oa,none⟩) n ca) (.slice (some ⟨gb,ob,none⟩) n cb) n w) (Umj a b) _ n (Xa _) hl (Uvx a b hn hab hl hga hgb ha hb);rw[Uqa hab] at this;refine this.mono ?_;rintro e w' ⟨rfl,h⟩;have hB:Below w.heap.size w (Uhf (.slice (some ⟨ga,oa,none⟩) n ca) (.slice (some ⟨gb,ob,none⟩) n cb) n w):=((((Xb _ w).alloc (Xa _) _).alloc (by simp) _).alloc (by simp;omega) _).alloc (by simp;omega) _;exact⟨rfl,hB.trans (h.mono hB.size)⟩
theorem U2r {g o c n:Nat}(hn:n≤64)(hc:n≤c)(w:World):Calls prog 95 #[.slice (some ⟨g,o,none⟩) n c] w (fun e w'=>e = .returned (.slice (some ⟨g,o,none⟩) n c)∧w=w'):=by
 have e1:min (n:Int) 64=n:=by omega
 go_enter func95,ntmps95;go_wp2;go_ret;exact⟨rfl,rfl⟩
theorem Uqb {w:World}{g o c n:Nat}(l:List Int)(hn:l.length=n)(hl:n≤64)(hc:n≤c)(hg:g<w.heap.size)(H:Ujv g o l w) :
  Calls prog 70 #[.slice (some ⟨g,o,none⟩) n c] w (Ub (.tuple #[.int .i64 (Umg l).1,.bool (Umg l).2]) w):=by
 have KC:=Qd (fun w=>U2r (g:=g) (o:=o) hl hc w);have KP:=Qd (fun w=>Uhg g o c g o c n w);have KA:=Qd (Ujc (ca:=c) (cb:=c) l l hn rfl hl hg hg H H);have KR:=Qd (fun w=>Um1 (z:=Uay l l) (by have:=Uue l l (by omega) rfl;unfold Wz;omega) w)
 have KB:Hid (∀w',Below w.heap.size w w'→Calls prog 99 #[.slice (some ⟨g,o,none⟩) n c] w' (Ub (.bool (Ua3 l)) w')):=Qd (fun w' hb=>by
  subst hn
  exact Uex l (by omega) (by have:=hb.size;omega) (H.below hb hg))
 have F:Hid ((Umg l).1=(Ucd (Uay l l)).1∧(Umg l).2=((Ucd (Uay l l)).2||Ua3 l)):=Qd ⟨rfl,rfl⟩;rw[F.out.1,F.out.2];obtain⟨p,q,hpq⟩:∃p q,wz (Uay l l) = .agg #[.int .i64 p,.int .i64 q]:=⟨_,_,rfl⟩;rw[hpq] at KA KR;generalize Ucd (Uay l l)=r at *;obtain⟨m,d⟩:=r;generalize Ua3 l=x at *;dsimp only at KR ⊢;clear F hpq hn hl hc H;go_enter func70,ntmps70;go_wp2_with fail;refine(KC.out _).mono ?_;rintro e w1 ⟨rfl,rfl⟩;go_wp2_with fail;refine(KP.out _).mono ?_;rintro e w1 ⟨rfl,rfl⟩;go_wp2_with fail;refine KA.out.mono ?_;rintro e w1 ⟨rfl,hb1⟩;go_wp2_with fail;refine(KR.out _).mono ?_;rintro e w2 ⟨rfl,hb2⟩;have HB:=Qd (Ua hb1 hb2 hb1.size);clear hb1 hb2;cases d
 ·go_wp2_with fail;refine(KB.out _ HB.out).mono ?_;rintro e w3 ⟨rfl,hb3⟩;have HB2:=Qd (Ua HB.out hb3 HB.out.size);clear hb3;go_wp2_with fail;go_ret2;exact⟨rfl,HB2.out⟩
 ·go_wp2_with fail;go_ret2;exact⟨rfl,HB.out⟩
theorem Uhi {w:World}{ga oa ca gb ob cb n:Nat}(a b:List Int)(hna:a.length=n)(hnb:b.length=n)(hl:n≤64)(hca:n≤ca)(hcb:n≤cb)(hga:ga<w.heap.size)(hgb:gb<w.heap.size)(HA:Ujv ga oa a w)(HB:Ujv gb ob b w) :
  Calls prog 183 #[.slice (some ⟨ga,oa,none⟩) n ca,.slice (some ⟨gb,ob,none⟩) n cb] w (Ub (.tuple #[.int .i64 (Urt a b).1,.bool (Urt a b).2]) w):=by
 have hm:=Uue a b (by omega) (by omega);have KP:Hid (∀w,Calls prog 98 #[.slice (some ⟨ga,oa,none⟩) n ca,.slice (some ⟨gb,ob,none⟩) n cb] w _):=Qd (fun w=>Uhg ga oa ca gb ob cb n w);have KA:=Qd (fun q=>Ujc (w:=w.drewN q) (ca:=ca) (cb:=cb) a b hna (by omega) hl hga hgb HA HB);have KR:=Qd (fun w=>Um0 (z:=Uay a b) (by unfold Wz;omega) (by unfold Wz;omega) w)
 have K1:Hid (∀w',Below w.heap.size w w'→Calls prog 99 #[.slice (some ⟨ga,oa,none⟩) n ca] w' (Ub (.bool (Ua3 a)) w')):=Qd (fun w' hb=>by
  subst hna
  exact Uex a (by omega) (by have:=hb.size;omega) (HA.below hb hga))
 have K2:Hid (∀w',Below w.heap.size w w'→Calls prog 99 #[.slice (some ⟨gb,ob,none⟩) n cb] w' (Ub (.bool (Ua3 b)) w')):=Qd (fun w' hb=>by
  subst hnb
  exact Uex b (by omega) (by have:=hb.size;omega) (HB.below hb hgb))
 have F:Hid ((Urt a b).1=(Ubn (Uay a b)).1∧(Urt a b).2=(((Ubn (Uay a b)).2||Ua3 a)||Ua3 b)):=Qd ⟨rfl,rfl⟩;rw[F.out.1,F.out.2];obtain⟨p,q,hpq⟩:∃p q,wz (Uay a b) = .agg #[.int .i64 p,.int .i64 q]:=⟨_,_,rfl⟩;rw[hpq] at KA KR;generalize Ubn (Uay a b)=r at *;obtain⟨m,d⟩:=r;generalize Ua3 a=x at *;generalize Ua3 b=y at *;dsimp only at KR ⊢;have e1:min (n:Int) 64=n:=by omega
 have e2:min (n:Int) (min (n:Int) 64)=n:=by omega
 have e3:min (min (n:Int) (n:Int)) 64=n:=by omega
 clear F hpq hna hnb HA HB hm;go_enter func183,ntmps183;go_wp2_with fail;go_quiet (fail);go_wp2_with fail;refine(KP.out _).mono ?_;rintro e w1 ⟨rfl,rfl⟩;go_wp2_with fail;refine(KA.out nq).mono ?_;rintro e w1 ⟨rfl,hb1⟩;go_wp2_with fail;refine(KR.out _).mono ?_;rintro e w2 ⟨rfl,hb2⟩;have HB:=Qd ((Ue (Xb w.heap.size w) nq).trans (Ua hb1 hb2 hb1.size));clear hb1 hb2;cases d
 ·go_wp2_with fail;refine(K1.out _ HB.out).mono ?_;rintro e w3 ⟨rfl,hb3⟩;have HB2:=Qd (Ua HB.out hb3 HB.out.size);clear hb3;cases x
  ·go_wp2_with fail;refine(K2.out _ HB2.out).mono ?_;rintro e w4 ⟨rfl,hb4⟩;have HB3:=Qd (Ua HB2.out hb4 HB2.out.size);clear hb4;go_wp2_with fail;go_ret2;exact⟨rfl,HB3.out⟩
  ·go_wp2_with fail;go_ret2;exact⟨rfl,HB2.out⟩
 ·go_wp2_with fail;go_ret2;exact⟨rfl,HB.out⟩
end Go.Proofs.YtdaflmjfeoacaaaGreat
namespace Go.Proofs.YtdaflmjfeoacaaaGreat
open Tryz
open Go.RowKit
theorem set3 {w1:World}{g:Nat}{t:TypeId}{x y z:Value}(hB:Box w1 g t #[x,y,z])(u v s:Value):Box (((w1.setCell ⟨g,0,none⟩ u).setCell ⟨g,1,none⟩ v).setCell ⟨g,2,none⟩ s) g t #[u,v,s]:=((hB.set_ 0 u).set_ 1 v).set_ 2 s
theorem set4 {w1:World}{g:Nat}{t:TypeId}{x y z q:Value}(hB:Box w1 g t #[x,y,z,q])(u v s r:Value):Box ((((w1.setCell ⟨g,0,none⟩ u).setCell ⟨g,1,none⟩ v).setCell ⟨g,2,none⟩ s).setCell ⟨g,3,none⟩ r) g t #[u,v,s,r]:=(((hB.set_ 0 u).set_ 1 v).set_ 2 s).set_ 3 r
theorem Yd {w w1:World}(hb:Below w.heap.size w w1){g:Nat}(hg:w.heap.size≤g)(u v s:Value):Below w.heap.size w (((w1.setCell ⟨g,0,none⟩ u).setCell ⟨g,1,none⟩ v).setCell ⟨g,2,none⟩ s):=((hb.setCell hg u).setCell hg v).setCell hg s
theorem Ufn {w w1:World}(hb:Below w.heap.size w w1){g:Nat}(hg:w.heap.size≤g)(u v s r:Value):Below w.heap.size w ((((w1.setCell ⟨g,0,none⟩ u).setCell ⟨g,1,none⟩ v).setCell ⟨g,2,none⟩ s).setCell ⟨g,3,none⟩ r):=(((hb.setCell hg u).setCell hg v).setCell hg s).setCell hg r
def v3 (v:V3):Value := .agg #[.int .i64 v.x,.int .i64 v.y,.int .i64 v.z]
def v4 (v:V4):Value := .agg #[.int .i64 v.w,.int .i64 v.x,.int .i64 v.y,.int .i64 v.z]
theorem Ubz {w:World}{g:Nat}{t:TypeId}{x y z:Value}(h:Box w g t #[x,y,z]):w.cell? ⟨g,0,none⟩=some x∧w.cell? ⟨g,1,none⟩=some y∧w.cell? ⟨g,2,none⟩=some z∧w.frozen? ⟨g,0,none⟩=false∧w.frozen? ⟨g,1,none⟩=false∧w.frozen? ⟨g,2,none⟩=false :=
 ⟨h.cell 0,h.cell 1,h.cell 2,h.frozen 0,h.frozen 1,h.frozen 2⟩
theorem Ucq {w:World}{g:Nat}{t:TypeId}{x y z q:Value}(h:Box w g t #[x,y,z,q]):w.cell? ⟨g,0,none⟩=some x∧w.cell? ⟨g,1,none⟩=some y∧w.cell? ⟨g,2,none⟩=some z∧w.cell? ⟨g,3,none⟩=some q∧w.frozen? ⟨g,0,none⟩=false∧w.frozen? ⟨g,1,none⟩=false∧w.frozen? ⟨g,2,none⟩=false∧w.frozen? ⟨g,3,none⟩=false :=
 ⟨h.cell 0,h.cell 1,h.cell 2,h.cell 3,h.frozen 0,h.frozen 1,h.frozen 2,h.frozen 3⟩
def Duo (w:World)(t:TypeId)(cs:Array Value)(t':TypeId)(cs':Array Value)(W:World):Prop:=Box W w.heap.size t cs∧Box W (w.heap.size+1) t' cs'∧Below w.heap.size w W
section
variable {w W W':World} {t t':TypeId} {cs cs':Array Value}
theorem Duo.kept (H:Duo w t cs t' cs' W)(hb:Below W.heap.size W W'):Duo w t cs t' cs' W':=⟨H.1.kept hb,H.2.1.kept hb,Ua H.2.2 hb H.2.2.size⟩
theorem Duo.new (w:World)(t:TypeId)(cs:Array Value)(t':TypeId)(cs':Array Value):Duo w t cs t' cs' ((w.alloc (.cells cs t)).alloc (.cells cs' t')):=⟨(Box.new w _ _).alloc _,Box.at_ (by simp) _ _,((Xb _ w).alloc (Xa _) _).alloc (by simp) _⟩
theorem Duo.set1 (H:Duo w t cs t' cs' W)(j:Nat)(v:Value):Duo w t cs t' (cs'.setIfInBounds j v) (W.setCell ⟨w.heap.size+1,j,none⟩ v):=⟨H.1.far (by simp) _,H.2.1.set_ j v,H.2.2.setCell (p:=⟨w.heap.size+1,j,none⟩) (show _≤w.heap.size+1 by omega) v⟩
end
theorem Za:(prog.info? 24).map (·.size)=some 3:=by kernel_rfl
theorem Ugd:(prog.info? 38).map (·.size)=some 4:=by kernel_rfl
theorem Uqc {pa pb:Value}(f:Nat→Int×Bool)(w:World)(hC:∀i:Nat,i<3→∀w',Below w.heap.size w w'→Calls prog 159 #[.int .i64 i,pa,pb] w' (Ub (.tuple #[.int .i64 (f i).1,.bool (f i).2]) w')) :
  Calls prog 158 #[.func (.func 159) #[] #[pa,pb]] w (Ub (.tuple #[v3 (Ucx f).1,.bool (Ucx f).2]) w):=by
 have C0:=Qd (hC 0 (by omega));have C1:=Qd (hC 1 (by omega));have C2:=Qd (hC 2 (by omega));clear hC;unfold Ucx v3;generalize f 0=p0 at *;generalize f 1=p1 at *;generalize f 2=p2 at *;obtain⟨x0,b0⟩:=p0;obtain⟨x1,b1⟩:=p1;obtain⟨x2,b2⟩:=p2;dsimp only at C0 C1 C2 ⊢;obtain⟨b,hb⟩:∃b,((b0||b1)||b2)=b:=⟨_,rfl⟩;rw[hb];have HBB:=Qd hb;clear hb;have D0:=Qd (Duo.new w 24 #[.int .i64 0,.int .i64 0,.int .i64 0] 24 #[.int .i64 0,.int .i64 0,.int .i64 0]);go_enter func158,ntmps158;go_wp2_with fail;refine wp_loop_rounds 4 ?_;rw[Xq];go_wp2_with fail;refine(C0.out _ D0.out.2.2).mono ?_;rintro e w1 ⟨rfl,hb1⟩;have D1:=Qd (D0.out.kept hb1);clear hb1 D0 C0;obtain⟨c1,c2,c3,c4,c5,c6⟩:=Ubz D1.out.2.1;cases b0
 all_goals
  go_wp2_with fail;clear c1 c2 c3 c4 c5 c6;rw[Xq];go_wp2_with fail;refine(C1.out _ (D1.out.set1 0 _).2.2).mono ?_;rintro e w2 ⟨rfl,hb1⟩;have D2:=Qd ((D1.out.set1 0 _).kept hb1);clear hb1 D1 C1;obtain⟨c1,c2,c3,c4,c5,c6⟩:=Ubz D2.out.2.1
 rotate_right
 focus
  go_wp2_with fail;clear c1 c2 c3 c4 c5 c6;rw[Xq];go_wp2_with fail;refine(C2.out _ (D2.out.set1 1 _).2.2).mono ?_;rintro e w3 ⟨rfl,hb1⟩;have D3:=Qd ((D2.out.set1 1 _).kept hb1);clear hb1 D2 C2;obtain⟨c1,c2,c3,c4,c5,c6⟩:=Ubz D3.out.2.1;obtain rfl:b=true:=by have:=HBB.out;simpa using this.symm
 rotate_right
 focus
  cases b1
  all_goals
   go_wp2_with fail;clear c1 c2 c3 c4 c5 c6;rw[Xq];go_wp2_with fail;refine(C2.out _ (D2.out.set1 1 _).2.2).mono ?_;rintro e w3 ⟨rfl,hb1⟩;have D3:=Qd ((D2.out.set1 1 _).kept hb1);clear hb1 D2 C2;obtain⟨c1,c2,c3,c4,c5,c6⟩:=Ubz D3.out.2.1
  rotate_right
  focus
   obtain rfl:b=true:=by have:=HBB.out;simpa using this.symm
  rotate_right
  focus
   cases b2;rotate_right
   focus
    obtain rfl:b=true:=by have:=HBB.out;simpa using this.symm
   rotate_right
   focus
    obtain rfl:b=false:=by have:=HBB.out;simpa using this.symm
 all_goals
  go_wp2_with fail;rw[Xq];have D4:=Qd (D3.out.set1 2 (.int .i64 x2));clear c1 c2 c3 c4 c5 c6 D3;obtain⟨c1,c2,c3,c4,c5,c6⟩:=Ubz D4.out.2.1;obtain⟨d1,d2,d3,d4,d5,d6⟩:=Ubz D4.out.1;go_wp2_with fail;exact Xk (Ud results158 _ _ w.heap.size 24 _ (0,0) _ rfl (set3 D4.out.1 _ _ _) underlying24 rfl Za) rfl ⟨rfl,Yd D4.out.2.2 (Xa _) _ _ _⟩
theorem Umk {pa pb:Value}(f:Nat→Int×Bool)(w:World)(hC:∀i:Nat,i<3→∀w',Below w.heap.size w w'→Calls prog 174 #[.int .i64 i,pa,pb] w' (Ub (.tuple #[.int .i64 (f i).1,.bool (f i).2]) w')) :
  Calls prog 158 #[.func (.func 174) #[] #[pa,pb]] w (Ub (.tuple #[v3 (Ucx f).1,.bool (Ucx f).2]) w):=by
 have C0:=Qd (hC 0 (by omega));have C1:=Qd (hC 1 (by omega));have C2:=Qd (hC 2 (by omega));clear hC;unfold Ucx v3;generalize f 0=p0 at *;generalize f 1=p1 at *;generalize f 2=p2 at *;obtain⟨x0,b0⟩:=p0;obtain⟨x1,b1⟩:=p1;obtain⟨x2,b2⟩:=p2;dsimp only at C0 C1 C2 ⊢;obtain⟨b,hb⟩:∃b,((b0||b1)||b2)=b:=⟨_,rfl⟩;rw[hb];have HBB:=Qd hb;clear hb;have D0:=Qd (Duo.new w 24 #[.int .i64 0,.int .i64 0,.int .i64 0] 24 #[.int .i64 0,.int .i64 0,.int .i64 0]);go_enter func158,ntmps158;go_wp2_with fail;refine wp_loop_rounds 4 ?_;rw[Xq];go_wp2_with fail;refine(C0.out _ D0.out.2.2).mono ?_;rintro e w1 ⟨rfl,hb1⟩;have D1:=Qd (D0.out.kept hb1);clear hb1 D0 C0;obtain⟨c1,c2,c3,c4,c5,c6⟩:=Ubz D1.out.2.1;cases b0
 all_goals
  go_wp2_with fail;clear c1 c2 c3 c4 c5 c6;rw[Xq];go_wp2_with fail;refine(C1.out _ (D1.out.set1 0 _).2.2).mono ?_;rintro e w2 ⟨rfl,hb1⟩;have D2:=Qd ((D1.out.set1 0 _).kept hb1);clear hb1 D1 C1;obtain⟨c1,c2,c3,c4,c5,c6⟩:=Ubz D2.out.2.1
 rotate_right
 focus
  go_wp2_with fail;clear c1 c2 c3 c4 c5 c6;rw[Xq];go_wp2_with fail;refine(C2.out _ (D2.out.set1 1 _).2.2).mono ?_;rintro e w3 ⟨rfl,hb1⟩;have D3:=Qd ((D2.out.set1 1 _).kept hb1);clear hb1 D2 C2;obtain⟨c1,c2,c3,c4,c5,c6⟩:=Ubz D3.out.2.1;obtain rfl:b=true:=by have:=HBB.out;simpa using this.symm
 rotate_right
 focus
  cases b1
  all_goals
   go_wp2_with fail;clear c1 c2 c3 c4 c5 c6;rw[Xq];go_wp2_with fail;refine(C2.out _ (D2.out.set1 1 _).2.2).mono ?_;rintro e w3 ⟨rfl,hb1⟩;have D3:=Qd ((D2.out.set1 1 _).kept hb1);clear hb1 D2 C2;obtain⟨c1,c2,c3,c4,c5,c6⟩:=Ubz D3.out.2.1
  rotate_right
  focus
   obtain rfl:b=true:=by have:=HBB.out;simpa using this.symm
  rotate_right
  focus
   cases b2;rotate_right
   focus
    obtain rfl:b=true:=by have:=HBB.out;simpa using this.symm
   rotate_right
   focus
    obtain rfl:b=false:=by have:=HBB.out;simpa using this.symm
 all_goals
  go_wp2_with fail;rw[Xq];have D4:=Qd (D3.out.set1 2 (.int .i64 x2));clear c1 c2 c3 c4 c5 c6 D3;obtain⟨c1,c2,c3,c4,c5,c6⟩:=Ubz D4.out.2.1;obtain⟨d1,d2,d3,d4,d5,d6⟩:=Ubz D4.out.1;go_wp2_with fail;exact Xk (Ud results158 _ _ w.heap.size 24 _ (0,0) _ rfl (set3 D4.out.1 _ _ _) underlying24 rfl Za) rfl ⟨rfl,Yd D4.out.2.2 (Xa _) _ _ _⟩
theorem Uop {pa pb:Value}(f:Nat→Int×Bool)(w:World)(hC:∀i:Nat,i<3→∀w',Below w.heap.size w w'→Calls prog 205 #[.int .i64 i,pa,pb] w' (Ub (.tuple #[.int .i64 (f i).1,.bool (f i).2]) w')) :
  Calls prog 158 #[.func (.func 205) #[] #[pa,pb]] w (Ub (.tuple #[v3 (Ucx f).1,.bool (Ucx f).2]) w):=by
 have C0:=Qd (hC 0 (by omega));have C1:=Qd (hC 1 (by omega));have C2:=Qd (hC 2 (by omega));clear hC;unfold Ucx v3;generalize f 0=p0 at *;generalize f 1=p1 at *;generalize f 2=p2 at *;obtain⟨x0,b0⟩:=p0;obtain⟨x1,b1⟩:=p1;obtain⟨x2,b2⟩:=p2;dsimp only at C0 C1 C2 ⊢;obtain⟨b,hb⟩:∃b,((b0||b1)||b2)=b:=⟨_,rfl⟩;rw[hb];have HBB:=Qd hb;clear hb;have D0:=Qd (Duo.new w 24 #[.int .i64 0,.int .i64 0,.int .i64 0] 24 #[.int .i64 0,.int .i64 0,.int .i64 0]);go_enter func158,ntmps158;go_wp2_with fail;refine wp_loop_rounds 4 ?_;rw[Xq];go_wp2_with fail;refine(C0.out _ D0.out.2.2).mono ?_;rintro e w1 ⟨rfl,hb1⟩;have D1:=Qd (D0.out.kept hb1);clear hb1 D0 C0;obtain⟨c1,c2,c3,c4,c5,c6⟩:=Ubz D1.out.2.1;cases b0
 all_goals
  go_wp2_with fail;clear c1 c2 c3 c4 c5 c6;rw[Xq];go_wp2_with fail;refine(C1.out _ (D1.out.set1 0 _).2.2).mono ?_;rintro e w2 ⟨rfl,hb1⟩;have D2:=Qd ((D1.out.set1 0 _).kept hb1);clear hb1 D1 C1;obtain⟨c1,c2,c3,c4,c5,c6⟩:=Ubz D2.out.2.1
 rotate_right
 focus
  go_wp2_with fail;clear c1 c2 c3 c4 c5 c6;rw[Xq];go_wp2_with fail;refine(C2.out _ (D2.out.set1 1 _).2.2).mono ?_;rintro e w3 ⟨rfl,hb1⟩;have D3:=Qd ((D2.out.set1 1 _).kept hb1);clear hb1 D2 C2;obtain⟨c1,c2,c3,c4,c5,c6⟩:=Ubz D3.out.2.1;obtain rfl:b=true:=by have:=HBB.out;simpa using this.symm
 rotate_right
 focus
  cases b1
  all_goals
   go_wp2_with fail;clear c1 c2 c3 c4 c5 c6;rw[Xq];go_wp2_with fail;refine(C2.out _ (D2.out.set1 1 _).2.2).mono ?_;rintro e w3 ⟨rfl,hb1⟩;have D3:=Qd ((D2.out.set1 1 _).kept hb1);clear hb1 D2 C2;obtain⟨c1,c2,c3,c4,c5,c6⟩:=Ubz D3.out.2.1
  rotate_right
  focus
   obtain rfl:b=true:=by have:=HBB.out;simpa using this.symm
  rotate_right
  focus
   cases b2;rotate_right
   focus
    obtain rfl:b=true:=by have:=HBB.out;simpa using this.symm
   rotate_right
   focus
    obtain rfl:b=false:=by have:=HBB.out;simpa using this.symm
 all_goals
  go_wp2_with fail;rw[Xq];have D4:=Qd (D3.out.set1 2 (.int .i64 x2));clear c1 c2 c3 c4 c5 c6 D3;obtain⟨c1,c2,c3,c4,c5,c6⟩:=Ubz D4.out.2.1;obtain⟨d1,d2,d3,d4,d5,d6⟩:=Ubz D4.out.1;go_wp2_with fail;exact Xk (Ud results158 _ _ w.heap.size 24 _ (0,0) _ rfl (set3 D4.out.1 _ _ _) underlying24 rfl Za) rfl ⟨rfl,Yd D4.out.2.2 (Xa _) _ _ _⟩
theorem Uml {pa pb:Value}(f:Nat→Int×Bool)(w:World)(hC:∀i:Nat,i<3→∀w',Below w.heap.size w w'→Calls prog 207 #[.int .i64 i,pa,pb] w' (Ub (.tuple #[.int .i64 (f i).1,.bool (f i).2]) w')) :
  Calls prog 158 #[.func (.func 207) #[] #[pa,pb]] w (Ub (.tuple #[v3 (Ucx f).1,.bool (Ucx f).2]) w):=by
 have C0:=Qd (hC 0 (by omega));have C1:=Qd (hC 1 (by omega));have C2:=Qd (hC 2 (by omega));clear hC;unfold Ucx v3;generalize f 0=p0 at *;generalize f 1=p1 at *;generalize f 2=p2 at *;obtain⟨x0,b0⟩:=p0;obtain⟨x1,b1⟩:=p1;obtain⟨x2,b2⟩:=p2;dsimp only at C0 C1 C2 ⊢;obtain⟨b,hb⟩:∃b,((b0||b1)||b2)=b:=⟨_,rfl⟩;rw[hb];have HBB:=Qd hb;clear hb;have D0:=Qd (Duo.new w 24 #[.int .i64 0,.int .i64 0,.int .i64 0] 24 #[.int .i64 0,.int .i64 0,.int .i64 0]);go_enter func158,ntmps158;go_wp2_with fail;refine wp_loop_rounds 4 ?_;rw[Xq];go_wp2_with fail;refine(C0.out _ D0.out.2.2).mono ?_;rintro e w1 ⟨rfl,hb1⟩;have D1:=Qd (D0.out.kept hb1);clear hb1 D0 C0;obtain⟨c1,c2,c3,c4,c5,c6⟩:=Ubz D1.out.2.1;cases b0
 all_goals
  go_wp2_with fail;clear c1 c2 c3 c4 c5 c6;rw[Xq];go_wp2_with fail;refine(C1.out _ (D1.out.set1 0 _).2.2).mono ?_;rintro e w2 ⟨rfl,hb1⟩;have D2:=Qd ((D1.out.set1 0 _).kept hb1);clear hb1 D1 C1;obtain⟨c1,c2,c3,c4,c5,c6⟩:=Ubz D2.out.2.1
 rotate_right
 focus
  go_wp2_with fail;clear c1 c2 c3 c4 c5 c6;rw[Xq];go_wp2_with fail;refine(C2.out _ (D2.out.set1 1 _).2.2).mono ?_;rintro e w3 ⟨rfl,hb1⟩;have D3:=Qd ((D2.out.set1 1 _).kept hb1);clear hb1 D2 C2;obtain⟨c1,c2,c3,c4,c5,c6⟩:=Ubz D3.out.2.1;obtain rfl:b=true:=by have:=HBB.out;simpa using this.symm
 rotate_right
 focus
  cases b1
  all_goals
   go_wp2_with fail;clear c1 c2 c3 c4 c5 c6;rw[Xq];go_wp2_with fail;refine(C2.out _ (D2.out.set1 1 _).2.2).mono ?_;rintro e w3 ⟨rfl,hb1⟩;have D3:=Qd ((D2.out.set1 1 _).kept hb1);clear hb1 D2 C2;obtain⟨c1,c2,c3,c4,c5,c6⟩:=Ubz D3.out.2.1
  rotate_right
  focus
   obtain rfl:b=true:=by have:=HBB.out;simpa using this.symm
  rotate_right
  focus
   cases b2;rotate_right
   focus
    obtain rfl:b=true:=by have:=HBB.out;simpa using this.symm
   rotate_right
   focus
    obtain rfl:b=false:=by have:=HBB.out;simpa using this.symm
 all_goals
  go_wp2_with fail;rw[Xq];have D4:=Qd (D3.out.set1 2 (.int .i64 x2));clear c1 c2 c3 c4 c5 c6 D3;obtain⟨c1,c2,c3,c4,c5,c6⟩:=Ubz D4.out.2.1;obtain⟨d1,d2,d3,d4,d5,d6⟩:=Ubz D4.out.1;go_wp2_with fail;exact Xk (Ud results158 _ _ w.heap.size 24 _ (0,0) _ rfl (set3 D4.out.1 _ _ _) underlying24 rfl Za) rfl ⟨rfl,Yd D4.out.2.2 (Xa _) _ _ _⟩
end Go.Proofs.YtdaflmjfeoacaaaGreat
namespace Go.Proofs.YtdaflmjfeoacaaaGreat
open Tryz
open Go.RowKit
def V3.cells (v:V3):Array Value:=#[.int .i64 v.x,.int .i64 v.y,.int .i64 v.z]
def V4.cells (v:V4):Array Value:=#[.int .i64 v.w,.int .i64 v.x,.int .i64 v.y,.int .i64 v.z]
theorem V3.cell {v:V3}{w:World}{g:Nat}{t:TypeId}(h:Box w g t v.cells){i:Nat}(hi:i<3):w.cell? ⟨g,i,none⟩=some (.int .i64 (v.at i)):=by
 rcases (show i=0∨i=1∨i=2 by omega) with rfl|rfl|rfl
 ·exact h.cell 0
 ·exact h.cell 1
 ·exact h.cell 2
theorem Uyz {pa pb i:Nat}{a b:V3}{w:World}(hi:i<3)(hA:Box w pa 24 a.cells)(hB:Box w pb 24 b.cells) :
  Calls prog 159 #[.int .i64 i,.pointer (some ⟨pa,0,none⟩),.pointer (some ⟨pb,0,none⟩)] w (Ub (.tuple #[.int .i64 (Ueh (a.at i) (b.at i)).1,.bool (Ueh (a.at i) (b.at i)).2]) w):=by
 have hii:(i:Int)<3:=by omega
 have hi0:(0:Int)≤i:=by omega
 have c1:=V3.cell hA hi;have c2:=V3.cell hB hi;have KS:=Qd (fun w=>Ut8 (a.at i) (b.at i) w);generalize Ueh (a.at i) (b.at i)=r at *;generalize a.at i=x at *;generalize b.at i=y at *;obtain⟨n,d⟩:=r;dsimp only at KS ⊢;clear hA hB;go_enter func159,ntmps159;go_upto_region 1 with fail
 go_region_held3 (fun w'=>w'.cell? ⟨pa,i,none⟩=some (.int .i64 x)∧w'.cell? ⟨pb,i,none⟩=some (.int .i64 y))
  (exact⟨c1,c2⟩) (first|(go_at_call 160;refine(KS.out _).mono ?_;rintro e w1 ⟨rfl,rfl⟩))
 rename_i hz;clear hz;go_wp2_with fail;go_ret2;exact⟨rfl,Ue (Xb _ w) 1⟩
theorem Ush {pa pb i:Nat}{a:V3}{y:Int}{w:World}(hi:i<3)(hA:Box w pa 24 a.cells)(hB:Box w pb 3 #[.int .i64 y]) :
  Calls prog 174 #[.int .i64 i,.pointer (some ⟨pa,0,none⟩),.pointer (some ⟨pb,0,none⟩)] w (Ub (.tuple #[.int .i64 (Up (a.at i) y).1,.bool (Up (a.at i) y).2]) w):=by
 have hii:(i:Int)<3:=by omega
 have hi0:(0:Int)≤i:=by omega
 have c1:=V3.cell hA hi;have c2:=hB.cell 0;have l1:=hA.lt;have l2:=hB.lt;have KS:=Qd (fun w=>Udq (a.at i) y w);generalize Up (a.at i) y=r at *;generalize a.at i=x at *;obtain⟨n,d⟩:=r;dsimp only at KS ⊢;clear hA hB;go_enter func174,ntmps174;go_upto_region 1 with fail
 go_region_held3 (fun w'=>w'.cell? ⟨pa,i,none⟩=some (.int .i64 x)∧w'.cell? ⟨pb,0,none⟩=some (.int .i64 y))
  (first|exact⟨c1,c2⟩|exact⟨f1,f2⟩) (first|(go_at_call 162;refine(KS.out _).mono ?_;rintro e w1 ⟨rfl,hb1⟩;have HB1:=Qd (Uv hb1);have f1:=(HB1.out.cell (p:=⟨pa,i,none⟩) l1).trans c1;have f2:=(HB1.out.cell (p:=⟨pb,0,none⟩) l2).trans c2;clear hb1))
 rename_i hz;clear hz;go_wp2_with fail;go_ret2;exact⟨rfl,HB1.out⟩
theorem Uv0 {pa pb i:Nat}{a:V3}{y:Int}{w:World}(hi:i<3)(hA:Box w pa 24 a.cells)(hB:Box w pb 3 #[.int .i64 y]) :
  Calls prog 205 #[.int .i64 i,.pointer (some ⟨pa,0,none⟩),.pointer (some ⟨pb,0,none⟩)] w (Ub (.tuple #[.int .i64 (Y5 (a.at i) y).1,.bool (Y5 (a.at i) y).2]) w):=by
 have hii:(i:Int)<3:=by omega
 have hi0:(0:Int)≤i:=by omega
 have c1:=V3.cell hA hi;have c2:=hB.cell 0;have l1:=hA.lt;have l2:=hB.lt;have KS:=Qd (fun w=>Uk5 (a.at i) y w);generalize Y5 (a.at i) y=r at *;generalize a.at i=x at *;obtain⟨n,d⟩:=r;dsimp only at KS ⊢;clear hA hB;go_enter func205,ntmps205;go_upto_region 1 with fail
 go_region_held3 (fun w'=>w'.cell? ⟨pa,i,none⟩=some (.int .i64 x)∧w'.cell? ⟨pb,0,none⟩=some (.int .i64 y))
  (first|exact⟨c1,c2⟩|exact⟨f1,f2⟩) (first|(go_at_call 206;refine(KS.out _).mono ?_;rintro e w1 ⟨rfl,hb1⟩;have HB1:=Qd (Uv hb1);have f1:=(HB1.out.cell (p:=⟨pa,i,none⟩) l1).trans c1;have f2:=(HB1.out.cell (p:=⟨pb,0,none⟩) l2).trans c2;clear hb1))
 rename_i hz;clear hz;go_wp2_with fail;go_ret2;exact⟨rfl,HB1.out⟩
end Go.Proofs.YtdaflmjfeoacaaaGreat
