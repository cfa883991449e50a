/- Part of the proof of TopTry, TopSplit: Tp1. Conditions: none. -/
import Derived.Test.YtdaflmjfeoacaaaGreatZbab
set_option linter.all false
set_option maxHeartbeats 16000000
set_option maxRecDepth 4000
namespace Go.Proofs.YtdaflmjfeoacaaaGreat
open Tryz
open Go.RowKit Go.Shelf
attribute [local go_sem] Oper.semAt_some
section
variable {F:Fence} {n:Nat} {P:Program} {w:World} {ops:Array Oper} {rest:List Oper} {o:Oper} {a:Act} {Q:Exit→Act→World→Prop}
def Ug9 (F:Fence)(n:Nat)(P:Program)(ops:Array Oper)(Q:Exit→Act→World→Prop)(rest:List Oper)(o:Oper)(ty:TypeId)(x:Operand)(a:Act)(w:World):Prop :=
 ∃(g:Nat) (t:TypeId) (cs:Array Value) (d:TypeDesc),a.eval x = .pointer (some ⟨g,0,none⟩)∧Box w g t cs∧P.underlying ty=some d∧d.isRow=true ∧
  (P.info? ty).map (·.size)=some cs.size∧wpListIn F n P ops Q rest (a.put o.dst (.agg cs)) w
def Ues (F:Fence)(n:Nat)(P:Program)(ops:Array Oper)(Q:Exit→Act→World→Prop)(rest:List Oper)(o:Oper)(ty:TypeId)(x y:Operand)(a:Act)(w:World):Prop :=
 ∃(g:Nat) (t:TypeId) (old cs:Array Value),a.eval x = .pointer (some ⟨g,0,none⟩)∧a.eval y = .agg cs∧Box w g t old∧(P.info? ty).map (·.size)=some cs.size∧old.size=cs.size∧cs.all (·.oneCell')=true ∧
  wpListIn F n P ops Q rest (a.put o.dst undef) (w.setRow g cs)
theorem Ucw (hgd:o.guard=none)(ty:TypeId)(x:Operand)(ho:o.op = .load ty x)(h:Ug9 F n P ops Q rest o ty x a w):wpListIn F n P ops Q (o::rest) a w:=by
 obtain⟨g,t,cs,d,hx,hB,hu,hd,hi,h⟩:=h;refine wpListIn_plain hgd fun K hK=>?_
 unfold Oper.wpIn;refine⟨by simp[Oper.about,ho],?_⟩;rw[Oper.semAt_plain F _ _ (by rw[ho];intro c hc;cases hc)];unfold execOp;simp only[ho,hx,Instr.loadAt,Instr.sureAddr,Sem.run_bind,Sem.run_pure,Result.andThen_ok,run_loadVar_row w g t ty cs (0,0) d hB hu (by cases d<;>simp_all[TypeDesc.isRow]) hi];exact hK _ _ h
theorem Ub3 (hgd:o.guard=none)(ty:TypeId)(x y:Operand)(ho:o.op = .store ty x y)(h:Ues F n P ops Q rest o ty x y a w):wpListIn F n P ops Q (o::rest) a w:=by
 obtain⟨g,t,old,cs,hx,hy,hB,hi,hold,h1,h⟩:=h;refine wpListIn_plain hgd fun K hK=>?_
 unfold Oper.wpIn;refine⟨by simp[Oper.about,ho],?_⟩;rw[Oper.semAt_plain F _ _ (by rw[ho];intro c hc;cases hc)];unfold execOp;simp only[ho,hx,hy,Instr.storeAt,Instr.sureAddr,Sem.run_bind,Sem.run_pure,Result.andThen_ok,run_storeVar_row w g t ty old cs hB hi hold h1];exact hK _ _ h
theorem Ug9.go {ty:TypeId}{x:Operand}(g:Nat){t:TypeId}{cs:Array Value}{d:TypeDesc}(hx:a.eval x = .pointer (some ⟨g,0,none⟩))(hB:Box w g t cs)(hu:P.underlying ty=some d)
  (hd:d.isRow=true) (hi:(P.info? ty).map (·.size)=some cs.size) (h:wpListIn F n P ops Q rest (a.put o.dst (.agg cs)) w):Ug9 F n P ops Q rest o ty x a w :=
 ⟨g,t,cs,d,hx,hB,hu,hd,hi,h⟩
theorem Ues.go {ty:TypeId}{x y:Operand}(g:Nat){t:TypeId}{old cs:Array Value}(hx:a.eval x = .pointer (some ⟨g,0,none⟩))(hy:a.eval y = .agg cs)(hB:Box w g t old)(hi:(P.info? ty).map (·.size)=some cs.size)
  (hold:old.size=cs.size) (h1:cs.all (·.oneCell')=true) (h:wpListIn F n P ops Q rest (a.put o.dst undef) (w.setRow g cs)):Ues F n P ops Q rest o ty x y a w :=
 ⟨g,t,old,cs,hx,hy,hB,hi,hold,h1,h⟩
end
theorem Uvf (g:Nat)(w:World):Calls prog 140 #[.pointer (some ⟨g,0,none⟩)] w
  (fun e w'=>e = .returned (.func (.func 167) #[] #[.pointer (some ⟨w.heap.size,0,none⟩)])∧w'=w.alloc (.cells #[.pointer (some ⟨g,0,none⟩)] 129)):=by
 go_enter func140,ntmps140;go_wp2;go_ret;exact⟨rfl,rfl⟩
structure RJ (w:World) (cv:Value) (rec:LoopState→Option Code→Loop) (z:Array Value) (st:LoopState) (t:Tsk) (W:World):Prop where
 box:Box W w.heap.size 36 (Us cv t)
 ok:t.ok
 res:Box W (w.heap.size+1) 36 z
 ptr:Box W (w.heap.size+2) 129 #[.pointer (some ⟨w.heap.size,0,none⟩)]
 defs:W.heap[w.heap.size+3]? = some (.deferred (some []))
 loop:W.heap[w.heap.size+4]? = some (.loop (rec st none))
 below:Below w.heap.size w W
section
variable {w:World} {cv:Value} {rec:LoopState→Option Code→Loop} {z:Array Value} {st st':LoopState} {t t':Tsk} {W W':World}
theorem RJ.lt (h:RJ w cv rec z st t W):w.heap.size+4<W.heap.size:=(Array.getElem?_eq_some_iff.1 h.loop).1
theorem RJ.moved (h:RJ w cv rec z st t W)(hb:Below W.heap.size W W'):RJ w cv rec z st t W':=by
 have:=h.lt;exact⟨h.box.kept hb,h.ok,h.res.kept hb,h.ptr.kept hb,(hb.block _ (by omega)).trans h.defs,(hb.block _ (by omega)).trans h.loop,Ua h.below hb h.below.size⟩
theorem RJ.set (h:RJ w cv rec z st t W)(ht:t'.ok)(hg:W.grownBy W' (some w.heap.size))(hB:Box W' w.heap.size 36 (Us cv t')):RJ w cv rec z st t' W':=by
 have:=h.lt;have hk:∀k,k<W.heap.size→k≠w.heap.size→W'.heap[k]? = W.heap[k]? := fun k hk hne=>hg.block k hk (fun e=>hne (by injection e))
 exact⟨hB,ht,(hk _ (by omega) (by omega)).trans h.res,(hk _ (by omega) (by omega)).trans h.ptr,(hk _ (by omega) (by omega)).trans h.defs,(hk _ (by omega) (by omega)).trans h.loop,
  h.below.grown hg h.below.size (fun k e=>by cases e;exact Xa _)⟩
theorem RJ.turn (h:RJ w cv rec z st t W):RJ w cv rec z st' t (W.putObj (w.heap.size+4) (.loop (rec st' none))):=by
 have:=h.lt;have hk:∀k,k≠w.heap.size+4→(W.putObj (w.heap.size+4) (.loop (rec st' none))).heap[k]? = W.heap[k]? := fun k hk=>World.putObj_heap_other hk
 exact⟨(hk _ (by omega)).trans h.box,h.ok,(hk _ (by omega)).trans h.res,(hk _ (by omega)).trans h.ptr,(hk _ (by omega)).trans h.defs,World.putObj_heap_same (by omega),
  h.below.grown (grownBy_putObj' _ _ _) h.below.size (fun k e=>by cases e;omega)⟩
theorem RJ.turns (code:List Uw)(hI:Ucj w cv code):U67 w.heap.size (w.heap.size+2) cv code (RJ w cv rec z .ready) where
 box h:=h.box
 ok h:=h.ok
 ptr h:=(h.ptr.cell 0).trans rfl
 plt h:=h.ptr.lt
 code h:=hI.below h.below
 moved h hb:=h.moved hb
 set h ht hg hB:=h.set ht hg hB
end
theorem Ux9 {F:Fence}{n:Nat}{P:Program}{c:Code}{Q:Exit→Act→World→Prop}{a:Act}{W:World}(h:∀W0,W0=W→c.wpIn F n P Q a W0):c.wpIn F n P Q a W:=h W rfl
theorem Uya {n m:Nat}{P:Program}{g:Operand}{p:Tmp}{assign body:Code}{Q:Exit→Act→World→Prop}{a:Act}{W0:World}{gf:Nat}{lb:Array Value}
  (hg:a.eval g = .func (.func gf) #[] lb) (eg:∀args w,(callFunc gf args).run P w = .ok (.enter gf args) w)
  (hcall:∀rec:LoopState→Option Code→Loop,
   (∀(x:Value) (W1:World) (R:World→Prop),W1.heap[W0.heap.size+1]? = some (.loop (rec .ready none)) →
    assign.wpIn (Fence.wide.inRound (W0.heap.size+1)) m P (Exit.then (fun a1 w1=>w1.heap[W0.heap.size+1]? = some (.loop (rec .ready none)) ∧
     body.wpIn (Fence.wide.inRound (W0.heap.size+1)) m P (fun e _ w2=>e = .normal∧w2.heap[W0.heap.size+1]? = some (.loop (rec .busy none))∧R (w2.putObj (W0.heap.size+1) (.loop (rec .ready none))))
      a1 (w1.putObj (W0.heap.size+1) (.loop (rec .busy none)))) (fun _ _ _=>False)) { tmps:=a.tmps.setIfInBounds p x,defers:=[] } W1 →
    YieldAt Fence.wide m P (W0.heap.size+1) #[x] W1 (fun e W'=>e = .returned (.bool true)∧R W')) →
   Calls P gf (#[.func (.yield (W0.heap.size+1)) #[] #[]]++lb) ((W0.alloc (.deferred (some []))).alloc (.loop (rec .ready none))) (fun e W'=>(∃v,e = .returned v) ∧
    W'.heap[W0.heap.size+1]? = some (.loop (rec .ready none)) ∧
    ∀o,Q .normal { a with defers:={ target := .collected W0.heap.size,args:=#[] }::a.defers } (W'.putObj (W0.heap.size+1) o))) :
  (Code.rangeFunc g #[p] assign body).wpIn Fence.wide n P Q a W0:=by
 refine wpIn_rangeFunc ?_;intro fn hfn;obtain⟨rec,hrec⟩:∃rec:LoopState→Option Code→Loop,rec=fun st pe=>{ state:=st,pending:=pe,fn,tmps:=a.tmps,params:=#[p],assign,body,defers:=W0.heap.size }:=⟨_,rfl⟩
 refine⟨W0.heap.size+1,[{ target := .collected W0.heap.size,args:=#[] }],(W0.alloc (.deferred (some []))).alloc (.loop (rec .ready none)),{ target := .fn (.func gf) lb,args:=#[.func (.yield (W0.heap.size+1)) #[] #[]] },
  (W0.alloc (.deferred (some []))).alloc (.loop (rec .ready none)),gf,#[.func (.yield (W0.heap.size+1)) #[] #[]]++lb,(W0.alloc (.deferred (some []))).alloc (.loop (rec .ready none)),?_,?_,?_,?_,fun h=>absurd h (by simp[Fence.wide]),?_⟩
 ·rw[hrec];exact run_enterLoop_outer _ _ _ _ _
 ·simp only[resolve,hg];simp[go_sem]
 ·intro f' _;trivial
 ·simp[invoke,go_sem,eg]
 ·refine callsIn_wide.2 ((hcall rec ?_).mono ?_)
  ·intro x W1 R hl hr;have hy:=run_yield (P:=P) (args:=#[x]) hl (by rw[hrec];rfl);have hy':(Instr.yield (W0.heap.size+1) #[x]).run P W1 = .ok (.round (W0.heap.size+1) fn (a.tmps.setIfInBounds p x) assign body) W1:=by
    rw[hrec] at hy;simpa using hy
   refine⟨fn,_,assign,body,hy',roundIn_of_wpIn hfn (wpIn_mono hr ?_)⟩;intro e a1 w1 h1;cases e with
   | normal =>
    obtain⟨hl1,hb⟩:=h1;have hbr:=run_beginRound (P:=P) hl1 (by rw[hrec]);have hbr':(Instr.beginRound (W0.heap.size+1)).run P w1 = .ok () (w1.putObj (W0.heap.size+1) (.loop (rec .busy none))):=by rw[hrec] at hbr ⊢;exact hbr
    refine⟨_,hbr',wpIn_mono hb ?_⟩;rintro e2 a2 w2 ⟨rfl,hl2,hR⟩;have he:=run_endRound (P:=P) none (r:=rec .busy none) hl2;have he':(Instr.endRound (W0.heap.size+1) none).run P w2 = .ok (.bool true) (w2.putObj (W0.heap.size+1) (.loop (rec .ready none))):=by rw[hrec] at he ⊢;exact he
    exact⟨_,_,he',rfl,hR⟩
   | exit id=>exact h1
   | goto l=>exact h1
   | ret=>exact h1
   | panic c=>exact h1
   | outgrown=>exact h1
  ·rintro e W' ⟨⟨v,rfl⟩,hl,hq⟩;have he:=run_endLoop (P:=P) hl (by rw[hrec];simp);have he':(Instr.endLoop (W0.heap.size+1)).run P W' = .ok none (W'.putObj (W0.heap.size+1) (.loop { rec .ready none with state := .exhausted })):=by
    rw[hrec] at he ⊢;exact he
   exact⟨none,_,he',hq _⟩
set_option maxRecDepth 20000 in
theorem Ukv {cv:Value}{code:List Uw}{t:Tsk}{w:World}(hs:Ugx code)(hI:Ucj w cv code)(ht:t.ok)(hone:cv.oneCell'=true) :
  Calls prog 112 #[.agg (Us cv t)] w (Ukt cv (rest code t) w):=by
 have HS:=Qd hs;have HI:=Qd hI;have HT:=Qd ht;clear hs hI ht;refine(callsIn_wide (n:=5)).1 ?_;refine callsIn_of_wp_marks func112 rfl trivial ?_ rfl;simp only[ntmps112,List.size_toArray,List.length_cons,List.length_nil,Nat.reduceAdd,Nat.reduceSub,Array.replicate_succ,Array.replicate_zero,List.push_toArray,List.append_toArray,List.nil_append,List.cons_append]
 gi_wp2
 refine⟨trivial,?_⟩;refine(callsIn_wide.2 (Uvf _ _)).mono ?_;rintro e w' ⟨rfl,rfl⟩
 gi_wp2
 refine Ux9 fun W0 hW0=>?_
 have hsz:W0.heap.size=w.heap.size+3:=by rw[hW0];simp
 have b1:Box W0 w.heap.size 36 (Us cv t):=by rw[hW0];exact((Box.new _ _ _).alloc _).alloc _
 have b2:∃z,Box W0 (w.heap.size+1) 36 z∧z.size=36:=by rw[hW0];exact⟨_,(Box.at_ (by simp) _ _).alloc _,rfl⟩
 have b3:Box W0 (w.heap.size+2) 129 #[.pointer (some ⟨w.heap.size,0,none⟩)]:=by rw[hW0];exact Box.at_ (by simp) _ _
 have hB:Below w.heap.size w W0:=by rw[hW0];exact(((Xb _ w).alloc (Xa _) _).alloc (by simp) _).alloc (by simp;omega) _
 obtain⟨z,b2,hz⟩:=b2;clear hW0;refine Uya (m:=5) (gf:=167) (lb:=#[.pointer (some ⟨w.heap.size+2,0,none⟩)]) rfl (enters_of func167 (by kernel_rfl) rfl) ?_;intro rec hyield;rw[hsz] at hyield ⊢;have h0:RJ w cv rec z .ready t ((W0.alloc (.deferred (some []))).alloc (.loop (rec .ready none))):=by
  have h4:=World.alloc_heap_new (W0.alloc (.deferred (some []))) (.loop (rec .ready none));rw[World.size_alloc,hsz] at h4;have h3:=(Below.heap_alloc (W0.alloc (.deferred (some []))) (.loop (rec .ready none)) W0.heap.size (by simp)).trans (World.alloc_heap_new W0 _);rw[hsz] at h3;exact⟨(b1.alloc _).alloc _,HT.out,(b2.alloc _).alloc _,(b3.alloc _).alloc _,h3,h4,(hB.alloc hB.size _).alloc (by simp;omega) _⟩
 refine(Uve (n:=5) (RJ.turns code HI.out) HS.out hone (by omega) ?round h0).mono ?done
 case done =>
  rintro e W' ⟨hv,hJ⟩;refine⟨hv,hJ.loop,fun o=>?_⟩;have hlt:=hJ.lt;have hk:∀k,k≠w.heap.size+4→(W'.putObj (w.heap.size+4) o).heap[k]? = W'.heap[k]? := fun k hk=>World.putObj_heap_other hk
  have c1:Box (W'.putObj (w.heap.size+4) o) w.heap.size 36 (Us cv (rest code t)):=(hk _ (by omega)).trans hJ.box;have c2:Box (W'.putObj (w.heap.size+4) o) (w.heap.size+1) 36 z:=(hk _ (by omega)).trans hJ.res;have c3:(W'.putObj (w.heap.size+4) o).heap[w.heap.size+3]? = some (.deferred (some [])):=(hk _ (by omega)).trans hJ.defs;have c4:Below w.heap.size w (W'.putObj (w.heap.size+4) o):=hJ.below.grown (grownBy_putObj' _ _ _) hJ.below.size (fun k e=>by cases e;omega);have hok:=hJ.ok;generalize W'.putObj (w.heap.size+4) o=W2 at *;have C1:=Qd c1;have C2:=Qd c2;have C3:=Qd c3;have C4:=Qd c4;have hsz2:(Us cv (rest code t)).size=36:=Yy hok.1;have HSZ:=Qd hsz2;have h1:=Qd (Z7 (t:=rest code t) hone);generalize hcs:Us cv (rest code t)=cs at *;have HCS:=Qd hcs;clear hcs;clear c1 c2 c3 c4 hk hJ hyield h0 hsz2 hok
  gi_wp2_with (with_reducible first|refine Ucw rfl 36 _ rfl ?_|refine Ub3 rfl 36 _ _ rfl ?_)
  refine Ug9.go w.heap.size rfl C1.out underlying36 rfl (Yc HSZ.out) ?_
  gi_wp2_with (with_reducible first|refine Ucw rfl 36 _ rfl ?_|refine Ub3 rfl 36 _ _ rfl ?_)
  refine Ues.go (w.heap.size+1) rfl rfl C2.out (Yc HSZ.out) (by rw[hz,HSZ.out]) h1.out ?_
  gi_wp2
  have hD:(W2.setRow (w.heap.size+1) cs).heap[w.heap.size+3]? = some (.deferred (some [])):=(setRow_other _ _ _ _ (by omega)).trans C3.out;refine⟨by simp,.inl ⟨_,_,rfl,run_takeDeferred hD,?_⟩⟩;have hr:Box ((W2.setRow (w.heap.size+1) cs).putObj (w.heap.size+3) (.deferred none)) (w.heap.size+1) 36 cs:=(World.putObj_heap_other (by omega)).trans (C2.out.row cs);refine⟨_,results_cell_row results112 _ _ (w.heap.size+1) 36 _ (0,0) _ rfl hr underlying36 rfl (Yc HSZ.out),?_,?_⟩
  ·rw[HCS.out]
  ·exact(Uc C4.out (by omega) _).grown (grownBy_putObj' _ _ _) (by have:=C4.out.size;simp;exact this) (fun k e=>by cases e;omega)
 case round =>
  intro t1 x W hJ hd hp0 hp1 hx hk;refine hyield x.val W _ hJ.loop ?_;clear hyield h0;have hlt:=hJ.lt;have hxx:x.ok∧Udc code.length t1.pc.toNat x:=by
   rw[←hx];exact⟨Ur4 HI.out.2 _ (by omega),HS.out.1 _ (by omega)⟩
  have hcl:code.length≤200:=HS.out.2.2;obtain⟨hxo,hxs⟩:=hxx;have HXO:=Qd hxo;have HXS:=Qd hxs;have HB:Hid (∀o,RJ w cv rec z .busy t1 ((W.alloc o).putObj (w.heap.size+4) (.loop (rec .busy none)))):=Qd fun o=>(hJ.moved ((Xb _ W).alloc (Xa _) o)).turn
  have HL:Hid (∀o,(W.alloc o).heap[w.heap.size+4]? = some (.loop (rec .ready none))):=Qd fun o=>(hJ.moved ((Xb _ W).alloc (Xa _) o)).loop
  have HX:=Qd hx;have HD:=Qd hd;have h5:∀o,Box (W.alloc (.cells #[.int .i64 x.k,.int .i64 x.i,.int .i64 x.r,.int .i64 x.to,.int .u64 x.a] 162) |>.putObj (w.heap.size+4) o) W.heap.size 162 #[.int .i64 x.k,.int .i64 x.i,.int .i64 x.r,.int .i64 x.to,.int .u64 x.a]:=fun o =>
   (World.putObj_heap_other (by omega)).trans (Box.new _ _ _)
  have H5:=Qd h5;clear h5 hx hd hxo hxs hJ b1 b2 b3 hB;unfold Uw.val
  gi_wp2
  refine⟨HL.out _,Ux9 fun Wb hWb=>?_⟩;have rj:RJ w cv rec z .busy t1 Wb:=by rw[hWb];exact HB.out _
  have bx:Box Wb W.heap.size 162 #[.int .i64 x.k,.int .i64 x.i,.int .i64 x.r,.int .i64 x.to,.int .u64 x.a]:=by rw[hWb];exact H5.out _
  clear hWb HL HB H5;have hgl:=rj.lt;have i0:=(bx.cell 0);have i1:=(bx.cell 1);have i2:=(bx.cell 2);have i3:=(bx.cell 3);have i4:=(bx.cell 4);simp only[List.getElem?_toArray,List.getElem?_cons_zero,List.getElem?_cons_succ] at i0 i1 i2 i3 i4;have h32:=rj.ok.1;obtain⟨s0,s1,s2,s3,s4,s5⟩:=HXS.out;have HR:=Qd rj;have BX:=Qd bx;clear rj bx;by_cases h6:x.k=6
  ·have hb:Yw t1 x={ t1 with done:=true,ans:=s64 x.a }:=by unfold Yw;rw[if_pos h6]
   have HBY:=Qd hb;clear hb;rw[h6] at i0;have hsz2:(Us cv { t1 with done:=true,ans:=s64 x.a }).size=36:=Yy h32;have HSZ:=Qd hsz2;have HS1:=Qd (Yy (cv:=cv) h32);have h1:=Qd (Z7 (t:={ t1 with done:=true,ans:=s64 x.a }) hone);have hconv:IntKind.i64.wrap x.a=s64 x.a:=by rw[Xf];rfl
   clear h6 hsz2
   gi_wp2_with (with_reducible first|refine Ucw rfl 36 _ rfl ?_|refine Ub3 rfl 36 _ _ rfl ?_)
   refine Ug9.go w.heap.size rfl HR.out.box underlying36 rfl (Yc HS1.out) ?_
   gi_wp2_with (with_reducible first|refine Ucw rfl 36 _ rfl ?_|refine Ub3 rfl 36 _ _ rfl ?_)
   refine⟨trivial,?_⟩;refine(callsIn_wide.2 (Uif _ _ _ _ h32 hone)).mono ?_;rintro e w1 ⟨rfl,hb1⟩;have rj1:=HR.out.moved hb1;have RJ1:=Qd rj1;clear rj1
   gi_wp2_with (with_reducible first|refine Ucw rfl 36 _ rfl ?_|refine Ub3 rfl 36 _ _ rfl ?_)
   refine Ues.go w.heap.size rfl rfl RJ1.out.box (Yc HSZ.out) (by rw[HS1.out,HSZ.out]) h1.out ?_;have hset:RJ w cv rec z .busy (Yw t1 x) (w1.setRow w.heap.size (Us cv { t1 with done:=true,ans:=s64 x.a })):=by
    rw[HBY.out];exact RJ1.out.set ⟨RJ1.out.ok.1,RJ1.out.ok.2.1,RJ1.out.ok.2.2.1,U35 _⟩ ⟨rfl,rfl,rfl,by simp,fun k _ hk=>setRow_other _ _ _ _ (fun e=>hk (by rw[e]))⟩ (RJ1.out.box.row _)
   have HSET:=Qd hset;clear hset
   gi_wp2
   exact⟨HSET.out.loop,HSET.out.turn⟩
  ·have hk5:x.k≤5:=by omega
   by_cases hj:Ukm t1.regs x=true;rotate_right
   focus
    have hj':Ukm t1.regs x=false:=by simpa using hj
    have hb:Yw t1 x={ t1 with pc:=t1.pc+1 }:=by unfold Yw;rw[if_neg h6,if_neg hj]
    have HBY:=Qd hb;have HJ:=Qd hj';have hwr:IntKind.i64.wrap (t1.pc+1)=t1.pc+1:=by rw[Xf];omega
    clear hb hj hj'
   rotate_right
   focus
    have hb:Yw t1 x={ t1 with pc:=x.to }:=by unfold Yw;rw[if_neg h6,if_pos hj]
    have HBY:=Qd hb;have HJ:=Qd hj;clear hb hj
   all_goals
    gi_wp2
    refine⟨trivial,?_⟩;refine(callsIn_wide.2 (Uvc (x:=x) HR.out.box HR.out.ok HXO.out s2 s3 (by omega) hk5)).mono ?_;rintro e w1 ⟨rfl,hb1⟩;rw[HJ.out];have rj1:=HR.out.moved hb1;have bx1:=BX.out.kept hb1;have j3:=bx1.cell 3;simp only[List.getElem?_toArray,List.getElem?_cons_zero,List.getElem?_cons_succ] at j3;have e1:=(rj1.box.cell 1).trans Ug6;have e1f:=rj1.box.frozen 1
   rotate_right
   focus
    have hset:RJ w cv rec z .busy (Yw t1 x) (w1.setCell ⟨w.heap.size,1,none⟩ (.int .i64 (t1.pc+1))):=by
     rw[HBY.out];refine rj1.set ⟨rj1.ok.1,rj1.ok.2.1,?_,rj1.ok.2.2.2⟩ ⟨rfl,rfl,rfl,by simp,fun k _ hk=>Below.heap_setCell _ _ _ k (fun e=>hk (by rw[e]))⟩ ?_
     ·unfold I64;constructor<;>(simp only;omega)
     ·have:=rj1.box.set_ 1 (.int .i64 (t1.pc+1));rw[Ude] at this;exact this
   rotate_right
   focus
    have hset:RJ w cv rec z .busy (Yw t1 x) (w1.setCell ⟨w.heap.size,1,none⟩ (.int .i64 x.to)):=by
     rw[HBY.out];refine rj1.set ⟨rj1.ok.1,rj1.ok.2.1,?_,rj1.ok.2.2.2⟩ ⟨rfl,rfl,rfl,by simp,fun k _ hk=>Below.heap_setCell _ _ _ k (fun e=>hk (by rw[e]))⟩ ?_
     ·exact HXO.out.2.2.2.1
     ·have:=rj1.box.set_ 1 (.int .i64 x.to);rw[Ude] at this;exact this
   all_goals
    have HSET:=Qd hset;have RJ1:=Qd rj1;clear hset rj1 bx1
    gi_wp2
    exact⟨HSET.out.loop,HSET.out.turn⟩
end Go.Proofs.YtdaflmjfeoacaaaGreat
namespace Go.Proofs.YtdaflmjfeoacaaaGreat
open Tryz
open Go.RowKit
def Yz (w:World)(v:Value)(T:FT):Prop:=∃cv,v = .agg (Us cv T.t)∧Ucj w cv T.code∧T.t.ok∧cv.oneCell'=true
theorem Yz.below {w w':World}{v:Value}{T:FT}(h:Yz w v T)(hb:Below w.heap.size w w'):Yz w' v T:=by
 obtain⟨cv,e,hi,ht,hc⟩:=h;exact⟨cv,e,hi.below hb,ht,hc⟩
theorem Yz.ok {w:World}{v:Value}{T:FT}(h:Yz w v T):T.ok:=by
 obtain⟨cv,e,hi,ht,hc⟩:=h;exact⟨ht,hi.2⟩
theorem Ucj.nil (w:World):Ucj w (.slice none 0 0) []:=⟨Sl.nil w 5,fun x hx=>by simp at hx⟩
theorem Ucj.one {w:World}{v:Value}{l:List Uw}(h:Ucj w v l):v.oneCell'=true:=by
 obtain⟨A,c,rfl,_⟩:=h.1.form;rfl
def Zu (l:List Uw)(v:Value):Value:=if Ugx l then v else .slice none 0 0
theorem Udf {w:World}{v:Value}{l:List Uw}(h:Ucj w v l):Ucj w (Zu l v) (Ui l).code:=by
 unfold Zu Ui;split
 ·exact h
 ·exact Ucj.nil w
theorem Udy {w:World}{v:Value}{l:List Uw}(h:Ucj w v l):(Zu l v).oneCell'=true:=by
 unfold Zu;split
 ·exact h.one
 ·rfl
theorem Uf7 {v:Value}{ms:List Int}{w:World}(h:Yx w v ms):Calls prog 113 #[v] w (Ubj (Yu ms) w):=by
 have H:=Qd h;clear h;go_enter func113,ntmps113;go_wp2_with fail;refine(U2a (l:=[]) H.out ⟨Sl.nil w 4,fun x hx=>by simp at hx⟩ (by simp)).mono ?_;rintro e w1 ⟨v1,v2,rfl,ho,_,hb⟩;have F:Hid (Ubj (Yu ms) w (.returned v1) w1):=Qd ⟨v1,rfl,ho,hb⟩;clear ho hb;go_wp2;go_ret;exact F.out
theorem Ufk {v:Value}{l:List Uw}{w:World}(h:Ucj w v l):Calls prog 83 #[v] w (Ukt (Zu l v) (Ui l).t w):=by
 have H:=Qd h;obtain⟨A,c,rfl,_⟩:=h.1.form;clear h;go_enter func83,ntmps83;go_wp2_with fail;refine(Uku (H.out.alloc _)).mono ?_;rintro e w1 ⟨rfl,hb⟩;have hB:Below w.heap.size w w1:=Ua ((Xb _ w).alloc (Xa _) _) hb (by simp);have B1:=Qd hB;have bx:∃z,Box w1 w.heap.size 36 z∧z.size=36:=⟨_,(Box.new w _ _).kept hb,rfl⟩;obtain⟨z,bx,hz⟩:=bx;have BX:=Qd bx;clear hb hB bx;by_cases hs:Ugx l;rotate_right
 focus
  rw[Xh hs];have HS:=Qd hs;clear hs;go_wp2_with (with_reducible first|refine Qg 36 ?_|refine Qh 36 ?_);refine(Uif (.slice none 0 0) Uh7 (-1) w1 Ueo.1 rfl).mono ?_;rintro e w2 ⟨rfl,hb2⟩;have hok:({ Uh7 with done:=true,ans := -1 }:Tsk).ok:=⟨Ueo.1,Ueo.2.1,Ueo.2.2.1,by simp[I64]⟩;have hsz:(Us (.slice none 0 0) { Uh7 with done:=true,ans := -1 }).size=36:=Yy hok.1;have h1:=Qd (Z7 (cv := .slice none 0 0) (t:={ Uh7 with done:=true,ans := -1 }) rfl);have BX2:=Qd (BX.out.kept hb2)
  have F:Hid (Ukt (Zu l (.slice A l.length c)) (Ui l).t w (.returned (.agg (Us (.slice none 0 0) { Uh7 with done:=true,ans := -1 }))) (w2.setRow w.heap.size (Us (.slice none 0 0) { Uh7 with done:=true,ans := -1 }))):=Qd (by
   have hb:Below w.heap.size w (w2.setRow w.heap.size (Us (.slice none 0 0) { Uh7 with done:=true,ans := -1 })):=Uc (Ua B1.out hb2 B1.out.size) (Xa _) _;have e:Ui l=⟨[],{ Uh7 with done:=true,ans := -1 }⟩:=by unfold Ui;rw[if_neg HS.out]
   have e2:Zu l (.slice A l.length c) = .slice none 0 0:=by unfold Zu;rw[if_neg HS.out]
   exact⟨by rw[e,e2],hb⟩)
  clear hok hb2;generalize Us (.slice none 0 0) { Uh7 with done:=true,ans := -1 }=cs at *
 rotate_right
 focus
  rw[Xi hs];have HS:=Qd hs;have I1:=Qd (H.out.below (w':=w1) (B1.out));clear hs;go_wp2_with (with_reducible first|refine Qg 36 ?_|refine Qh 36 ?_);refine(Ukv (cv := .slice A l.length c) (t:=Uh7) HS.out I1.out Ueo rfl).mono ?_;rintro e w2 ⟨rfl,hb2⟩;have hok:(rest l Uh7).ok:=Un5 H.out.2 (by have:=HS.out.2.2;omega) Ueo;have hsz:(Us (.slice A l.length c) (rest l Uh7)).size=36:=Yy hok.1;have h1:=Qd (Z7 (cv := .slice A l.length c) (t:=rest l Uh7) rfl);have BX2:=Qd (BX.out.kept hb2)
  have F:Hid (Ukt (Zu l (.slice A l.length c)) (Ui l).t w (.returned (.agg (Us (.slice A l.length c) (rest l Uh7)))) (w2.setRow w.heap.size (Us (.slice A l.length c) (rest l Uh7)))):=Qd (by
   have hb:Below w.heap.size w (w2.setRow w.heap.size (Us (.slice A l.length c) (rest l Uh7))):=Uc (Ua B1.out hb2 B1.out.size) (Xa _) _;have e:Ui l=⟨l,rest l Uh7⟩:=by unfold Ui;rw[if_pos HS.out]
   have e2:Zu l (.slice A l.length c) = .slice A l.length c:=by unfold Zu;rw[if_pos HS.out]
   exact⟨by rw[e,e2],hb⟩)
  clear hok hb2;generalize Us (.slice A l.length c) (rest l Uh7)=cs at *
 all_goals
  have HSZ:=Qd hsz;clear hsz;go_wp2_with (with_reducible first|refine Qg 36 ?_|refine Qh 36 ?_);refine Uf.go w.heap.size rfl rfl BX2.out (Yc HSZ.out) (by rw[hz,HSZ.out]) h1.out ?_;go_wp2;exact Xk (results_cell_row results83 _ _ w.heap.size 36 _ (0,0) _ rfl (BX2.out.row _) underlying36 rfl (Yc HSZ.out)) rfl F.out
end Go.Proofs.YtdaflmjfeoacaaaGreat
namespace Go.Proofs.YtdaflmjfeoacaaaGreat
open Tryz
open Go.RowKit
section
variable {P:Program}
theorem Ubk {fn:Func}{p u:Tmp}{ty:TypeId}(h:fn.results=#[.cell p ty,.tmp u])(tmps:Array Value)(w:World)(g:Nat)(t:TypeId)(cs:Array Value)(d:TypeDesc)
  (hp:tmps.getD p undef = .pointer (some ⟨g,0,none⟩)) (hg:Box w g t cs) (hu:P.underlying ty=some d) (hd:d.isRow=true) (hi:(P.info? ty).map (·.size)=some cs.size) :
  (results fn tmps).run P w = .ok (.tuple #[.agg cs,tmps.getD u undef]) w:=by
 have hp':tmps[p]?.getD undef = .pointer (some ⟨g,0,none⟩):=by simpa using hp
 simp[results,h,hp',asAddr,run_loadVar_row w g t ty cs (0,0) d hg hu (by cases d<;>simp_all[TypeDesc.isRow]) hi]
end
theorem Uq {P:Program}{c:Code}{Q:Exit→Act→World→Prop}{a:Act}{W:World}(h:∀W0,W0=W→c.wp P Q a W0):c.wp P Q a W:=h W rfl
theorem Y7 {P:Program}{f:FuncId}{args:Array Value}{R:Ending→World→Prop}{W:World}(h:∀W0,W0=W→Calls P f args W0 R):Calls P f args W R:=h W rfl
theorem Uv {W w:World}(h:Below W.drew.heap.size W.drew w):Below W.heap.size W w:=⟨h.os,h.tape,h.output,h.size,h.block⟩
def Uad (cv0:Value)(code0:List Uw)(T:FT)(ms:List Int)(w:World)(e:Ending)(w':World):Prop:=∃v1 v2,e = .returned (.tuple #[v1,v2])∧(∀W,Ucj W cv0 code0→Yz W v1 T)∧Own w' w.heap.size v2 ms∧Below w.heap.size w w'
theorem Ur5 {w:World}{base:Nat}{v:Value}{ms:List Int}(h:Own w base v ms){g:Nat}(hg:g<base)(cs:Array Value):Own (w.setRow g cs) base v ms:=by
 obtain⟨⟨h1,h2⟩,h3⟩:=h;refine⟨⟨h1,?_⟩,h3⟩;rcases h2 with h2|⟨g',cap,cur,e,hg',hh,r⟩
 ·exact .inl h2
 ·exact .inr ⟨g',cap,cur,e,hg',(setRow_other w g g' cs (by omega)).trans hh,r⟩
theorem Uad.stored {T:FT}{ms:List Int}{w w1:World}{cv0 cv v2:Value}{code0:List Uw}(hI:∀W,Ucj W cv0 code0→Ucj W cv T.code)(ht:T.t.ok)(hc:cv.oneCell'=true)(hb:Below w.heap.size w w1)(ho:Own w1 (w.heap.size+2) v2 ms) :
  Uad cv0 code0 T ms w (.returned (.tuple #[.agg (Us cv T.t),v2])) (w1.setRow (w.heap.size+1) (Us cv T.t)):=by
 have hb':=Uc hb (g:=w.heap.size+1) (by omega) (Us cv T.t);exact⟨_,_,rfl,fun W hW=>⟨cv,rfl,hI W hW,ht,hc⟩,Ufh (Ur5 ho (by omega) _) (by omega),hb'⟩
set_option maxRecDepth 20000 in
set_option linter.unusedSimpArgs false in
theorem Uyb {cv vm:Value}{T:FT}{ms:List Int}{w:World}(ht:T.t.ok)(hc:cv.oneCell'=true)(hm:Yx w vm ms)(hd:T.t.done=true) :
  Calls prog 84 #[.agg (Us cv T.t),vm] w (Uad cv T.code T (Yu ms) w):=by
 have h32:=ht.1;have e34:=Ua2 (cv:=cv) h32;rw[hd] at e34;have hsz:=Yy (cv:=cv) h32;have hone:=Z7 (t:=T.t) hc;obtain⟨tl,ht1,hl1⟩:=Udx cv T.t h32;have F:Hid (∀v2 w1,Below w.heap.size w w1→Own w1 (w.heap.size+2) v2 (Yu ms)→Uad cv T.code T (Yu ms) w (.returned (.tuple #[.agg (Us cv T.t),v2])) (w1.setRow (w.heap.size+1) (Us cv T.t))):=Qd fun v2 w1 hb ho=>Uad.stored (fun _ h=>h) ht hc hb ho
 have HM:=Qd hm;rw[ht1] at F e34 hsz hone;rw[ht1];rw[List.getElem?_toArray] at e34;have HSZ:=Qd hsz;have HONE:=Qd hone;have HL1:=Qd hl1;clear hm ht h32 hd hsz hone ht1 hc hl1;go_enter func84,ntmps84;go_wp2_with fail;refine Uq fun W0 hW0=>?_
 have bx:Box W0 w.heap.size 36 tl.toArray:=by rw[hW0];exact(Box.new _ _ _).alloc _
 have br:∃z,Box W0 (w.heap.size+1) 36 z∧z.size=36:=by rw[hW0];exact⟨_,Box.at_ (by simp) _ _,rfl⟩
 have hb0:Below w.heap.size w W0:=by rw[hW0];exact((Xb _ w).alloc (Xa _) _).alloc (by simp) _
 have hs0:W0.heap.size=w.heap.size+2:=by rw[hW0];simp
 obtain⟨z,br,hz⟩:=br;clear hW0;have HB:=Qd hb0;have BX:=Qd bx;have BR:=Qd br;have HM0:=Qd (HM.out.below (w':=W0) hb0);clear hb0 bx br;have hu:=underlying36;refine Xm (S:=fun w'=>w'.rangeAt w.heap.size 0 tl) (by kernel_rfl) BX.out.range (fun hHeld=>?_);refine wpAnyH_take (i:=0) (v := .agg tl.toArray) rfl (by kernel_rfl) (by kernel_rfl) (by kernel_rfl) (fun _ _ _ h=>h)
  (Xn (by rfl) 36 _ rfl w.heap.size 0 rfl tl _ (fun _ h=>h) hu rfl (by rw[HL1.out];exact Uer)) hHeld ?_
 clear hu;simp only[Act.put,List.setIfInBounds_toArray,List.set_cons_zero,List.set_cons_succ];refine wpAnyH_take (i:=1) (v:=vm) rfl (by kernel_rfl) (by kernel_rfl) (by kernel_rfl) (fun _ _ _ h=>h) (Or.inl ⟨by rfl,fun w hw=>?_⟩) hHeld ?_
 ·go_simp
 simp only[Act.put,List.setIfInBounds_toArray,List.set_cons_zero,List.set_cons_succ];refine Qc 2 fun K hK=>?_
 go_simp;refine(Uf7 (w:=W0.drew) HM0.out.drew).mono ?_;rintro e w1 ⟨v2,rfl,ho,hb1'⟩;have hb1:=Uv hb1';clear hb1';have BR1:=Qd (BR.out.kept hb1);have HF:=Qd (F.out v2 w1 (Ua HB.out hb1 HB.out.size) (Ufh ho (by show _≤W0.heap.size;omega)));have bx1:Box w1 w.heap.size 36 tl.toArray:=BX.out.kept hb1;refine hK.out _ _ bx1.range (fun hHeld2=>?_);clear hK K ho hb1;refine Qc 3 fun K hK=>?_
 rw[if_pos (by rfl)];refine wp_store_row 36 _ _ rfl (w.heap.size+1) tl.toArray rfl rfl 36 _ BR1.out (Yc (by rw[HSZ.out])) (by rw[hz,HSZ.out]) HONE.out ?_;refine hK.out _ _ (by exact(Box.row_far (bx1) (by omega) _).range) (fun _=>?_);clear hK K;refine Qc 4 fun K hK=>?_
 go_simp;refine hK.out _ _ (by exact(Box.row_far (bx1) (by omega) _).range) (fun _=>?_);clear hK K;refine Xl (by kernel_rfl) ?_ _;go_wp2;exact Xk (Ubk results84 _ _ (w.heap.size+1) 36 _ _ rfl (BR1.out.row _) underlying36 rfl (Yc HSZ.out)) rfl HF.out
theorem Ur6 {cv vm:Value}{T:FT}{ms:List Int}{w:World}(hI:Ucj w cv T.code)(ht:T.t.ok)(hc:cv.oneCell'=true)(hm:Yx w vm ms)(hd:T.t.done=false)(hs:¬Ugx T.code) :
  Calls prog 84 #[.agg (Us cv T.t),vm] w (Uad cv T.code (Ui T.code) (Yu ms) w):=by
 have h32:=ht.1;have e34:=Ua2 (cv:=cv) h32;have e0:=Ufj (cv:=cv) (t:=T.t);rw[hd] at e34;have HI:=Qd hI;have HM:=Qd hm;have HS:=Qd hs;have hok:(Ui T.code).t.ok:=(Ugy hI.2).1;obtain⟨A,c,rfl,_⟩:=hI.1.form;generalize Us (.slice A T.code.length c) T.t=C at *;clear hm hI ht h32 hd hc hs;go_enter func84,ntmps84;go_wp2_with fail;refine Y7 fun W0 hW0=>?_
 have bx:Box W0 w.heap.size 36 C:=by rw[hW0];exact(Box.new _ _ _).alloc _
 have br:∃z,Box W0 (w.heap.size+1) 36 z∧z.size=36:=by rw[hW0];exact⟨_,Box.at_ (by simp) _ _,rfl⟩
 have hb0:Below w.heap.size w W0:=by rw[hW0];exact((Xb _ w).alloc (Xa _) _).alloc (by simp) _
 have hs0:W0.heap.size=w.heap.size+2:=by rw[hW0];simp
 obtain⟨z,br,hz⟩:=br;clear hW0;refine(Uku (HI.out.below hb0)).mono ?_;rintro e w1 ⟨rfl,hb1⟩;rw[Xh HS.out];have hb2:=Ua hb0 hb1 hb0.size;have hs1:w.heap.size+2≤w1.heap.size:=by have:=hb1.size;omega
 have bx1:=bx.kept hb1;have br1:=br.kept hb1;have d0:=(bx1.cell 0).trans e0;have HB:=Qd hb2;have BR:=Qd br1;have HI1:=Qd (HI.out.below hb2);clear hb0 hb1 hb2 bx br bx1 br1 hs0;go_wp2_with fail;refine(Ufk HI1.out).mono ?_;rintro e w2 ⟨rfl,hb2⟩;have hc':=Udy HI.out;have hi':∀W,Ucj W (.slice A T.code.length c) T.code→Ucj W (Zu T.code (.slice A T.code.length c)) (Ui T.code).code:=fun W h=>Udf h
 generalize Zu T.code (.slice A T.code.length c)=cv' at *;have hb3:=Ua HB.out hb2 HB.out.size;have br2:=BR.out.kept hb2;have HM2:=Qd (HM.out.below hb3);have hs2:w.heap.size+2≤w2.heap.size:=by have:=hb2.size;omega
 have HB3:=Qd hb3;have BR2:=Qd br2;clear hb2 hb3 br2 HB BR HI1 d0;go_wp2_with fail;refine(Uf7 HM2.out).mono ?_;rintro e w3 ⟨v2,rfl,ho,hb4⟩;have br3:=BR2.out.kept hb4;have hb5:=Ua HB3.out hb4 HB3.out.size;have hF:Uad (.slice A T.code.length c) T.code (Ui T.code) (Yu ms) w (.returned (.tuple #[.agg (Us cv' (Ui T.code).t),v2])) (w3.setRow (w.heap.size+1) (Us cv' (Ui T.code).t)) :=
  Uad.stored hi' hok hc' hb5 (Ufh ho (by omega))
 have HF:=Qd hF;have BR3:=Qd br3;have HSZ:=Qd (Yy (cv:=cv') hok.1);have HONE:=Qd (Z7 (t:=(Ui T.code).t) hc');clear hb4 hb5 br3 ho hF;generalize Us cv' (Ui T.code).t=D at *;go_wp2_with (with_reducible first|refine Qg 36 ?_|refine Qh 36 ?_);refine Uf.go (w.heap.size+1) rfl rfl BR3.out (Yc HSZ.out) (by rw[hz,HSZ.out]) HONE.out ?_;go_wp2;exact Xk (Ubk results84 _ _ (w.heap.size+1) 36 _ _ rfl (BR3.out.row _) underlying36 rfl (Yc HSZ.out)) rfl HF.out
end Go.Proofs.YtdaflmjfeoacaaaGreat
namespace Go.Proofs.YtdaflmjfeoacaaaGreat
open Tryz
open Go.RowKit
theorem Uet {w:World}{base:Nat}{v:Value}{ms:List Int}(h:Own w base v ms){p:Addr}(hp:p.block<base)(u:Value):Own (w.setCell p u) base v ms:=by
 obtain⟨⟨h1,h2⟩,h3⟩:=h;refine⟨⟨h1,?_⟩,h3⟩;rcases h2 with h2|⟨g',cap,cur,e,hg',hh,r⟩
 ·exact .inl h2
 ·exact .inr ⟨g',cap,cur,e,hg',(Below.heap_setCell w p u g' (by omega)).trans hh,r⟩
theorem U2e {w w':World}{base:Nat}{v:Value}{ms:List Int}(h:Own w base v ms)(hb:Below w.heap.size w w'):Own w' base v ms:=by
 obtain⟨⟨h1,h2⟩,h3⟩:=h;refine⟨⟨h1,?_⟩,h3⟩;rcases h2 with h2|⟨g',cap,cur,e,hg',hh,r⟩
 ·exact .inl h2
 ·exact .inr ⟨g',cap,cur,e,hg',(hb.block g' (Array.getElem?_eq_some_iff.1 hh).1).trans hh,r⟩
set_option maxRecDepth 20000 in
set_option linter.unusedSimpArgs false in
theorem Uyc {cv vm:Value}{T:FT}{ms:List Int}{w:World}(hI:Ucj w cv T.code)(ht:T.t.ok)(hc:cv.oneCell'=true)(hm:Yx w vm ms)(hd:T.t.done=false)(hs:Ugx T.code) :
  Calls prog 84 #[.agg (Us cv T.t),vm] w (Uad cv T.code (U8 T ms).1 (U8 T ms).2 w):=by
 have h32:=ht.1;have e34:=Ua2 (cv:=cv) h32;rw[hd] at e34;have HI:=Qd hI;have HM:=Qd hm;have HS:=Qd hs;have HT:=Qd ht;have hrok:(rest T.code T.t).ok:=Un5 hI.2 (by have:=hs.2.2;omega) ht;have hst:U8 T ms=if (rest T.code T.t).done then (⟨T.code,rest T.code T.t⟩,Yu ms) else
   (⟨T.code,rest T.code (moved (rest T.code T.t) (T.code.getD (rest T.code T.t).pc.toNat Yo)
    (U9 (Yu ms) ⟨Umc (T.code.getD (rest T.code T.t).pc.toNat Yo).k,(T.code.getD (rest T.code T.t).pc.toNat Yo).i,(T.code.getD (rest T.code T.t).pc.toNat Yo).a,0⟩).2)⟩,
    (U9 (Yu ms) ⟨Umc (T.code.getD (rest T.code T.t).pc.toNat Yo).k,(T.code.getD (rest T.code T.t).pc.toNat Yo).i,(T.code.getD (rest T.code T.t).pc.toNat Yo).a,0⟩).1):=by
  unfold U8;rw[if_neg (by simp[hd]),if_neg (by simpa using hs)]
 have HST:=Qd hst;obtain⟨A,c,hcv,hc1,hc2,_⟩:=hI.1.form;unfold maxLen at hc2;have e0:(Us cv T.t)[0]? = some (.slice A T.code.length c):=by rw[Ufj,hcv]
 generalize hC:Us cv T.t=C at *;have HSZ:=Qd (by rw[←hC];exact Yy h32:C.size=36);have HCC:=Qd hC;clear hm hI ht h32 hd hs hst hC;go_enter func84,ntmps84;go_wp2_with fail;refine Y7 fun W0 hW0=>?_
 have bx:Box W0 w.heap.size 36 C:=by rw[hW0];exact(Box.new _ _ _).alloc _
 have br:∃z,Box W0 (w.heap.size+1) 36 z∧z.size=36:=by rw[hW0];exact⟨_,Box.at_ (by simp) _ _,rfl⟩
 have hb0:Below w.heap.size w W0:=by rw[hW0];exact((Xb _ w).alloc (Xa _) _).alloc (by simp) _
 have hs0:W0.heap.size=w.heap.size+2:=by rw[hW0];simp
 obtain⟨z,br,hz⟩:=br;clear hW0;rw[←hcv];refine(Uku (HI.out.below hb0)).mono ?_;rintro e w1 ⟨rfl,hb1⟩;rw[Xi HS.out];have hb2:=Ua hb0 hb1 hb0.size;have hs1:w.heap.size+2≤w1.heap.size:=by have:=hb1.size;omega
 have bx1:=bx.kept hb1;have br1:=br.kept hb1;have HB:=Qd hb2;have BX:=Qd bx1;have BR:=Qd br1;have HI1:=Qd (HI.out.below hb2);clear hb0 hb1 hb2 bx br bx1 br1 hs0 e0 e34;go_wp2_with (with_reducible first|refine Qg 36 ?_|refine Qh 36 ?_);refine Uo.go w.heap.size rfl BX.out underlying36 rfl (Yc HSZ.out) ?_;go_wp2_with (with_reducible first|refine Qg 36 ?_|refine Qh 36 ?_);rw[←HCC.out];refine(Ukv HS.out HI1.out HT.out hc).mono ?_;rintro e w2 ⟨rfl,hb2⟩;have hb3:=Ua HB.out hb2 HB.out.size;have hs2:w.heap.size+2≤w2.heap.size:=by have:=hb2.size;omega
 have br2:=BR.out.kept hb2;have bx2:=BX.out.kept hb2;have HRO:=Qd hrok;have HB2:=Qd hb3;have BR2:=Qd br2;have BX2:=Qd bx2;have e34:=Ua2 (cv:=cv) hrok.1;have e1:=Ug6 (cv:=cv) (t:=rest T.code T.t);have e0:=Ufj (cv:=cv) (t:=rest T.code T.t);obtain⟨tl,hD,hl1⟩:=Udx cv (rest T.code T.t) hrok.1;have HSZ2:=Qd (by rw[←hD];exact Yy hrok.1:tl.toArray.size=36);have HONE:=Qd (by rw[←hD];exact Z7 hc:(tl.toArray).all (·.oneCell')=true);rw[hD,List.getElem?_toArray] at e34 e1 e0;have HDD:=Qd hD;rw[hD];have HL1:=Qd hl1;clear hb2 hb3 br2 bx2 hrok HB BR BX HI1 hD hl1;go_wp2_with (with_reducible first|refine Qg 36 ?_|refine Qh 36 ?_);refine Uf.go w.heap.size rfl rfl BX2.out (Yc HSZ2.out) (by rw[HSZ.out,HSZ2.out]) HONE.out ?_;have bx3:=BX2.out.row tl.toArray;have br3:=BR2.out.row_far (k:=w.heap.size) (by omega) tl.toArray;have hb3:=Uc HB2.out (Xa _) tl.toArray;have hs3:w.heap.size+2≤(w2.setRow w.heap.size tl.toArray).heap.size:=by simpa [World.setRow] using hs2
 generalize w2.setRow w.heap.size tl.toArray=W3 at *;have HB3:=Qd hb3;have BX3:=Qd bx3;have BR3:=Qd br3;clear HB2 BX2 BR2 hb3 br3 HSZ HCC hs2 hs1;have d34:=(bx3.cell 34).trans (by simpa using e34);clear bx3 e34;cases hdd:(rest T.code T.t).done
 ·rw[hdd] at d34;have hst:=HST.out;rw[if_neg (by simp[hdd])] at hst;obtain⟨hp0,hp1,hk2⟩:=Umt HS.out hdd;obtain⟨pc,hpc⟩:=Int.eq_ofNat_of_zero_le hp0;have hpl:pc<T.code.length:=by omega
  have hsl:T.code.length≤200:=HS.out.2.2;have hxo:=Ur4 HI.out.2 pc hpl;have hxs:=HS.out.1 pc hpl;have hI3:=HI.out.below HB3.out;have hcd:=HRO.out;have d1:=(BX3.out.cell 1).trans (by simpa using e1);have d0:=(BX3.out.cell 0).trans (by simpa using e0);rw[hcv] at hI3 d0;obtain⟨b,off,rfl,hbl,c0,c1,c2,c3,c4⟩:=hI3.at_ rfl hpl;rw[hpc] at d1;have hpt:(rest T.code T.t).pc.toNat=pc:=by rw[hpc];rfl
  rw[hpt] at hst hk2;generalize hx:T.code.getD pc Yo=x at *;have HX:=Qd hx;have HPC:=Qd hpc;have HXO:=Qd hxo;have HXS:=Qd hxs;have HST2:=Qd hst;have hlt:(pc:Int)<(T.code.length:Int):=by omega
  clear hx hpc hp0 hp1 hst hxo hxs hI3 hdd hpt;go_wp2_with fail;refine Uq fun W4 hW4=>?_
  obtain⟨kk,hkk⟩:=Int.eq_ofNat_of_zero_le HXS.out.1;have hk3:kk≤2:=by omega
  have hk3':(kk:Int)<3:=by omega
  have b6:Box W4 W3.heap.size 162 #[.int .i64 x.k,.int .i64 x.i,.int .i64 x.r,.int .i64 x.to,.int .u64 x.a]:=by rw[hW4];exact(Box.new _ _ _).alloc _
  have b7:Box W4 (W3.heap.size+1) 24 #[.int .i64 0,.int .i64 1,.int .i64 3]:=by rw[hW4];exact Box.at_ (by simp) _ _
  have bx4:Box W4 w.heap.size 36 tl.toArray:=by rw[hW4];exact(BX3.out.alloc _).alloc _
  have br4:Box W4 (w.heap.size+1) 36 z:=by rw[hW4];exact(BR3.out.alloc _).alloc _
  have hb4:Below w.heap.size w W4:=by rw[hW4];exact(HB3.out.alloc (by omega) _).alloc (by simp;omega) _
  have hs4:W4.heap.size=W3.heap.size+2:=by rw[hW4];simp
  have f0:=b6.cell 0;have f1:=b6.cell 1;have f4:=b6.cell 4;have f7:W4.cell? ⟨W3.heap.size+1,kk,none⟩=some (.int .i64 (Umc x.k)):=by
   rw[b7.cell kk,hkk];obtain rfl|rfl|rfl:kk=0∨kk=1∨kk=2:=by omega
   all_goals rfl
  simp only[List.getElem?_toArray,List.getElem?_cons_zero,List.getElem?_cons_succ] at f0 f1 f4;have hM4:=HM.out.below hb4;have HKK:=Qd hkk;have hka:=U4x HXO.out;rw[hkk] at f0;have F0:Hid (∀w',Below W4.heap.size W4 w'→w'.cell? ⟨W3.heap.size,0,none⟩=some (.int .i64 (kk:Int))∧w'.cell? ⟨W3.heap.size,1,none⟩=some (.int .i64 x.i)∧w'.cell? ⟨W3.heap.size,4,none⟩=some (.int .u64 x.a)∧w'.cell? ⟨W3.heap.size+1,kk,none⟩=some (.int .i64 (Umc x.k))) :=
   Qd fun w' hb=>⟨(hb.cell (by simp;omega)).trans f0,(hb.cell (by simp;omega)).trans f1,(hb.cell (by simp;omega)).trans f4,(hb.cell (by simp;omega)).trans f7⟩
  have HKA:=Qd hka;have HM4:=Qd hM4;have B6:=Qd b6;have BX4:=Qd bx4;have BR4:=Qd br4;have HB4:=Qd hb4;have c3:=F0.out W4.drew ⟨rfl,rfl,rfl,Xa _,fun _ _=>rfl⟩;clear hW4 hkk b6 b7 bx4 br4 hb4 hM4 hka c0 c1 c2 c4 d0 d1 d34 hk2;have hdo:=fun(W:World) (hw:Yx W vm ms)=>U43 (x:=⟨Umc x.k,x.i,x.a,0⟩) HKA.out hw
  have HDO:=Qd hdo;clear hdo;go_region_held3 (fun w'=>w'.cell? ⟨W3.heap.size,0,none⟩=some (.int .i64 (kk:Int))∧w'.cell? ⟨W3.heap.size,1,none⟩=some (.int .i64 x.i)∧w'.cell? ⟨W3.heap.size,4,none⟩=some (.int .u64 x.a)∧w'.cell? ⟨W3.heap.size+1,kk,none⟩=some (.int .i64 (Umc x.k)))
   (first|exact c3|exact c9) (first|(go_at_call 114;refine(HDO.out W4.drew HM4.out.drew).mono ?_;rintro e w5 ⟨v5,rfl,ho5,hb5'⟩;have hb5:=Uv hb5';have c9:=F0.out w5 hb5))
  have hd64:(∀y∈(U9 (Yu ms) ⟨Umc x.k,x.i,x.a,0⟩).1,W64 y)∧W64 (U9 (Yu ms) ⟨Umc x.k,x.i,x.a,0⟩).2:=Uki (Uu8 HM.out.2) HKA.out;have hpok:(rest T.code T.t).pc<9223372036854775807:=by rw[HPC.out];omega
  have hmok:=U11 (x:=x) HRO.out hd64.2 (by rw[HPC.out];exact Int.natCast_nonneg _) hpok;have hst:=HST2.out;generalize hda:U9 (Yu ms) ⟨Umc x.k,x.i,x.a,0⟩=da at *;obtain⟨m',d⟩:=da;dsimp only at hst hmok ho5 hd64 ⊢;have HDA:=Qd hda;obtain⟨r,hr⟩:=Int.eq_ofNat_of_zero_le HXS.out.2.2.1;have hr32:r<32:=by have:=HXS.out.2.2.2.1;omega
  have hr32':(r:Int)<32:=by omega
  have b65:=B6.out.kept hb5;have bx5:=BX4.out.kept hb5;have br5:=BR4.out.kept hb5;have hB5:=Ua HB4.out hb5 HB4.out.size;have hs5:w.heap.size+2≤w5.heap.size:=by have:=hb5.size;omega
  have g0:=b65.cell 0;have g2:=b65.cell 2;simp only[List.getElem?_toArray,List.getElem?_cons_zero,List.getElem?_cons_succ] at g0 g2;rw[hr] at g2;rw[HKK.out] at g0;have hwr:IntKind.i64.wrap ((pc:Int)+1)=(pc:Int)+1:=by rw[Xf];omega
  have a1:=(bx5.cell 1).trans (by simpa using e1);rw[HPC.out] at a1;have a1f:=bx5.frozen 1;have hI5:=HI.out.below hB5;have HST3:=Qd hst;have HMOK:=Qd hmok;have HO5:=Qd (Ufh ho5 (by show _≤W4.heap.size;omega):Own w5 (w.heap.size+2) v5 m');have HB5:=Qd hB5;have BX5:=Qd bx5;have BR5:=Qd br5;have HI5:=Qd hI5;have HR:=Qd hr;clear hst hmok hda ho5 hb5 hb5' hB5 bx5 br5 b65 hI5 hd64 hpok hr c3 c9;by_cases hk0:kk=0;rotate_right
  focus
   have hk0':¬(kk:Int)=0:=by omega
   have hmv:moved (rest T.code T.t) x d={ rest T.code T.t with pc:=(pc:Int)+1 }:=by
    unfold moved;rw[if_neg (by rw[HKK.out];exact hk0'),HPC.out]
   have bx7:=BX5.out.set_ 1 (.int .i64 ((pc:Int)+1));rw[←HDD.out,Ude,←hmv] at bx7;have BX7:=Qd bx7;clear bx7 hmv;have hB7:Below w.heap.size w (w5.setCell ⟨w.heap.size,1,none⟩ (.int .i64 ((pc:Int)+1))):=HB5.out.setCell (p:=⟨w.heap.size,1,none⟩) (Xa _) _;have hO7:Own (w5.setCell ⟨w.heap.size,1,none⟩ (.int .i64 ((pc:Int)+1))) (w.heap.size+2) v5 m':=Uet HO5.out (p:=⟨w.heap.size,1,none⟩) (by simp) _;have br7:Box (w5.setCell ⟨w.heap.size,1,none⟩ (.int .i64 ((pc:Int)+1))) (w.heap.size+1) 36 z:=BR5.out.far (p:=⟨w.heap.size,1,none⟩) (by simp) _;have hs7:w.heap.size+2≤(w5.setCell ⟨w.heap.size,1,none⟩ (.int .i64 ((pc:Int)+1))).heap.size:=by simpa using hs5
  rotate_right
  focus
   subst hk0;have hmv:moved (rest T.code T.t) x d={ rest T.code T.t with regs:=(rest T.code T.t).regs.set r d,pc:=(pc:Int)+1 }:=by
    unfold moved;rw[if_pos (by rw[HKK.out];rfl),HR.out,HPC.out];rfl
   have bx6:=BX5.out.set_ (2+r) (.int .u64 d);rw[←HDD.out,Ume HRO.out.1 hr32] at bx6;have a6:=(bx6.cell 1).trans Ug6;rw[HPC.out] at a6;have a6f:=bx6.frozen 1;have bx7:=bx6.set_ 1 (.int .i64 ((pc:Int)+1));rw[Ude,←hmv] at bx7;have a2:=BX5.out.cell (2+r);rw[←HDD.out,Ucp HRO.out.1 hr32] at a2;have a2f:=BX5.out.frozen (2+r);have BX7:=Qd bx7;clear bx6 bx7 hmv;have hB7:Below w.heap.size w ((w5.setCell ⟨w.heap.size,2+r,none⟩ (.int .u64 d)).setCell ⟨w.heap.size,1,none⟩ (.int .i64 ((pc:Int)+1))):=(HB5.out.setCell (p:=⟨w.heap.size,2+r,none⟩) (Xa _) _).setCell (p:=⟨w.heap.size,1,none⟩) (Xa _) _;have hO7:Own ((w5.setCell ⟨w.heap.size,2+r,none⟩ (.int .u64 d)).setCell ⟨w.heap.size,1,none⟩ (.int .i64 ((pc:Int)+1))) (w.heap.size+2) v5 m':=Uet (Uet HO5.out (p:=⟨w.heap.size,2+r,none⟩) (by simp) _) (p:=⟨w.heap.size,1,none⟩) (by simp) _;have br7:Box ((w5.setCell ⟨w.heap.size,2+r,none⟩ (.int .u64 d)).setCell ⟨w.heap.size,1,none⟩ (.int .i64 ((pc:Int)+1))) (w.heap.size+1) 36 z:=(BR5.out.far (p:=⟨w.heap.size,2+r,none⟩) (by simp) _).far (p:=⟨w.heap.size,1,none⟩) (by simp) _;have hs7:w.heap.size+2≤((w5.setCell ⟨w.heap.size,2+r,none⟩ (.int .u64 d)).setCell ⟨w.heap.size,1,none⟩ (.int .i64 ((pc:Int)+1))).heap.size:=by simpa using hs5
  all_goals
   have HS7:=Qd hs7;have HB7:=Qd hB7;have HO7:=Qd hO7;have BR7:=Qd br7;have HI7:=Qd (HI.out.below hB7);clear hB7 hO7 br7 hs7;go_wp2_with (with_reducible first|refine Qg 36 ?_|refine Qh 36 ?_)
  rotate_right
  focus
   generalize w5.setCell ⟨w.heap.size,1,none⟩ (.int .i64 ((pc:Int)+1))=W7 at *
  rotate_right
  focus
   generalize (w5.setCell ⟨w.heap.size,2+r,none⟩ (.int .u64 d)).setCell ⟨w.heap.size,1,none⟩ (.int .i64 ((pc:Int)+1))=W7 at *
  all_goals
   have HSZ7:=Qd (Yy (cv:=cv) HMOK.out.1);generalize hC7:Us cv (moved (rest T.code T.t) x d)=C7 at *;have HC7:=Qd hC7;clear hC7;refine Uo.go w.heap.size rfl BX7.out underlying36 rfl (Yc HSZ7.out) ?_;go_wp2_with (with_reducible first|refine Qg 36 ?_|refine Qh 36 ?_);rw[←HC7.out];refine(Ukv HS.out HI7.out HMOK.out hc).mono ?_;rintro e w8 ⟨rfl,hb8⟩;have hok8:(rest T.code (moved (rest T.code T.t) x d)).ok:=Un5 HI.out.2 (by omega) HMOK.out;have br8:=BR7.out.kept hb8;have hF:Uad cv T.code (U8 T ms).1 (U8 T ms).2 w (.returned (.tuple #[.agg (Us cv (rest T.code (moved (rest T.code T.t) x d))),v5])) (w8.setRow (w.heap.size+1) (Us cv (rest T.code (moved (rest T.code T.t) x d)))):=by
    rw[HST3.out];exact Uad.stored (T:=⟨T.code,rest T.code (moved (rest T.code T.t) x d)⟩) (fun _ h=>h) hok8 hc (Ua HB7.out hb8 HB7.out.size) (U2e HO7.out hb8)
   have HF:=Qd hF;have BR8:=Qd br8;have HSZ8:=Qd (Yy (cv:=cv) hok8.1);have HONE8:=Qd (Z7 (cv:=cv) (t:=rest T.code (moved (rest T.code T.t) x d)) hc);clear hb8 hF br8 hok8;generalize Us cv (rest T.code (moved (rest T.code T.t) x d))=D at *;go_wp2_with (with_reducible first|refine Qg 36 ?_|refine Qh 36 ?_);refine Uf.go (w.heap.size+1) rfl rfl BR8.out (Yc HSZ8.out) (by rw[hz,HSZ8.out]) HONE8.out ?_;go_wp2;exact Xk (Ubk results84 _ _ (w.heap.size+1) 36 _ _ rfl (BR8.out.row _) underlying36 rfl (Yc HSZ8.out)) rfl HF.out
 ·rw[hdd] at d34;have hst:=HST.out;rw[if_pos hdd] at hst;have hF:∀v2 w1,Below w.heap.size w w1→Own w1 (w.heap.size+2) v2 (Yu ms)→Uad cv T.code (U8 T ms).1 (U8 T ms).2 w (.returned (.tuple #[.agg tl.toArray,v2])) (w1.setRow (w.heap.size+1) tl.toArray):=fun v2 w1 hb ho=>by
   rw[hst,←HDD.out];exact Uad.stored (T:=⟨T.code,rest T.code T.t⟩) (fun _ h=>h) HRO.out hc hb ho
  have F:=Qd hF;have HM0:=Qd (HM.out.below (w':=W3) HB3.out);clear hF hst hdd;go_wp2_with fail;have hu:=underlying36;refine Xm (S:=fun w'=>w'.rangeAt w.heap.size 0 tl) (by kernel_rfl) BX3.out.range (fun hHeld=>?_);refine wpAnyH_take (i:=0) (v := .agg tl.toArray) rfl (by kernel_rfl) (by kernel_rfl) (by kernel_rfl) (fun _ _ _ h=>h)
   (Xn (by rfl) 36 _ rfl w.heap.size 0 rfl tl _ (fun _ h=>h) hu rfl (by rw[HL1.out];exact Uer)) hHeld ?_
  clear hu;simp only[Act.put,List.setIfInBounds_toArray,List.set_cons_zero,List.set_cons_succ];refine wpAnyH_take (i:=1) (v:=vm) rfl (by kernel_rfl) (by kernel_rfl) (by kernel_rfl) (fun _ _ _ h=>h) (Or.inl ⟨by rfl,fun w hw=>?_⟩) hHeld ?_
  ·go_simp
  simp only[Act.put,List.setIfInBounds_toArray,List.set_cons_zero,List.set_cons_succ];refine Qc 2 fun K hK=>?_
  go_simp;refine(Uf7 (w:=W3.drew) HM0.out.drew).mono ?_;rintro e w1 ⟨v2,rfl,ho,hb1'⟩;have hb1:=Uv hb1';clear hb1';have BR1:=Qd (BR3.out.kept hb1);have HF:=Qd (F.out v2 w1 (Ua HB3.out hb1 HB3.out.size) (Ufh ho (by show _≤W3.heap.size;omega)));have bx1:Box w1 w.heap.size 36 tl.toArray:=BX3.out.kept hb1;refine hK.out _ _ bx1.range (fun hHeld2=>?_);clear hK K ho hb1;refine Qc 3 fun K hK=>?_
  rw[if_pos (by rfl)];refine wp_store_row 36 _ _ rfl (w.heap.size+1) tl.toArray rfl rfl 36 _ BR1.out (Yc (by rw[HSZ2.out])) (by rw[hz,HSZ2.out]) HONE.out ?_;refine hK.out _ _ (by exact(Box.row_far (bx1) (by omega) _).range) (fun _=>?_);clear hK K;refine Qc 4 fun K hK=>?_
  go_simp;refine hK.out _ _ (by exact(Box.row_far (bx1) (by omega) _).range) (fun _=>?_);clear hK K;refine Xl (by kernel_rfl) ?_ _;go_wp2;exact Xk (Ubk results84 _ _ (w.heap.size+1) 36 _ _ rfl (BR1.out.row _) underlying36 rfl (Yc HSZ2.out)) rfl HF.out
theorem Uvg {a b:Value}{t:Tsk}(h:Us a t=Us b t):a=b:=by
 have h0:=Ufj (cv:=a) (t:=t);rw[h,Ufj] at h0;injection h0 with h0
 exact h0.symm
def Uig (v:Value)(T T':FT)(ms:List Int)(w:World)(e:Ending)(w':World):Prop:=∃v1 v2,e = .returned (.tuple #[v1,v2])∧(∀W,Yz W v T→Yz W v1 T')∧Own w' w.heap.size v2 ms∧Below w.heap.size w w'
theorem Uad.ans {cv:Value}{T T':FT}{ms:List Int}{w:World}{e:Ending}{w':World}(h:Uad cv T.code T' ms w e w'):Uig (.agg (Us cv T.t)) T T' ms w e w':=by
 obtain⟨v1,v2,he,h1,h2,h3⟩:=h;refine⟨v1,v2,he,fun W hW=>?_,h2,h3⟩;obtain⟨cv',e',hi,_,_⟩:=hW;injection e' with e'
 exact h1 W (by rw[Uvg e'];exact hi)
theorem Uha {v vm:Value}{T:FT}{ms:List Int}{w:World}(h:Yz w v T)(hm:Yx w vm ms) :
  Calls prog 84 #[v,vm] w (Uig v T (U8 T ms).1 (U8 T ms).2 w):=by
 obtain⟨cv,rfl,hI,ht,hc⟩:=h;by_cases hd:T.t.done=true
 ·have e:U8 T ms=(T,Yu ms):=by unfold U8;rw[if_pos hd]
  rw[e];exact(Uyb ht hc hm hd).mono fun _ _ h=>h.ans
 ·have hd':T.t.done=false:=by simpa using hd
  by_cases hs:Ugx T.code
  ·exact(Uyc hI ht hc hm hd' hs).mono fun _ _ h=>h.ans
  ·have e:U8 T ms=(Ui T.code,Yu ms):=by unfold U8;rw[if_neg hd,if_pos hs]
   rw[e];exact(Ur6 hI ht hc hm hd' hs).mono fun _ _ h=>h.ans
end Go.Proofs.YtdaflmjfeoacaaaGreat
namespace Go.Proofs.YtdaflmjfeoacaaaGreat
open Tryz
open Go.RowKit
end Go.Proofs.YtdaflmjfeoacaaaGreat
namespace Go.Proofs.YtdaflmjfeoacaaaGreat
open Tryz
open Go.RowKit
def Ubl (P:Program)(ops:Array Oper)(Q:Exit→Act→World→Prop)(rest:List Oper)(o:Oper)(ty:TypeId)(x:Operand)(a:Act)(w:World):Prop :=
 Region.wanted o (yielded ops a.tmps)=true∧∃(g off:Nat) (cs:List Value) (d:TypeDesc),a.eval x = .pointer (some ⟨g,off,none⟩)∧w.rangeAt g off cs∧P.underlying ty=some d∧d.isRow=true ∧
  (P.info? ty).map (·.size)=some cs.length∧wpList P ops Q rest (a.put o.dst (.agg cs.toArray)) w
theorem U2f {P:Program}{ops:Array Oper}{Q:Exit→Act→World→Prop}{rest:List Oper}{o:Oper}{a:Act}{w:World}(ty:TypeId)(x:Operand)(ho:o.op = .load ty x)(h:Ubl P ops Q rest o ty x a w):wpList P ops Q (o::rest) a w:=by
 obtain⟨hw,g,off,cs,d,hx,hB,hu,hd,hi,h⟩:=h;refine wpList_step fun K hK=>?_
 rw[if_pos hw];exact wp_load_mid ty x ho g off hx cs d hB hu hd hi (hK _ _ h)
theorem Qi {P:Program}{ops:Array Oper}{Q:Exit→Act→World→Prop}{rest:List Oper}{o:Oper}{a:Act}{w:World}(ty:TypeId){x:Operand}(h:Ubl P ops Q rest o ty x a w)(ho:o.op = .load ty x:=by exact rfl):wpList P ops Q (o::rest) a w:=U2f ty x ho h
theorem Ubl.go {P:Program}{ops:Array Oper}{Q:Exit→Act→World→Prop}{rest:List Oper}{o:Oper}{ty:TypeId}{x:Operand}{a:Act}{w:World}(hw:Region.wanted o (yielded ops a.tmps)=true)(g off:Nat){cs:List Value}{d:TypeDesc}
  (hx:a.eval x = .pointer (some ⟨g,off,none⟩)) (hB:w.rangeAt g off cs) (hu:P.underlying ty=some d) (hd:d.isRow=true) (hi:(P.info? ty).map (·.size)=some cs.length) (h:wpList P ops Q rest (a.put o.dst (.agg cs.toArray)) w):Ubl P ops Q rest o ty x a w :=
 ⟨hw,g,off,cs,d,hx,hB,hu,hd,hi,h⟩
end Go.Proofs.YtdaflmjfeoacaaaGreat
namespace Go.Proofs.YtdaflmjfeoacaaaGreat
open Tryz
open Go.RowKit
theorem Uih {w:World}{g:Nat}(hg:g=w.heap.size)(l:List Uw)(h:∀x∈l,x.ok)(hl:l.length≤65536)(e:TypeId) :
  Ucj (w.alloc (.cells (l.flatMap Uw.cells).toArray e)) (.slice (some ⟨g,0,none⟩) l.length l.length) l:=by
 subst hg;have hlen:(l.flatMap Uw.cells).length=l.length*5:=by
  clear h hl
  induction l with
  | nil=>rfl
  | cons x l ih=>rw[List.flatMap_cons,List.length_append,ih];simp[Uw.cells];omega
 exact⟨by have:=Sl.of_own (Yt w e 5 (l.flatMap Uw.cells).toArray l.length (by simpa using hlen) (by simp only[maxLen];omega));simpa using this,h⟩
end Go.Proofs.YtdaflmjfeoacaaaGreat
namespace Go.Proofs.YtdaflmjfeoacaaaGreat
open Tryz
open Go.RowKit
theorem Udg {P:Program}{ops:Array Oper}{Q:Exit→Act→World→Prop}{rest:List Oper}{a:Act}{W:World}(h:∀W0,W0=W→wpList P ops Q rest a W0):wpList P ops Q rest a W:=h W rfl
theorem Yz.parts {w:World}{v:Value}{T:FT}(h:Yz w v T):∃cs:Array Value,v = .agg cs∧cs.size=36∧cs.all (·.oneCell')=true∧cs[34]? = some (.bool T.t.done)∧cs[35]? = some (.int .i64 T.t.ans):=by
 obtain⟨cv,rfl,_,ht,hc⟩:=h;exact⟨_,rfl,Yy ht.1,Z7 hc,Ua2 ht.1,Ug7 ht.1⟩
end Go.Proofs.YtdaflmjfeoacaaaGreat
namespace Go.Proofs.YtdaflmjfeoacaaaGreat
open Tryz
open Go.RowKit
theorem Box.rangeA {W:World}{g:Nat}{t:TypeId}{cs:Array Value}(h:Box W g t cs):W.rangeAt g 0 cs.toList:=fun j v hv=>by
 rw[h.cell,Nat.zero_add];simpa using hv
end Go.Proofs.YtdaflmjfeoacaaaGreat
namespace Go.Proofs.YtdaflmjfeoacaaaGreat
open Tryz
open Go.RowKit
theorem Yx.nil (w:World):Yx w (.slice none 0 0) []:=⟨Sl.nil w 1,fun x hx=>by simp at hx⟩
end Go.Proofs.YtdaflmjfeoacaaaGreat
namespace Go.Proofs.YtdaflmjfeoacaaaGreat
open Tryz
open Go.RowKit
theorem Uod:(prog.info? 162).map (fun i=>(i.zero,i.size,i.bytes))=some (some (.agg #[.int .i64 0,.int .i64 0,.int .i64 0,.int .i64 0,.int .u64 0]),5,40):=by kernel_rfl
theorem Upw (l:List Uw):(l.flatMap Uw.cells).length=l.length*5:=by
 induction l with
 | nil=>rfl
 | cons x l ih=>rw[List.flatMap_cons,List.length_append,ih];simp[Uw.cells];omega
def Uc6 (w:World)(base:Nat)(v:Value)(l:List Uw):Prop:=w.ownsRow base 162 5 v l.length (l.flatMap Uw.cells)∧∀x∈l,x.ok
theorem Uc6.inss {w:World}{base:Nat}{v:Value}{l:List Uw}(h:Uc6 w base v l):Ucj w v l:=⟨Sl.of_own h.1,h.2⟩
theorem Uc6.nil (w:World)(base:Nat):Uc6 w base (.slice none 0 0) []:=⟨by simpa using World.ownsRow_nil _ _ _ _,by simp⟩
theorem Uc6.form {w:World}{base:Nat}{v:Value}{l:List Uw}(h:Uc6 w base v l):∃A c,v = .slice A l.length c:=by
 obtain⟨A,c,e,_⟩:=h.inss.1.form;exact⟨A,c,e⟩
def Zf (w:World)(l:List Uw)(v:Value)(wr:World):Prop:=Uc6 wr w.heap.size v l∧Below w.heap.size w wr
theorem U2g {w wr w3:World}{v v':Value}{l xs:List Uw}{o:Obj}(h:Zf w l v wr)(hx:∀x∈xs,x.ok)
  (ho:w3.ownsRow w.heap.size 162 5 v' (l.length+xs.length) (l.flatMap Uw.cells++xs.flatMap Uw.cells)) (hg:(wr.alloc o).grownBy w3 v.ownBlock):Zf w (l++xs) v' w3:=by
 obtain⟨h1,h2⟩:=h;refine⟨⟨?_,fun x hx'=>?_⟩,(h2.alloc h2.size _).grown hg (by have:=h2.size;simp;omega) (fun j hj=>(h1.1.lt j hj).1)⟩
 ·rw[List.length_append,List.flatMap_append];exact ho
 ·rcases List.mem_append.1 hx' with h|h
  ·exact h1.2 x h
  ·exact hx x h
end Go.Proofs.YtdaflmjfeoacaaaGreat
namespace Go.Proofs.YtdaflmjfeoacaaaGreat
open Tryz
open Go.RowKit
theorem Ubc {w wr:World}{L:List Uw}{v:Value}(HR:Zf w L v wr)(xs:List Uw)(hx:∀x∈xs,x.ok)(n:Nat)(hn:L.length+xs.length=n)(hlen:n≤4096)
  {ops:Array Oper} {rest:List Oper} {o:Oper} {a:Act} {Q:Exit→Act→World→Prop} (hgd:o.guard=none) (s y:Operand)
  (ho:o.op = .call { callee := .builtin .append,args:=#[s,y],argTypes:=#[32,32] }) (hs:a.eval s=v) (hy:a.eval y = .slice (some ⟨wr.heap.size,0,none⟩) xs.length xs.length)
  (h:∀A c w',Zf w (L++xs) (.slice A n c) w'→wpList prog ops Q rest (a.put o.dst (.slice A n c)) w') :
  wpList prog ops Q (o::rest) a (wr.alloc (.cells (xs.flatMap Uw.cells).toArray 162)):=by
 obtain⟨i0,hi,hz0,hz1,hz2⟩:=info_parts Uod;have hxl:(xs.flatMap Uw.cells).length=xs.length*5:=Upw xs;refine Ug (w:=wr.alloc (.cells (xs.flatMap Uw.cells).toArray 162)) hgd s y 32 ho w.heap.size 162 i0 _ 5 40 underlying32 hi hz0 hz1 hz2 rfl (by decide) v L.length _ hs (HR.1.1.alloc _) _ xs.length (xs.flatMap Uw.cells) hy ?_ ?_ ?_ ?_ ?_ ?_
 ·have:=Sl.of_own (Yt wr 162 5 (xs.flatMap Uw.cells).toArray xs.length (by simpa using hxl) (by simp only[maxLen];omega));simpa using this
 ·intro u hu;obtain⟨x,_,hu⟩:=List.mem_flatMap.1 hu;simp[Uw.cells] at hu;rcases hu with rfl|rfl|rfl|rfl|rfl<;>rfl
 ·simp only[maxLen];omega
 ·omega
 ·have:=HR.2.size;simp;omega
 ·intro v' w' ho' hg' _;have hR:=U2g HR hx ho' hg';obtain⟨A,c,hv⟩:=hR.1.form;rw[List.length_append,hn] at hv;subst hv;exact h A c w' hR
end Go.Proofs.YtdaflmjfeoacaaaGreat
namespace Go.Proofs.YtdaflmjfeoacaaaGreat
open Tryz
open Go.RowKit
theorem Below.setCells {B:Nat}{a w:World}(h:Below B a w)(hB:B≤w.heap.size){g:Nat}(hg:B≤g)(o:Nat)(vs:List Value):Below B a (w.setCells g o vs) :=
 h.grown (Yf g vs o w) hB (fun k e=>by cases e;omega)
theorem Uoe {w:World}{g:Nat}{t:TypeId}:∀(vs:List Value) (o:Nat) (cur:Array Value),Box w g t cur→o+vs.length≤cur.size →
  ∃cur',Box (w.setCells g o vs) g t cur'∧cur'.size=cur.size∧∀j,cur'[j]? = if o≤j∧j<o+vs.length then vs[j-o]? else cur[j]? := by
 intro vs
 induction vs generalizing w with
 | nil=>intro o cur h _;exact⟨cur,h,rfl,fun j=>by rw[if_neg (by simp)]⟩
 | cons v vs ih =>
  intro o cur h hl;obtain⟨cur',h1,h2,h3⟩:=ih (o+1) (cur.setIfInBounds o v) (h.set_ o v) (by simp at hl ⊢;omega);refine⟨cur',h1,by rw[h2];simp,fun j=>?_⟩;rw[h3 j];by_cases hj:j=o
  ·subst hj;rw[if_neg (by omega),if_pos (by simp)];simp at hl;simp[Array.getElem?_setIfInBounds];omega
  ·by_cases hin:o+1≤j∧j<o+1+vs.length
   ·rw[if_pos hin,if_pos (by simp;omega)];rw[show j-o=(j-(o+1))+1 by omega];rfl
   ·rw[if_neg hin,if_neg (by simp;omega)];rw[Array.getElem?_setIfInBounds,if_neg (fun e=>hj e.symm)]
theorem Uf.mid {P:Program}{w:World}{ops:Array Oper}{rest:List Oper}{o:Oper}{a:Act}{Q:Exit→Act→World→Prop}(hgd:o.guard=none)(ty:TypeId)(x y:Operand)(ho:o.op = .store ty x y)
  (g off:Nat) {cs:List Value} (hx:a.eval x = .pointer (some ⟨g,off,none⟩)) (hy:a.eval y = .agg cs.toArray) (ht:w.there g off cs.length) (hi:(P.info? ty).map (·.size)=some cs.length) (h1:cs.toArray.all (·.oneCell')=true)
  (h:wpList P ops Q rest (a.put o.dst undef) (w.setCells g off cs)):wpList P ops Q (o::rest) a w :=
 wpList_store_mid hgd ty x y ho g off cs.toArray hx hy (by simpa using ht) (by simpa using hi) h1 (by simpa using h)
def Uai (P:Program)(ops:Array Oper)(Q:Exit→Act→World→Prop)(rest:List Oper)(o:Oper)(ty:TypeId)(x y:Operand)(a:Act)(w:World):Prop :=
 ∃(g off:Nat) (cs:List Value),a.eval x = .pointer (some ⟨g,off,none⟩)∧a.eval y = .agg cs.toArray∧w.there g off cs.length∧(P.info? ty).map (·.size)=some cs.length∧cs.toArray.all (·.oneCell')=true ∧
  wpList P ops Q rest (a.put o.dst undef) (w.setCells g off cs)
theorem Ur7 {P:Program}{w:World}{ops:Array Oper}{rest:List Oper}{o:Oper}{a:Act}{Q:Exit→Act→World→Prop}(hgd:o.guard=none)(ty:TypeId)(x y:Operand)(ho:o.op = .store ty x y)
  (h:Uai P ops Q rest o ty x y a w):wpList P ops Q (o::rest) a w:=by
 obtain⟨g,off,cs,hx,hy,ht,hi,h1,h⟩:=h;exact Uf.mid hgd ty x y ho g off hx hy ht hi h1 h
theorem Qj {P:Program}{ops:Array Oper}{Q:Exit→Act→World→Prop}{rest:List Oper}{o:Oper}{a:Act}{w:World}(ty:TypeId){x y:Operand}(h:Uai P ops Q rest o ty x y a w)(hgd:o.guard=none:=by exact rfl)(ho:o.op = .store ty x y:=by exact rfl):wpList P ops Q (o::rest) a w:=Ur7 hgd ty x y ho h
theorem Uai.go {P:Program}{w:World}{ops:Array Oper}{rest:List Oper}{o:Oper}{a:Act}{Q:Exit→Act→World→Prop}{ty:TypeId}{x y:Operand}(g off:Nat){cs:List Value}(hx:a.eval x = .pointer (some ⟨g,off,none⟩))(hy:a.eval y = .agg cs.toArray)
  (ht:w.there g off cs.length) (hi:(P.info? ty).map (·.size)=some cs.length) (h1:cs.toArray.all (·.oneCell')=true) (h:wpList P ops Q rest (a.put o.dst undef) (w.setCells g off cs)):Uai P ops Q rest o ty x y a w :=
 ⟨g,off,cs,hx,hy,ht,hi,h1,h⟩
end Go.Proofs.YtdaflmjfeoacaaaGreat
namespace Go.Proofs.YtdaflmjfeoacaaaGreat
open Tryz
open Go.RowKit
theorem Ut2 {x:Uw}(hx:x.ok):∀z∈[x],z.ok:=fun z hz=>by
 simp at hz;rw[hz];exact hx
theorem Ui8 {x y:Uw}(hx:x.ok)(hy:y.ok):∀z∈[x,y],z.ok:=fun z hz=>by
 simp at hz;rcases hz with h|h
 ·rw[h];exact hx
 ·rw[h];exact hy
def Ub4 (l:List Uw)(w:World)(e:Ending)(w':World):Prop:=∃v,e = .returned v∧Uc6 w' w.heap.size v l∧Below w.heap.size w w'
theorem Uc6.base {w:World}{B B':Nat}{v:Value}{l:List Uw}(h:Uc6 w B v l)(hb:B'≤B):Uc6 w B' v l:=by
 obtain⟨⟨h1,h2⟩,h3⟩:=h;refine⟨⟨h1,?_⟩,h3⟩;rcases h2 with h2|⟨g',cap,cur,e,hg',r⟩
 ·exact .inl h2
 ·exact .inr ⟨g',cap,cur,e,by omega,r⟩
theorem Ut3 {l:List Int}(h32:l.length=32){N:Nat}(hN:N≤28):((l.drop 1).take N).length=N∧∀j,j<N→((l.drop 1).take N).getD j 0=l.getD (1+j) 0:=by
 refine⟨by rw[List.length_take,List.length_drop,h32];omega,fun j hj=>?_⟩;simp[List.getD_eq_getElem?_getD,hj,Nat.add_comm]
end Go.Proofs.YtdaflmjfeoacaaaGreat
namespace Go.Proofs.YtdaflmjfeoacaaaGreat
open Tryz
open Go.RowKit
theorem Uyd:prog.underlying 3=some (.int .i64):=by kernel_rfl
theorem Ujq {P:Program}{w w':World}{v:Value}{ops:Array Oper}{rest:List Oper}{o:Oper}{a:Act}{Q:Exit→Act→World→Prop}(hgd:o.guard=none)(s y:Operand)(t tn:TypeId)
  (ho:o.op = .call { callee := .builtin .append,args:=#[s,y],argTypes:=#[t,tn] }) (vs vy:Value) (hs:a.eval s=vs) (hy:a.eval y=vy)
  (hrun:(Builtin.append_ #[t,tn] o.type #[vs,vy]).run P w = .ok v w') (h:wpList P ops Q rest (a.put o.dst v) w'):wpList P ops Q (o::rest) a w :=
 wpList_plain hgd fun _ hK=>by
  unfold Oper.wp execOp;simp only[ho,resolve,invoke,builtin,Sem.run_bind,Sem.run_pure,Result.andThen_ok,List.map_toArray,List.map_cons,List.map_nil,hs,hy,hrun];exact hK _ _ h
set_option maxRecDepth 20000 in
theorem Uye (n:Nat)(h0:0<n)(hn:n≤4096)(w:World) :
  Calls prog 145 #[.slice none 0 0,.int .i64 (n:Int)] w (fun e w'=>∃v,e = .returned v∧Uc6 w' w.heap.size v []∧Below w.heap.size w w'):=by
 obtain⟨i0,hi,hz0,hz1,hz2⟩:=info_parts Uod;have hrun:=fun ty=>Lib.run_append_grow_zeros (P:=prog) w 32 3 ty 162 i0 _ .i64 .i64 underlying32 Uyd hi hz0 none 0 0 [] (run_firstCells_none w.drew i0.size 0 0 0) n h0 (by omega) (by omega) (by omega) (by rw[hz2];omega) (by rw[hz2,Nat.zero_add];exact growslice_fits (by omega) (by omega))
 have hcap:=grownCap_ge w (0+n) 0 162;have hcap2:=grownCap_le_maxLen w (0+n) 0 162 (by simp only[maxLen];omega);rw[Nat.zero_add] at hcap hcap2 hrun;generalize grownCap w n 0 162=cap at *;have hz5:(Value.agg #[Value.int .i64 0,.int .i64 0,.int .i64 0,.int .i64 0,.int .u64 0]).cells.size=5:=by kernel_rfl
 obtain⟨Z,hZ⟩:∃Z,Z=(([]:List Value).toArray++Builtin.zeroCells (Value.agg #[Value.int .i64 0,.int .i64 0,.int .i64 0,.int .i64 0,.int .u64 0]).cells n++Builtin.zeroCells (Value.agg #[Value.int .i64 0,.int .i64 0,.int .i64 0,.int .i64 0,.int .u64 0]).cells (cap-n)):=⟨_,rfl⟩;have hsz:Z.size=cap*5:=by
  rw[hZ,Array.size_append,Array.size_append,size_zeroCells,size_zeroCells,hz5];simp;omega
 rw[←hZ] at hrun;have F:Hid (∀v,v = .slice (some ⟨w.heap.size,0,none⟩) 0 cap→∃v',Ending.returned v = .returned v'∧Uc6 (w.drew.alloc (.cells Z 162)) w.heap.size v' []∧Below w.heap.size w (w.drew.alloc (.cells Z 162))):=Qd fun v hv=>by
  subst hv;refine⟨_,rfl,⟨?_,by simp⟩,?_⟩
  ·have:=World.ownsRow_made (e:=162) (base:=w.heap.size) w.drew Z cap (Xa _) hcap2 hsz;simpa using this
  ·have hd:Below w.heap.size w w.drew:=⟨rfl,rfl,rfl,Xa _,fun _ _=>rfl⟩;exact hd.alloc (Xa _) _
 have h1:¬(n:Int)<0:=by omega
 have h2:(0:Int)<(n:Int):=by omega
 have hw:IntKind.i64.wrap (n:Int)=(n:Int):=by rw[Xf];omega
 have hw2:wrap64 (n:Int)=(n:Int):=by unfold wrap64;omega
 clear hZ hsz hz5 hcap2;go_enter func145,ntmps145;have HRUN:=Qd hrun;clear hrun hi hz0 hz1 hz2;go_wp2_with (at_builtin;refine Ujq rfl _ _ 32 3 rfl (.slice none 0 0) (.int .i64 (n:Int)) rfl rfl (HRUN.out _) ?_);go_wp2;go_ret;exact F.out _ rfl
def Umf (w:World)(v:Value)(l:List (Value×List Uw)):Prop:=Sl w v 1 l.length (l.flatMap fun a=>[a.1])∧∀a∈l,Ucj w a.1 a.2
theorem Umf.below {w w':World}{v:Value}{l:List (Value×List Uw)}(h:Umf w v l)(hb:Below w.heap.size w w'):Umf w' v l:=⟨h.1.below hb,fun a ha=>(h.2 a ha).below hb⟩
theorem Umf.at_ {w:World}{A:Option Addr}{n c:Nat}{l:List (Value×List Uw)}{k:Nat}(h:Umf w (.slice A n c) l)(hn:n=l.length)(hk:k<l.length) :
  ∃b off,A=some ⟨b,off,none⟩∧b<w.heap.size∧w.cell? ⟨b,off+k,none⟩=some l[k].1∧Ucj w l[k].1 l[k].2:=by
 subst hn;obtain⟨b,off,rfl,hb,hc⟩:=h.1.at_ (by omega) (by omega);have hg:=Ufi (fun a:Value×List Uw=>[a.1]) 1 l (fun _ _=>rfl) k 0 hk (by omega);refine⟨b,off,rfl,hb,?_,h.2 _ (List.getElem_mem hk)⟩;have:=hc (k*1+0) _ (by rw[hg];rfl);simpa using this
def Uhb (l:List (Value×List Uw))(k:Nat):List Uw:=(l.take k).flatMap (·.2)
theorem Umw (l:List (Value×List Uw)){k:Nat}(h:k<l.length):Uhb l (k+1)=Uhb l k++l[k].2:=by
 unfold Uhb;rw[Ukk l k h,List.flatMap_append];simp
theorem Uof (l:List (Value×List Uw))(k:Nat):(Uhb l k).length≤(l.flatMap (·.2)).length:=by
 unfold Uhb
 conv=>rhs;rw[←List.take_append_drop k l]
 rw[List.flatMap_append,List.length_append];omega
theorem Upx (l:List (Value×List Uw)):Uhb l l.length=l.flatMap (·.2):=by unfold Uhb;rw[List.take_length]
theorem U2h {w wr w3:World}{v v':Value}{l xs:List Uw}(h:Zf w l v wr)(hx:∀x∈xs,x.ok)
  (ho:w3.ownsRow w.heap.size 162 5 v' (l.length+xs.length) (l.flatMap Uw.cells++xs.flatMap Uw.cells)) (hg:wr.grownBy w3 v.ownBlock):Zf w (l++xs) v' w3:=by
 obtain⟨h1,h2⟩:=h;refine⟨⟨?_,fun x hx'=>?_⟩,h2.grown hg h2.size (fun j hj=>(h1.1.lt j hj).1)⟩
 ·rw[List.length_append,List.flatMap_append];exact ho
 ·rcases List.mem_append.1 hx' with h|h
  ·exact h1.2 x h
  ·exact hx x h
set_option maxRecDepth 20000 in
theorem Ur8 {v:Value}{l:List (Value×List Uw)}{w:World}(h:Umf w v l)(h0:0<(l.flatMap (·.2)).length)(hn:(l.flatMap (·.2)).length≤4096) :
  Calls prog 115 #[v] w (fun e w'=>∃v',e = .returned v'∧Uc6 w' w.heap.size v' (l.flatMap (·.2))∧Below w.heap.size w w'):=by
 obtain⟨i0,hi,hz0,hz1,hz2⟩:=info_parts Uod;obtain⟨A,c,rfl,hc1,hc2,_⟩:=h.1.form;unfold maxLen at hc2;have H:=Qd h;have HI0:=Qd hi;have HZ0:=Qd hz0;have HZ1:=Qd hz1;have HZ2:=Qd hz2;clear h hi hz0 hz1 hz2;obtain⟨T,hT⟩:∃T,T=(l.flatMap (·.2)).length:=⟨_,rfl⟩;rw[←hT] at h0 hn;have HT:=Qd hT;clear hT;go_enter func115,ntmps115;go_wp2_with fail;go_loopw [3,11] (fun sv qv wr=>∃k t:Nat,k≤l.length∧qv = .int .i64 (k:Int)∧sv = .int .i64 (t:Int)∧Hid (t=(Uhb l k).length)∧wr=w) (fun _ qv _=>l.length-(intOf qv).toNat)
 case atStart=>exact⟨0,0,Nat.zero_le _,rfl,rfl,Qd (by simp[Uhb]),rfl⟩
 case round =>
  obtain⟨k,t,hk,rfl,rfl,HK,rfl⟩:=hrel;have htT:t≤T:=by rw[HK.out,HT.out];exact Uof l k
  by_cases hlt:k<l.length
  ·have hki:(k:Int)<(l.length:Int):=by omega
   obtain⟨b,o,rfl,_,p0,hi1⟩:=H.out.at_ rfl hlt;obtain⟨A1,n1,hf1,hf2,hf3,_⟩:=hi1.1.form;unfold maxLen at hf3;rw[hf1] at p0;have hs:=Umw l hlt;have hle:=Uof l (k+1);have hlen:(Uhb l (k+1)).length=t+(l[k]).2.length:=by rw[hs,List.length_append,←HK.out]
   rw[hlen,←HT.out] at hle;have HN:=Qd hlen;generalize (l[k]).2.length=m at *;have hw:IntKind.i64.wrap ((t:Int)+(m:Int))=((t+m:Nat):Int):=by rw[Xf];omega
   have hneg:¬((t+m:Nat):Int)<0:=by omega
   obtain⟨tm,htm⟩:∃tm,tm=t+m:=⟨_,rfl⟩;rw[←htm] at hw hneg HN;clear hi1 hs hlen htm;go_wp2;go_roundw
   case rel=>exact⟨k+1,tm,by omega,by go_num,rfl,Qd HN.out.symm,trivial⟩
   case measure=>simp[intOf];omega
  ·have hki:¬(k:Int)<(l.length:Int):=by omega
   have hke:k=l.length:=by omega
   have htt:t=T:=by rw[HK.out,HT.out,hke,Upx]
   subst htt;obtain⟨wz,hwz⟩:∃wz,wz=wr:=⟨_,rfl⟩;subst hwz;go_wp2_with fail;refine(Uye t h0 hn wz).mono ?_;rintro e w1 ⟨v1,rfl,ho1,hb1⟩;have HR:Hid (Zf wz (Uhb l 0) v1 w1):=Qd ⟨by simpa [Uhb] using ho1,hb1⟩;clear ho1 hb1;go_wp2_with fail;go_loopw [6,27] (fun v6 qv w2=>∃j:Nat,j≤l.length∧qv = .int .i64 (j:Int)∧Hid (Zf wz (Uhb l j) v6 w2)) (fun _ qv _=>l.length-(intOf qv).toNat)
   case atStart=>exact⟨0,Nat.zero_le _,rfl,HR⟩
   case round =>
    clear HR;obtain⟨j,hj,rfl,HR⟩:=hrel;by_cases hlt2:j<l.length
    ·have hji:(j:Int)<(l.length:Int):=by omega
     obtain⟨b,o,rfl,_,p0,hi1⟩:=(H.out.below HR.out.2).at_ rfl hlt2;have hs:=Umw l hlt2;have hle:=Uof l (j+1);rw[hs,List.length_append,←HT.out] at hle;have HS:=Qd hs;have HI1:=Qd hi1;obtain⟨vj,hvj⟩:∃vj,(l[j]).1=vj:=⟨_,rfl⟩;rw[hvj] at p0;have HIv:Hid (Ucj _ vj (l[j]).2):=Qd (by rw[←hvj];exact HI1.out);clear hs hi1 hvj HI1;have hs2:=HR.out.2.size;go_wp2_with (at_builtin;refine Ug _ rfl _ _ 32 rfl wz.heap.size 162 i0 _ 5 40 underlying32 HI0.out HZ0.out HZ1.out HZ2.out rfl (by decide) _ _ _ rfl HR.out.1.1 vj (l[j]).2.length ((l[j]).2.flatMap Uw.cells) rfl HIv.out.1 ?qc2 ?qc3 ?qc4 ?qc5 ?_)
     case qc2 =>
      intro u hu;obtain⟨x,_,hu⟩:=List.mem_flatMap.1 hu;simp[Uw.cells] at hu;rcases hu with rfl|rfl|rfl|rfl|rfl<;>rfl
     case qc3=>simp only[maxLen];omega
     case qc4=>omega
     case qc5=>exact hs2
     intro v' w3 hown3 hgrow3 hat3;have R3:Hid (Zf wz (Uhb l (j+1)) v' w3):=Qd (by rw[HS.out];exact U2h HR.out HIv.out.2 hown3 hgrow3);clear hown3 hgrow3 hat3;go_wp2;go_roundw
     case rel=>exact⟨j+1,by omega,by go_num,R3⟩
     case measure=>simp[intOf];omega
    ·have hji:¬(j:Int)<(l.length:Int):=by omega
     have hje:j=l.length:=by omega
     have hR:=HR.out;rw[hje,Upx] at hR;have HRR:=Qd hR;clear hR;go_wp2;go_ret;exact⟨_,rfl,HRR.out.1,HRR.out.2⟩
end Go.Proofs.YtdaflmjfeoacaaaGreat
namespace Go.Proofs.YtdaflmjfeoacaaaGreat
open Tryz
open Go.RowKit
def Uog (b n:Int):Prop:=0≤b∧b≤255∧1≤n∧n≤28
instance (b n:Int):Decidable (Uog b n):=by unfold Uog;exact inferInstance
theorem Uyf (b n:Int):b<0∨(0≤b∧255<b)∨(0≤b∧b≤255∧n<1)∨(0≤b∧b≤255∧1≤n∧28<n)∨(0≤b∧b≤255∧1≤n∧n≤28):=by omega
theorem Ut4 (b n:Int)(w:World):Calls prog 92 #[.int .i64 b,.int .i64 n] w (Zj (decide (Uog b n)) w):=by
 rcases Uyf b n with h0|⟨h0,h1⟩|⟨h0,h1,h2⟩|⟨h0,h1,h2,h3⟩|⟨h0,h1,h2,h3⟩
 rotate_right
 focus
  have F:Hid (Zj (decide (Uog b n)) w (.returned (.bool true)) w):=Qd ⟨by rw[Xi (p:=Uog b n) ⟨h0,h1,h2,h3⟩],Xb _ _⟩;have h2':0<n:=by omega
 rotate_right
 focus
  have F:Hid (Zj (decide (Uog b n)) w (.returned (.bool false)) w):=Qd ⟨by rw[Xh (fun h=>by unfold Uog at h;omega)],Xb _ _⟩;have h2':0<n:=by omega
  have h3':¬n≤28:=by omega
 rotate_right
 focus
  have F:Hid (Zj (decide (Uog b n)) w (.returned (.bool false)) w):=Qd ⟨by rw[Xh (fun h=>by unfold Uog at h;omega)],Xb _ _⟩;have h2':¬0<n:=by omega
 rotate_right
 focus
  have F:Hid (Zj (decide (Uog b n)) w (.returned (.bool false)) w):=Qd ⟨by rw[Xh (fun h=>by unfold Uog at h;omega)],Xb _ _⟩;have h1':¬b≤255:=by omega
 rotate_right
 focus
  have F:Hid (Zj (decide (Uog b n)) w (.returned (.bool false)) w):=Qd ⟨by rw[Xh (fun h=>by unfold Uog at h;omega)],Xb _ _⟩
 all_goals
  go_enter func92,ntmps92;go_wp2;go_ret;exact F.out
def Urr (l:List Uw)(k:Nat):List Uw:=tab l.length fun i=>if i<k then onI i (l.getD i Yo) else l.getD i Yo
theorem Uby (l:List Uw)(k:Nat):(Urr l k).length=l.length:=Zi _ _
theorem Upy (l:List Uw):Urr l 0=l:=by
 unfold Urr tab;apply List.ext_getElem?;intro i;by_cases h:i<l.length
 ·simp[h,List.getD_eq_getElem?_getD]
 ·simp[h]
theorem Ut5 (l:List Uw):Urr l l.length=onL l:=Ut0 fun q hq=>by rw[if_pos hq]
theorem Upz (l:List Uw){k:Nat}(_:k<l.length):Urr l (k+1)=(Urr l k).set k (onI k (l.getD k Yo)):=by
 unfold Urr tab;apply List.ext_getElem?;intro i;by_cases hi:i<l.length
 ·by_cases he:k=i
  ·subst he;simp[hi]
  ·rw[List.getElem?_set_ne he];simp only[List.getElem?_map,List.getElem?_range hi,Option.map_some];by_cases h1:i<k
   ·rw[if_pos h1,if_pos (by omega)]
   ·rw[if_neg h1,if_neg (by omega)]
 ·rw[List.getElem?_eq_none (by simp;omega),List.getElem?_eq_none (by simp;omega)]
theorem Uoh (l:List Uw){k:Nat}(hk:k<l.length):(Urr l k).getD k Yo=l.getD k Yo:=by
 unfold Urr;rw[Uff _ hk,if_neg (Nat.lt_irrefl _)]
theorem Uoi (l:List Uw){k:Nat}(hk:k<l.length)(x:Int) :
  (l.set k { l.getD k Yo with to:=x }).flatMap Uw.cells=(l.flatMap Uw.cells).set (k*5+3) (.int .i64 x):=by
 induction l generalizing k with
 | nil=>simp at hk
 | cons y l ih =>
  cases k with
  | zero=>simp[Uw.cells]
  | succ k =>
   have:=ih (k:=k) (by simpa using hk);simp only[List.set_cons_succ,List.flatMap_cons,List.getD_cons_succ];rw[this,List.set_append_right _ _ (by simp[Uw.cells];omega)]
   congr 2
   simp[Uw.cells];omega
theorem Uc6.setTo {w:World}{B g n cap:Nat}{l:List Uw}(h:Uc6 w B (.slice (some ⟨g,0,none⟩) n cap) l)(hn:n=l.length){k:Nat}(hk:k<l.length){x:Int}(hx:I64 x) :
  Uc6 (w.setCell ⟨g,k*5+3,none⟩ (.int .i64 x)) B (.slice (some ⟨g,0,none⟩) n cap) (l.set k { l.getD k Yo with to:=x }):=by
 subst hn;refine⟨?_,fun y hy=>?_⟩
 ·rw[List.length_set,Uoi l hk];exact(h.1.stored (k*5+3) _).1
 ·rcases List.mem_or_eq_of_mem_set hy with hy|hy
  ·exact h.2 y hy
  ·rw[hy];have:=Ur4 h.2 k hk;exact⟨this.1,this.2.1,this.2.2.1,hx,this.2.2.2.2⟩
theorem Uc6.frozen {w:World}{B g n cap:Nat}{l:List Uw}(h:Uc6 w B (.slice (some ⟨g,0,none⟩) n cap) l)(j:Nat):w.frozen? ⟨g,j,none⟩=false:=by
 obtain⟨⟨_,h2⟩,_⟩:=h;rcases h2 with ⟨h2,_⟩|⟨g',cap',cur,e,hg,hh,_⟩
 ·cases h2
 ·injection e with e1 e2 e3
  injection e1 with e1
  injection e1 with e1
  subst e1;simp[World.frozen?,hh]
theorem Uc6.head {w:World}{B n c:Nat}{A:Option Addr}{l:List Uw}(h:Uc6 w B (.slice A n c) l){b o:Nat}(hA:A=some ⟨b,o,none⟩):o=0∧B≤b∧b<w.heap.size:=by
 obtain⟨⟨_,h2⟩,_⟩:=h;rcases h2 with ⟨h2,_⟩|⟨g',cap',cur,e,hg,hh,_⟩
 ·rw[hA] at h2;cases h2
 ·rw[hA] at e;injection e with e1 e2 e3
  injection e1 with e1
  injection e1 with e1 e4
  subst e1 e4;exact⟨rfl,hg,(Array.getElem?_eq_some_iff.1 hh).1⟩
structure Up0 (w:World) (B:Nat) (v:Value) (l:List Uw) (k:Nat) (wr:World):Prop where
 row:Uc6 wr B v (Urr l k)
 grown:w.grownBy wr v.ownBlock
theorem Ukw {B:Nat}{v:Value}{l:List Uw}{w:World}(h:Uc6 w B v l)(hl:l.length≤4096) :
  Calls prog 93 #[v] w (fun e w'=>e = .returned v∧Uc6 w' B v (onL l)∧w.grownBy w' v.ownBlock):=by
 obtain⟨A,c,rfl⟩:=h.form;have HR:Hid (Up0 w B (.slice A l.length c) l 0 w):=Qd ⟨by rw[Upy];exact h,World.grownBy.refl _ _⟩;clear h;go_enter func93,ntmps93;go_wp2_with fail;go_loopw [6] (fun i wr=>∃k:Nat,k≤l.length∧i = .int .i64 (k:Int)∧Hid (Up0 w B (.slice A l.length c) l k wr)) (fun i _=>l.length-(intOf i).toNat)
 case atStart=>exact⟨0,Nat.zero_le _,rfl,HR⟩
 case round =>
  clear HR;obtain⟨k,hk,rfl,HR⟩:=hrel;by_cases hlt:k<l.length
  ·have hki:(k:Int)<(l.length:Int):=by omega
   have hI:=HR.out.row.inss;obtain⟨b,o,hA,_,p0,p1,p2,p3,p4⟩:=hI.at_ (by rw[Uby]) (by rw[Uby];exact hlt);subst hA;obtain⟨ho,hB,hbw⟩:=HR.out.row.head rfl;subst ho;rw[Uoh l hlt] at p3;rw[Nat.zero_add] at p3;have hfz:=HR.out.row.frozen (k*5+3);have hxo:=Uoh l hlt;have hw1:IntKind.i64.wrap ((k:Int)+1)=(k:Int)+1:=by rw[Xf];omega
   have hsucc:=Upz l hlt;generalize hx:l.getD k Yo=x at *;by_cases h0:x.to=0;rotate_right
   focus
    have R2:Hid (Up0 w B (.slice (some ⟨b,0,none⟩) l.length c) l (k+1) wr):=Qd (by
     refine⟨?_,HR.out.grown⟩;rw[hsucc];unfold onI;rw[if_neg h0];have e:(Urr l k).set k x=Urr l k:=by
      apply List.ext_getElem?;intro i;by_cases he:k=i
      ·subst he;have hkl:k<(Urr l k).length:=by rw[Uby];exact hlt
       rw[List.getElem?_set_self hkl];rw[List.getD_eq_getElem?_getD,Xj hkl] at hxo;rw[Xj hkl];exact congrArg some hxo.symm
      ·rw[List.getElem?_set_ne he]
     rw[e]
     exact HR.out.row)
    clear hxo hsucc p0 p1 p2 p4 hI hx
   rotate_right
   focus
    have R2:Hid (Up0 w B (.slice (some ⟨b,0,none⟩) l.length c) l (k+1) (wr.setCell ⟨b,k*5+3,none⟩ (.int .i64 ((k:Int)+1)))):=Qd (by
     refine⟨?_,Udd HR.out.grown (k*5+3) _⟩;have:=HR.out.row.setTo (by rw[Uby]) (k:=k) (by rw[Uby];exact hlt) (x:=(k:Int)+1) ⟨by omega,by omega⟩;rw[hxo] at this;rw[hsucc];unfold onI;rw[if_pos h0]
     exact this)
    rw[h0] at p3;clear hxo hsucc h0 p0 p1 p2 p4 hI hx
   all_goals
    go_wp2;go_roundw
    case rel=>exact⟨k+1,by omega,by go_num,R2⟩
    case measure=>simp[intOf];omega
  ·have hki:¬(k:Int)<(l.length:Int):=by omega
   have he:k=l.length:=by omega
   have hrow:=HR.out.row;rw[he,Ut5] at hrow;have HRW:=Qd hrow;clear hrow he;go_wp2;go_ret;exact⟨rfl,HRW.out,HR.out.grown⟩
end Go.Proofs.YtdaflmjfeoacaaaGreat
namespace Go.Proofs.YtdaflmjfeoacaaaGreat
open Tryz
open Go.RowKit
theorem Umx {v:Value}{ps:List (Value×List Uw)}{w:World}(h:Umf w v ps)(h0:0<(ps.flatMap (·.2)).length)(hn:(ps.flatMap (·.2)).length≤4096) :
  Calls prog 86 #[v] w (fun e w'=>∃v',e = .returned v'∧Uc6 w' w.heap.size v' (onL (ps.flatMap (·.2)))∧Below w.heap.size w w'):=by
 have H:=Qd h;clear h;obtain⟨l,hl0⟩:∃l,l=ps.flatMap (·.2):=⟨_,rfl⟩;rw[←hl0] at h0 hn ⊢;have HL0:=Qd hl0;clear hl0;go_enter func86,ntmps86;go_wp2_with fail;refine(Ur8 H.out (by rw[←HL0.out];exact h0) (by rw[←HL0.out];exact hn)).mono ?_;rintro e w1 ⟨v1,rfl,ho1,hb1⟩;rw[←HL0.out] at ho1;obtain⟨A,c,hv1⟩:=ho1.form;subst hv1;have HB1:=Qd hb1;have HO1:=Qd ho1;have hl:=hn;have HR:Hid (Up0 w1 w.heap.size (.slice A l.length c) l 0 w1):=Qd ⟨by rw[Upy];exact ho1,World.grownBy.refl _ _⟩;clear ho1 hb1;go_wp2_with fail;go_loopw [9] (fun i wr=>∃k:Nat,k≤l.length∧i = .int .i64 (k:Int)∧Hid (Up0 w1 w.heap.size (.slice A l.length c) l k wr)) (fun i _=>l.length-(intOf i).toNat)
 case atStart=>exact⟨0,Nat.zero_le _,rfl,HR⟩
 case round =>
  clear HR;obtain⟨k,hk,rfl,HR⟩:=hrel;by_cases hlt:k<l.length
  ·have hki:(k:Int)<(l.length:Int):=by omega
   have hI:=HR.out.row.inss;obtain⟨b,o,hA,_,p0,p1,p2,p3,p4⟩:=hI.at_ (by rw[Uby]) (by rw[Uby];exact hlt);subst hA;obtain⟨ho,hB,hbw⟩:=HR.out.row.head rfl;subst ho;rw[Uoh l hlt] at p3;rw[Nat.zero_add] at p3;have hfz:=HR.out.row.frozen (k*5+3);have hxo:=Uoh l hlt;have hw1:IntKind.i64.wrap ((k:Int)+1)=(k:Int)+1:=by rw[Xf];omega
   have hsucc:=Upz l hlt;generalize hx:l.getD k Yo=x at *;by_cases h0:x.to=0;rotate_right
   focus
    have R2:Hid (Up0 w1 w.heap.size (.slice (some ⟨b,0,none⟩) l.length c) l (k+1) wr):=Qd (by
     refine⟨?_,HR.out.grown⟩;rw[hsucc];unfold onI;rw[if_neg h0];have e:(Urr l k).set k x=Urr l k:=by
      apply List.ext_getElem?;intro i;by_cases he:k=i
      ·subst he;have hkl:k<(Urr l k).length:=by rw[Uby];exact hlt
       rw[List.getElem?_set_self hkl];rw[List.getD_eq_getElem?_getD,Xj hkl] at hxo;rw[Xj hkl];exact congrArg some hxo.symm
      ·rw[List.getElem?_set_ne he]
     rw[e]
     exact HR.out.row)
    clear hxo hsucc p0 p1 p2 p4 hI hx
   rotate_right
   focus
    have R2:Hid (Up0 w1 w.heap.size (.slice (some ⟨b,0,none⟩) l.length c) l (k+1) (wr.setCell ⟨b,k*5+3,none⟩ (.int .i64 ((k:Int)+1)))):=Qd (by
     refine⟨?_,Udd HR.out.grown (k*5+3) _⟩;have:=HR.out.row.setTo (by rw[Uby]) (k:=k) (by rw[Uby];exact hlt) (x:=(k:Int)+1) ⟨by omega,by omega⟩;rw[hxo] at this;rw[hsucc];unfold onI;rw[if_pos h0]
     exact this)
    rw[h0] at p3;clear hxo hsucc h0 p0 p1 p2 p4 hI hx
   all_goals
    go_wp2;go_roundw
    case rel=>exact⟨k+1,by omega,by go_num,R2⟩
    case measure=>simp[intOf];omega
  ·have hki:¬(k:Int)<(l.length:Int):=by omega
   have he:k=l.length:=by omega
   have hrow:=HR.out.row;rw[he,Ut5] at hrow;have HRW:=Qd hrow;clear hrow he;have HBF:Hid (Below w.heap.size w wr):=Qd (HB1.out.grown HR.out.grown HB1.out.size (fun j hj=>(HO1.out.1.lt j hj).1));go_wp2;go_ret;exact⟨_,rfl,HRW.out,HBF.out⟩
def Urs (b n:Int):Prop:=0≤b∧b≤255∧1≤n∧n≤8
instance (b n:Int):Decidable (Urs b n):=by unfold Urs;exact inferInstance
theorem Uvh (b n:Int):b<0∨(0≤b∧255<b)∨(0≤b∧b≤255∧n<1)∨(0≤b∧b≤255∧1≤n∧8<n)∨(0≤b∧b≤255∧1≤n∧n≤8):=by omega
theorem Up1 (b n:Int)(w:World):Calls prog 85 #[.int .i64 b,.int .i64 n] w (Zj (decide (Urs b n)) w):=by
 rcases Uvh b n with h0|⟨h0,h1⟩|⟨h0,h1,h2⟩|⟨h0,h1,h2,h3⟩|⟨h0,h1,h2,h3⟩
 rotate_right
 focus
  have F:Hid (Zj (decide (Urs b n)) w (.returned (.bool true)) w):=Qd ⟨by rw[Xi (p:=Urs b n) ⟨h0,h1,h2,h3⟩],Xb _ _⟩;have h2':0<n:=by omega
 rotate_right
 focus
  have F:Hid (Zj (decide (Urs b n)) w (.returned (.bool false)) w):=Qd ⟨by rw[Xh (fun h=>by unfold Urs at h;omega)],Xb _ _⟩;have h2':0<n:=by omega
  have h3':¬n≤8:=by omega
 rotate_right
 focus
  have F:Hid (Zj (decide (Urs b n)) w (.returned (.bool false)) w):=Qd ⟨by rw[Xh (fun h=>by unfold Urs at h;omega)],Xb _ _⟩;have h2':¬0<n:=by omega
 rotate_right
 focus
  have F:Hid (Zj (decide (Urs b n)) w (.returned (.bool false)) w):=Qd ⟨by rw[Xh (fun h=>by unfold Urs at h;omega)],Xb _ _⟩;have h1':¬b≤255:=by omega
 rotate_right
 focus
  have F:Hid (Zj (decide (Urs b n)) w (.returned (.bool false)) w):=Qd ⟨by rw[Xh (fun h=>by unfold Urs at h;omega)],Xb _ _⟩
 all_goals
  go_enter func85,ntmps85;go_wp2;go_ret;exact F.out
end Go.Proofs.YtdaflmjfeoacaaaGreat
namespace Go.Proofs.YtdaflmjfeoacaaaGreat
open Tryz
open Go.RowKit
def atR (b c t:Int):Int:=b+3+6*(t % c)
def U2i (b c t:Int)(ws:List Int)(q:Nat):Uw :=
 if q=0 then ⟨0,b,0,1,0⟩ else if q=1 then ⟨3,0,0,10,(t-c) % 18446744073709551616⟩ else if q≤7 then ⟨1,atR b c t+((q:Int)-2),0,(q:Int)+1,ws.getD (q-2) 0⟩
 else if q=8 then ⟨1,b+1,0,9,t+1⟩ else if q=9 then ⟨6,0,0,10,1⟩ else if q=10 then ⟨2,b+2,0,11,1⟩ else ⟨6,0,0,12,0⟩
def U8j (b c h:Int)(q:Nat):Uw :=
 if q=0 then ⟨0,b+1,0,1,0⟩ else if q=1 then ⟨3,0,0,10,h⟩ else if q≤7 then ⟨0,atR b c h+((q:Int)-2),(q:Int)-1,(q:Int)+1,0⟩
 else if q=8 then ⟨1,b,0,9,h+1⟩ else if q=9 then ⟨6,0,0,10,1⟩ else ⟨6,0,0,11,0⟩
def Uyg (b c t:Int):Prop:=Urs b c∧0≤t
instance (b c t:Int):Decidable (Uyg b c t):=by unfold Uyg;exact inferInstance
def Ukx (b c t:Int)(ws:List Int):List Uw:=if Uyg b c t∧ws.length=6 then tab 12 (U2i b c t ws) else []
def Uyh (b c h:Int):List Uw:=if Uyg b c h then tab 11 (U8j b c h) else []
theorem Umy {b c t:Int}(h:Uyg b c t):0≤t % c∧t % c<c∧0≤atR b c t∧atR b c t≤300:=by
 obtain⟨⟨h1,h2,h3,h4⟩,h5⟩:=h;have:=Int.emod_nonneg t (show c≠0 by omega);have:=Int.emod_lt_of_pos t (show 0<c by omega);unfold atR;omega
theorem Uc6.kept {w w':World}{B:Nat}{v:Value}{l:List Uw}(h:Uc6 w B v l)(hb:Below w.heap.size w w'):Uc6 w' B v l:=by
 obtain⟨⟨h1,h2⟩,h3⟩:=h;refine⟨⟨h1,?_⟩,h3⟩;rcases h2 with h2|⟨g',cap,cur,e,hg',hh,r⟩
 ·exact .inl h2
 ·exact .inr ⟨g',cap,cur,e,hg',(hb.block g' (Array.getElem?_eq_some_iff.1 hh).1).trans hh,r⟩
theorem Zf.kept {w wr w':World}{v:Value}{l:List Uw}(h:Zf w l v wr)(hb:Below wr.heap.size wr w'):Zf w l v w':=⟨h.1.kept hb,Ua h.2 hb h.2.size⟩
theorem Up2 {P:Program}{ops:Array Oper}{Q:Exit→Act→World→Prop}{rest:List Oper}{o:Oper}{ty:TypeId}{x:Operand}{a:Act}{W:World}(h:∀W0,W0=W→Uo P ops Q rest o ty x a W0):Uo P ops Q rest o ty x a W:=h W rfl
theorem Uj4:(prog.info? 162).map (·.size)=some (#[Value.int .i64 0,.int .i64 0,.int .i64 0,.int .i64 0,.int .u64 0]:Array Value).size:=by kernel_rfl
theorem Uyi (i:Nat)(hi:i<6)(w:World):Calls prog 116 #[.int .i64 (i:Int)] w (fun e w'=>e = .returned (.agg #[.int .i64 0,.int .i64 0,.int .i64 (1+(i:Int)),.int .i64 0,.int .u64 0])∧Below w.heap.size w w'):=by
 have hw:IntKind.i64.wrap (1+(i:Int))=1+(i:Int):=by rw[Xf];omega
 have hw2:wrap64 (1+(i:Int))=1+(i:Int):=by unfold wrap64;omega
 have F:Hid (∀o,Below w.heap.size w (w.alloc o)):=Qd fun o=>(Xb _ w).alloc (Xa _) o
 have F2:Hid (∀W,Below w.heap.size w W→∀j u,Below w.heap.size w (W.setCell ⟨w.heap.size,j,none⟩ u)):=Qd fun W h j u=>h.setCell (p:=⟨w.heap.size,j,none⟩) (Xa _) u
 go_enter func116,ntmps116;go_wp2;exact Xk (results_cell_row results116 _ _ w.heap.size 162 _ (0,0) _ rfl (Box.new w _ _) underlying162 rfl Uj4) rfl ⟨rfl,F.out _⟩
theorem Uvi (i:Nat)(hi:i<6){g:Nat}{v:Value}{ws:List Int}{w:World}(hv:Yx w v ws)(hl:ws.length=6)(hg:w.cell? ⟨g,0,none⟩=some v) :
  Calls prog 88 #[.int .i64 (i:Int),.pointer (some ⟨g,0,none⟩)] w (fun e w'=>e = .returned (.agg #[.int .i64 1,.int .i64 0,.int .i64 0,.int .i64 0,.int .u64 (ws.getD i 0)])∧Below w.heap.size w w'):=by
 obtain⟨A,c,rfl,hc1,hc2,_⟩:=hv.1.form;obtain⟨b,o,rfl,hb,p0⟩:=hv.at_ rfl (show i<ws.length by omega);unfold maxLen at hc2;rw[hl] at hg;have hgl:=World.block_lt_of_cell? w _ hg;have hi6:(i:Int)<6:=by omega
 have hi60:(i:Int)<((6:Nat):Int):=by omega
 have F:Hid (∀o,Below w.heap.size w (w.alloc o)):=Qd fun o=>(Xb _ w).alloc (Xa _) o
 generalize ws.getD i 0=x at *;simp only at hgl;clear hv;go_enter func88,ntmps88;go_wp2;exact Xk (results_cell_row results88 _ _ w.heap.size 162 _ (0,0) _ rfl (Box.new w _ _) underlying162 rfl Uj4) rfl ⟨rfl,F.out _⟩
set_option maxRecDepth 20000 in
theorem Ur9 {b c t:Int}(hm:Uyg b c t){w:World}  : Calls prog 87 #[.int .i64 b,.int .i64 c,.int .i64 t,.func (.func 116) #[] #[]] w (fun e w'=>∃v,e = .returned v∧Uc6 w' w.heap.size v (tab 6 (fun q:Nat=>(⟨0,atR b c t+(q:Int),1+(q:Int),0,0⟩:Uw)))∧Below w.heap.size w w'):=by
 obtain⟨a1,a2,a3,a4⟩:=Umy hm;obtain⟨⟨h1,h2,h3,h4⟩,h5⟩:=hm;have htm:t.tmod c=t % c:=Int.tmod_eq_emod_of_nonneg h5;have hw1:IntKind.i64.wrap (t % c)=t % c:=by rw[Xf];omega
 have hw2:IntKind.i64.wrap (6*(t % c))=6*(t % c):=by rw[Xf];omega
 have hw3:IntKind.i64.wrap (b+3)=b+3:=by rw[Xf];omega
 have hw4:IntKind.i64.wrap (b+3+6*(t % c))=atR b c t:=by unfold atR;rw[Xf];omega
 have hc0:¬c=0:=by omega
 have hw5:∀k:Nat,k<6→IntKind.i64.wrap (atR b c t+(k:Int))=atR b c t+(k:Int):=fun k hk=>by rw[Xf];omega
 have HW5:=Qd hw5;have HOK:Hid (∀q,q<6→((fun q:Nat=>(⟨0,atR b c t+(q:Int),1+(q:Int),0,0⟩:Uw)) q).ok):=Qd (by intro q hq;exact⟨by simp[I64],by simp only[I64];omega,by simp only[I64];omega,by simp[I64],by simp[W64]⟩);have HR0:Hid (Zf w (tab 0 (fun q:Nat=>(⟨0,atR b c t+(q:Int),1+(q:Int),0,0⟩:Uw))) (.slice none 0 0) w):=Qd ⟨by simpa [tab] using Uc6.nil w _,Xb _ _⟩;clear hw5;go_enter func87,ntmps87;go_wp2_with fail;go_loopw [9,12] (fun v9 q wr=>∃k:Nat,k≤6∧q = .int .i64 (k:Int)∧Hid (Zf w (tab k (fun q:Nat=>(⟨0,atR b c t+(q:Int),1+(q:Int),0,0⟩:Uw))) v9 wr)) (fun _ q _=>6-(intOf q).toNat)
 case atStart=>exact⟨0,Nat.zero_le _,rfl,HR0⟩
 case round =>
  clear HR0;obtain⟨k,hk,rfl,HR⟩:=hrel;obtain⟨A9,c9,hv9⟩:=HR.out.1.form;rw[Zi] at hv9;subst hv9;by_cases hlt:k<6
  ·have hki:(k:Int)<6:=by omega
   have hwk:=HW5.out k hlt;have hok:=HOK.out k hlt;have hsucc:=Ua5 k (fun q:Nat=>(⟨0,atR b c t+(q:Int),1+(q:Int),0,0⟩:Uw));have HS:=Qd hsucc;have HOKK:=Qd hok;clear hsucc hok;go_wp2_with fail;refine(Uyi k hlt wr).mono ?_;rintro e wc ⟨rfl,hbc⟩;have HALL:Hid (∀W,Below wc.heap.size wc W→Zf w (tab k (fun q:Nat=>(⟨0,atR b c t+(q:Int),1+(q:Int),0,0⟩:Uw))) (.slice A9 k c9) W):=Qd fun W hW=>(HR.out.kept hbc).kept hW
   have HOC:Hid (∀x∈([⟨0,atR b c t+(k:Int),1+(k:Int),0,0⟩]:List Uw),x.ok):=Qd (Ut2 HOKK.out);clear hbc HR HOKK
   skip
   go_wp2_with (with_reducible first|refine Qg 162 ?_);refine Up2 fun W5 hW5=>?_
   have HB5:Hid (Box W5 wc.heap.size 162 #[.int .i64 0,.int .i64 (atR b c t+(k:Int)),.int .i64 (1+(k:Int)),.int .i64 0,.int .u64 0]):=Qd (by rw[hW5];exact Box.new _ _ _);have HI5:Hid (Zf w (tab k (fun q:Nat=>(⟨0,atR b c t+(q:Int),1+(q:Int),0,0⟩:Uw))) (.slice A9 k c9) W5):=Qd (HALL.out W5 (by rw[hW5];exact(Xb _ wc).alloc (Xa _) _));clear hW5 HALL;refine Uo.go wc.heap.size rfl HB5.out underlying162 rfl Uj4 ?_;go_wp2_with (at_builtin;refine Ubc HI5.out [⟨0,atR b c t+(k:Int),1+(k:Int),0,0⟩] HOC.out (k+1) (by rw[Zi];rfl) (by omega) rfl _ _ rfl rfl rfl ?_);intro A8 c8 w3 R30;have R3:Hid (Zf w (tab (k+1) (fun q:Nat=>(⟨0,atR b c t+(q:Int),1+(q:Int),0,0⟩:Uw))) (.slice A8 (k+1) c8) w3):=Qd (by rw[HS.out];exact R30);clear R30;go_wp2;go_roundw
   case rel=>exact⟨k+1,by omega,by go_num,R3⟩
   case measure=>simp[intOf];omega
  ·have hki:¬(k:Int)<6:=by omega
   have hke:k=6:=by omega
   subst hke;go_wp2;go_ret;exact⟨_,rfl,HR.out.1,HR.out.2⟩
set_option maxRecDepth 20000 in
theorem Up3 {b c t:Int}{g:Nat}{v:Value}{ws:List Int}(hl:ws.length=6)(hm:Uyg b c t){w:World}(hv:Yx w v ws)(hg:w.cell? ⟨g,0,none⟩=some v):Calls prog 87 #[.int .i64 b,.int .i64 c,.int .i64 t,.func (.func 88) #[] #[.pointer (some ⟨g,0,none⟩)]] w (fun e w'=>∃v,e = .returned v∧Uc6 w' w.heap.size v (tab 6 (fun q:Nat=>(⟨1,atR b c t+(q:Int),0,0,ws.getD q 0⟩:Uw)))∧Below w.heap.size w w'):=by
 have HV:=Qd hv;have HLL:=Qd hl;have HG:=Qd hg;have HGL:=Qd (World.block_lt_of_cell? w _ hg);clear hv hl hg;obtain⟨a1,a2,a3,a4⟩:=Umy hm;obtain⟨⟨h1,h2,h3,h4⟩,h5⟩:=hm;have htm:t.tmod c=t % c:=Int.tmod_eq_emod_of_nonneg h5;have hw1:IntKind.i64.wrap (t % c)=t % c:=by rw[Xf];omega
 have hw2:IntKind.i64.wrap (6*(t % c))=6*(t % c):=by rw[Xf];omega
 have hw3:IntKind.i64.wrap (b+3)=b+3:=by rw[Xf];omega
 have hw4:IntKind.i64.wrap (b+3+6*(t % c))=atR b c t:=by unfold atR;rw[Xf];omega
 have hc0:¬c=0:=by omega
 have hw5:∀k:Nat,k<6→IntKind.i64.wrap (atR b c t+(k:Int))=atR b c t+(k:Int):=fun k hk=>by rw[Xf];omega
 have HW5:=Qd hw5;have HOK:Hid (∀q,q<6→((fun q:Nat=>(⟨1,atR b c t+(q:Int),0,0,ws.getD q 0⟩:Uw)) q).ok):=Qd (by intro q hq;exact⟨by simp[I64],by simp only[I64];omega,by simp[I64],by simp[I64],HV.out.2 _ (Ufe (by rw[HLL.out];exact hq))⟩);have HR0:Hid (Zf w (tab 0 (fun q:Nat=>(⟨1,atR b c t+(q:Int),0,0,ws.getD q 0⟩:Uw))) (.slice none 0 0) w):=Qd ⟨by simpa [tab] using Uc6.nil w _,Xb _ _⟩;clear hw5;go_enter func87,ntmps87;go_wp2_with fail;go_loopw [9,12] (fun v9 q wr=>∃k:Nat,k≤6∧q = .int .i64 (k:Int)∧Hid (Zf w (tab k (fun q:Nat=>(⟨1,atR b c t+(q:Int),0,0,ws.getD q 0⟩:Uw))) v9 wr)) (fun _ q _=>6-(intOf q).toNat)
 case atStart=>exact⟨0,Nat.zero_le _,rfl,HR0⟩
 case round =>
  clear HR0;obtain⟨k,hk,rfl,HR⟩:=hrel;obtain⟨A9,c9,hv9⟩:=HR.out.1.form;rw[Zi] at hv9;subst hv9;by_cases hlt:k<6
  ·have hki:(k:Int)<6:=by omega
   have hwk:=HW5.out k hlt;have hok:=HOK.out k hlt;have hsucc:=Ua5 k (fun q:Nat=>(⟨1,atR b c t+(q:Int),0,0,ws.getD q 0⟩:Uw));have HS:=Qd hsucc;have HOKK:=Qd hok;clear hsucc hok;go_wp2_with fail;refine(Uvi k hlt (HV.out.below HR.out.2) HLL.out ((HR.out.2.cell (p:=⟨g,0,none⟩) HGL.out).trans HG.out)).mono ?_;rintro e wc ⟨rfl,hbc⟩;have HALL:Hid (∀W,Below wc.heap.size wc W→Zf w (tab k (fun q:Nat=>(⟨1,atR b c t+(q:Int),0,0,ws.getD q 0⟩:Uw))) (.slice A9 k c9) W):=Qd fun W hW=>(HR.out.kept hbc).kept hW
   have HOC:Hid (∀x∈([⟨1,atR b c t+(k:Int),0,0,ws.getD k 0⟩]:List Uw),x.ok):=Qd (Ut2 HOKK.out);clear hbc HR HOKK;generalize ws.getD k 0=x at *;go_wp2_with (with_reducible first|refine Qg 162 ?_);refine Up2 fun W5 hW5=>?_
   have HB5:Hid (Box W5 wc.heap.size 162 #[.int .i64 1,.int .i64 (atR b c t+(k:Int)),.int .i64 0,.int .i64 0,.int .u64 x]):=Qd (by rw[hW5];exact Box.new _ _ _);have HI5:Hid (Zf w (tab k (fun q:Nat=>(⟨1,atR b c t+(q:Int),0,0,ws.getD q 0⟩:Uw))) (.slice A9 k c9) W5):=Qd (HALL.out W5 (by rw[hW5];exact(Xb _ wc).alloc (Xa _) _));clear hW5 HALL;refine Uo.go wc.heap.size rfl HB5.out underlying162 rfl Uj4 ?_;go_wp2_with (at_builtin;refine Ubc HI5.out [⟨1,atR b c t+(k:Int),0,0,x⟩] HOC.out (k+1) (by rw[Zi];rfl) (by omega) rfl _ _ rfl rfl rfl ?_);intro A8 c8 w3 R30;have R3:Hid (Zf w (tab (k+1) (fun q:Nat=>(⟨1,atR b c t+(q:Int),0,0,ws.getD q 0⟩:Uw))) (.slice A8 (k+1) c8) w3):=Qd (by rw[HS.out];exact R30);clear R30;go_wp2;go_roundw
   case rel=>exact⟨k+1,by omega,by go_num,R3⟩
   case measure=>simp[intOf];omega
  ·have hki:¬(k:Int)<6:=by omega
   have hke:k=6:=by omega
   subst hke;go_wp2;go_ret;exact⟨_,rfl,HR.out.1,HR.out.2⟩
end Go.Proofs.YtdaflmjfeoacaaaGreat
namespace Go.Proofs.YtdaflmjfeoacaaaGreat
open Tryz
open Go.RowKit
def Ueu (b c t:Int)(ws:List Int):List Uw:=[⟨0,b,0,0,0⟩,⟨3,0,0,10,(t-c) % 18446744073709551616⟩]++(tab 6 (fun q:Nat=>(⟨1,atR b c t+(q:Int),0,0,ws.getD q 0⟩:Uw))++([⟨1,b+1,0,0,t+1⟩,⟨6,0,0,0,1⟩]++[⟨2,b+2,0,0,1⟩,⟨6,0,0,0,0⟩]))
def Ui9 (b c h:Int):List Uw:=[⟨0,b+1,0,0,0⟩,⟨3,0,0,10,h⟩]++(tab 6 (fun q:Nat=>(⟨0,atR b c h+(q:Int),1+(q:Int),0,0⟩:Uw))++([⟨1,b,0,0,h+1⟩,⟨6,0,0,0,1⟩]++[⟨6,0,0,0,0⟩]))
theorem Uvj (b c t:Int)(ws:List Int):onL (Ueu b c t ws)=tab 12 (U2i b c t ws):=by
 have hl:(Ueu b c t ws).length=12:=by simp[Ueu,tab]
 unfold onL;rw[hl];refine Ut0 fun q hq=>?_
 have e:Ueu b c t ws=[⟨0,b,0,0,0⟩,⟨3,0,0,10,(t-c) % 18446744073709551616⟩,⟨1,atR b c t+0,0,0,ws.getD 0 0⟩,⟨1,atR b c t+1,0,0,ws.getD 1 0⟩,⟨1,atR b c t+2,0,0,ws.getD 2 0⟩,⟨1,atR b c t+3,0,0,ws.getD 3 0⟩,⟨1,atR b c t+4,0,0,ws.getD 4 0⟩,⟨1,atR b c t+5,0,0,ws.getD 5 0⟩,⟨1,b+1,0,0,t+1⟩,⟨6,0,0,0,1⟩,⟨2,b+2,0,0,1⟩,⟨6,0,0,0,0⟩]:=rfl;rw[e];obtain rfl|rfl|rfl|rfl|rfl|rfl|rfl|rfl|rfl|rfl|rfl|rfl:q=0∨q=1∨q=2∨q=3∨q=4∨q=5∨q=6∨q=7∨q=8∨q=9∨q=10∨q=11:=by omega
 all_goals simp[onI,U2i]
theorem Uyj (b c h:Int):onL (Ui9 b c h)=tab 11 (U8j b c h):=by
 have hl:(Ui9 b c h).length=11:=by simp[Ui9,tab]
 unfold onL;rw[hl];refine Ut0 fun q hq=>?_
 have e:Ui9 b c h=[⟨0,b+1,0,0,0⟩,⟨3,0,0,10,h⟩,⟨0,atR b c h+0,1+0,0,0⟩,⟨0,atR b c h+1,1+1,0,0⟩,⟨0,atR b c h+2,1+2,0,0⟩,⟨0,atR b c h+3,1+3,0,0⟩,⟨0,atR b c h+4,1+4,0,0⟩,⟨0,atR b c h+5,1+5,0,0⟩,⟨1,b,0,0,h+1⟩,⟨6,0,0,0,1⟩,⟨6,0,0,0,0⟩]:=rfl;rw[e];obtain rfl|rfl|rfl|rfl|rfl|rfl|rfl|rfl|rfl|rfl|rfl:q=0∨q=1∨q=2∨q=3∨q=4∨q=5∨q=6∨q=7∨q=8∨q=9∨q=10:=by omega
 all_goals simp[onI,U8j]
theorem Ut6 {w:World}{g:Nat}(hg:g=w.heap.size)(ps:List (Value×List Uw))(hl:ps.length≤4096)(h:∀a∈ps,Ucj w a.1 a.2)(e:TypeId) :
  Umf (w.alloc (.cells (ps.flatMap fun a=>[a.1]).toArray e)) (.slice (some ⟨g,0,none⟩) ps.length ps.length) ps:=by
 subst hg;have hfl:∀l:List (Value×List Uw),(l.flatMap fun a=>[a.1]).length=l.length:=fun l=>by
  induction l with
  | nil=>rfl
  | cons x l ih=>rw[List.flatMap_cons,List.length_append,ih];simp;omega
 have hlen:(ps.flatMap fun a=>[a.1]).length=ps.length*1:=by rw[hfl];omega
 refine⟨by have:=Sl.of_own (Yt w e 1 (ps.flatMap fun a=>[a.1]).toArray ps.length (by simpa using hlen) (by simp only[maxLen];omega));simpa using this,fun a ha=>(h a ha).alloc _⟩
set_option maxRecDepth 20000 in
theorem Uyk {v:Value}{ws:List Int}{b c t:Int}{w:World}(ht:I64 t)(h:Yx w v ws):Calls prog 61 #[.int .i64 b,.int .i64 c,.int .i64 t,v] w (Ub4 (Ukx b c t ws) w):=by
 obtain⟨B,d,rfl,hd1,hd2,_⟩:=h.1.form;unfold maxLen at hd2;have H:=Qd h;clear h;have ht':=ht;unfold I64 at ht';have HTT:=Qd ht;clear ht;go_enter func61,ntmps61;go_wp2_with fail;refine Y7 fun W0 hW0=>?_
 have hg0:W0.cell? ⟨w.heap.size,0,none⟩=some (.slice B ws.length d):=by rw[hW0];exact(Box.new w _ #[_]).cell 0
 have hbw0:Below w.heap.size w W0:=by rw[hW0];exact(Xb _ w).alloc (Xa _) _
 have hlt0:w.heap.size<W0.heap.size:=by rw[hW0];simp
 clear hW0;refine(Up1 b c W0).mono ?_;rintro e w1 ⟨rfl,hb1⟩;have g1:=(hb1.cell (p:=⟨w.heap.size,0,none⟩) hlt0).trans hg0;have HB1:Hid (Below w.heap.size w w1):=Qd (Ua hbw0 hb1 hbw0.size);have HGL:Hid (w.heap.size<w1.heap.size):=Qd (by have:=hb1.size;omega);clear hb1 hg0 hbw0 hlt0;have F:Hid (¬(Uyg b c t∧ws.length=6)→Ub4 (Ukx b c t ws) w (.returned (.slice none 0 0)) w1):=Qd fun hn=>⟨_,rfl,by unfold Ukx;rw[if_neg hn];exact Uc6.nil _ _,HB1.out⟩
 by_cases hm:¬Urs b c
 ·rw[Xh hm];have F2:=Qd (F.out (fun h=>hm h.1.1));clear hm F;go_wp2;go_ret;exact F2.out
 have hm':=Decidable.not_not.1 hm;rw[Xi hm'];by_cases ht0:t<0
 ·have F2:=Qd (F.out (fun h=>by have:=h.1.2;omega));clear hm hm' F;go_wp2;go_ret;exact F2.out
 by_cases hl6:¬ws.length=6
 ·have hne:((ws.length:Int) != 6)=true:=by
   have:¬(ws.length:Int)=6:=by omega
   simpa using this
  have F2:=Qd (F.out (fun h=>hl6 h.2));clear hm hm' F;go_wp2;go_ret;exact F2.out
 have hl6':=Decidable.not_not.1 hl6;have HL6:=Qd hl6';have hl6i:(ws.length:Int)=6:=by omega
 have hmay:Uyg b c t:=⟨hm',by omega⟩;obtain⟨_,_,ha1,ha2⟩:=Umy hmay;have HMAY:=Qd hmay;obtain⟨m1,m2,m3,m4⟩:=hm';have hb0:IntKind.i64.wrap b=b:=by rw[Xf];omega
 have hb1:IntKind.i64.wrap (b+1)=b+1:=by rw[Xf];omega
 have hb2:IntKind.i64.wrap (b+2)=b+2:=by rw[Xf];omega
 have hs1:IntKind.i64.wrap (t-c)=t-c:=by rw[Xf];omega
 have hs2:IntKind.u64.wrap (t-c)=(t-c) % 18446744073709551616:=by rw[Xg]
 have hs3:IntKind.u64.wrap t=t:=by rw[Xg];omega
 have hs4:IntKind.u64.wrap (t+1)=t+1:=by rw[Xg];omega
 have hb0':wrap64 b=b:=by unfold wrap64;omega
 have hb1':wrap64 (b+1)=b+1:=by unfold wrap64;omega
 have hb2':wrap64 (b+2)=b+2:=by unfold wrap64;omega
 have hs1':wrap64 (t-c)=t-c:=by unfold wrap64;omega
 have HK0:Hid (∀x∈([⟨0,b,0,0,0⟩,⟨3,0,0,10,(t-c) % 18446744073709551616⟩]:List Uw),x.ok):=Qd (Ui8 ⟨by simp[I64],by simp only[I64];omega,by simp[I64],by simp[I64],by simp[W64]⟩ ⟨by simp[I64],by simp[I64],by simp[I64],by simp[I64],by simp only[W64];omega⟩);have HK2:Hid (∀x∈([⟨1,b+1,0,0,t+1⟩,⟨6,0,0,0,1⟩]:List Uw),x.ok):=Qd (Ui8 ⟨by simp[I64],by simp only[I64];omega,by simp[I64],by simp[I64],by simp only[W64];omega⟩ ⟨by simp[I64],by simp[I64],by simp[I64],by simp[I64],by simp[W64]⟩);have HK3:Hid (∀x∈([⟨2,b+2,0,0,1⟩,⟨6,0,0,0,0⟩]:List Uw),x.ok):=Qd (Ui8 ⟨by simp[I64],by simp only[I64];omega,by simp[I64],by simp[I64],by simp[W64]⟩ ⟨by simp[I64],by simp[I64],by simp[I64],by simp[I64],by simp[W64]⟩);clear hm hmay F ha1 ha2;go_wp2_with fail;refine Y7 fun W2 hW2=>?_
 have h02:Ucj W2 (.slice (some ⟨w1.heap.size,0,none⟩) 2 2) [⟨0,b,0,0,0⟩,⟨3,0,0,10,(t-c) % 18446744073709551616⟩]:=by rw[hW2];exact Uih rfl [⟨0,b,0,0,0⟩,⟨3,0,0,10,(t-c) % 18446744073709551616⟩] HK0.out (by simp) _
 have hb12:Below w1.heap.size w1 W2:=by rw[hW2];exact(Xb _ w1).alloc (Xa _) _
 have HB2:=Qd (Ua HB1.out hb12 HB1.out.size);have g2:=(hb12.cell (p:=⟨w.heap.size,0,none⟩) HGL.out).trans g1;clear hW2 hb12;refine(Up3 HL6.out HMAY.out (H.out.below HB2.out) g2).mono ?_;rintro e w3 ⟨v35,rfl,ho3,hb3⟩;obtain⟨A35,c35,hv35⟩:=ho3.form;rw[Zi] at hv35;subst hv35;have H03:=Qd (h02.below hb3);have HI3:=Qd ho3.inss;have HB3:=Qd (Ua HB2.out hb3 HB2.out.size);clear h02 ho3 hb3 HB2 g1 g2;go_wp2_with fail;refine Y7 fun W4 hW4=>?_
 have HP:Hid (Umf W4 (.slice (some ⟨w3.heap.size+2,0,none⟩) 4 4) [(.slice (some ⟨w1.heap.size,0,none⟩) 2 2,[⟨0,b,0,0,0⟩,⟨3,0,0,10,(t-c) % 18446744073709551616⟩]),(.slice A35 6 c35,tab 6 (fun q:Nat=>(⟨1,atR b c t+(q:Int),0,0,ws.getD q 0⟩:Uw))),(.slice (some ⟨w3.heap.size,0,none⟩) 2 2,[⟨1,b+1,0,0,t+1⟩,⟨6,0,0,0,1⟩]),(.slice (some ⟨w3.heap.size+1,0,none⟩) 2 2,[⟨2,b+2,0,0,1⟩,⟨6,0,0,0,0⟩])]):=Qd (by
  rw[hW4];refine Ut6 (by simp) [(.slice (some ⟨w1.heap.size,0,none⟩) 2 2,[⟨0,b,0,0,0⟩,⟨3,0,0,10,(t-c) % 18446744073709551616⟩]),(.slice A35 6 c35,tab 6 (fun q:Nat=>(⟨1,atR b c t+(q:Int),0,0,ws.getD q 0⟩:Uw))),(.slice (some ⟨w3.heap.size,0,none⟩) 2 2,[⟨1,b+1,0,0,t+1⟩,⟨6,0,0,0,1⟩]),(.slice (some ⟨w3.heap.size+1,0,none⟩) 2 2,[⟨2,b+2,0,0,1⟩,⟨6,0,0,0,0⟩])] (by simp) (fun x hx=>?_) _;simp only[List.mem_cons,List.not_mem_nil,or_false] at hx;rcases hx with rfl|rfl|rfl|rfl
  ·exact(H03.out.alloc _).alloc _
  ·exact(HI3.out.alloc _).alloc _
  ·exact(Uih rfl [⟨1,b+1,0,0,t+1⟩,⟨6,0,0,0,1⟩] HK2.out (by simp) _).alloc _
  ·exact Uih (by simp) [⟨2,b+2,0,0,1⟩,⟨6,0,0,0,0⟩] HK3.out (by simp) _)
 have HB4:Hid (Below w.heap.size w W4):=Qd (by
  rw[hW4]
  exact((HB3.out.alloc HB3.out.size _).alloc (by have:=HB3.out.size;simp;omega) _).alloc (by have:=HB3.out.size;simp;omega) _)
 clear hW4 H03 HI3 HB3;have hfl:([(.slice (some ⟨w1.heap.size,0,none⟩) 2 2,[⟨0,b,0,0,0⟩,⟨3,0,0,10,(t-c) % 18446744073709551616⟩]),(.slice A35 6 c35,tab 6 (fun q:Nat=>(⟨1,atR b c t+(q:Int),0,0,ws.getD q 0⟩:Uw))),(.slice (some ⟨w3.heap.size,0,none⟩) 2 2,[⟨1,b+1,0,0,t+1⟩,⟨6,0,0,0,1⟩]),(.slice (some ⟨w3.heap.size+1,0,none⟩) 2 2,[⟨2,b+2,0,0,1⟩,⟨6,0,0,0,0⟩])]:List (Value×List Uw)).flatMap (·.2)=Ueu b c t ws:=by
  simp[Ueu]
 have hlen:(Ueu b c t ws).length=12:=by simp[Ueu,tab]
 have hcd:=Umx HP.out (by rw[hfl,hlen];omega) (by rw[hfl,hlen];omega);rw[hfl,Uvj b c t ws] at hcd;refine hcd.mono ?_;rintro e w5 ⟨v5,rfl,ho5,hb5⟩;have FF:Hid (Ub4 (Ukx b c t ws) w (.returned v5) w5):=Qd ⟨_,rfl,by unfold Ukx;rw[if_pos ⟨HMAY.out,HL6.out⟩];exact ho5.base HB4.out.size,Ua HB4.out hb5 HB4.out.size⟩;clear ho5 hb5 hcd hfl hlen;go_wp2;go_ret;exact FF.out
set_option maxRecDepth 20000 in
theorem U2j {b c t:Int}{w:World}(ht:I64 t):Calls prog 89 #[.int .i64 b,.int .i64 c,.int .i64 t] w (Ub4 (Uyh b c t) w):=by
 have ht':=ht;unfold I64 at ht';have HTT:=Qd ht;clear ht;go_enter func89,ntmps89;go_wp2_with fail;refine(Up1 b c w).mono ?_;rintro e w1 ⟨rfl,hb1⟩;have HB1:=Qd hb1;clear hb1;have F:Hid (¬(Uyg b c t)→Ub4 (Uyh b c t) w (.returned (.slice none 0 0)) w1):=Qd fun hn=>⟨_,rfl,by unfold Uyh;rw[if_neg hn];exact Uc6.nil _ _,HB1.out⟩
 by_cases hm:¬Urs b c
 ·rw[Xh hm];have F2:=Qd (F.out (fun h=>hm h.1));clear hm F;go_wp2;go_ret;exact F2.out
 have hm':=Decidable.not_not.1 hm;rw[Xi hm'];by_cases ht0:t<0
 ·have F2:=Qd (F.out (fun h=>by have:=h.2;omega));clear hm hm' F;go_wp2;go_ret;exact F2.out
 have hmay:Uyg b c t:=⟨hm',by omega⟩;obtain⟨_,_,ha1,ha2⟩:=Umy hmay;have HMAY:=Qd hmay;obtain⟨m1,m2,m3,m4⟩:=hm';have hb0:IntKind.i64.wrap b=b:=by rw[Xf];omega
 have hb1:IntKind.i64.wrap (b+1)=b+1:=by rw[Xf];omega
 have hb2:IntKind.i64.wrap (b+2)=b+2:=by rw[Xf];omega
 have hs1:IntKind.i64.wrap (t-c)=t-c:=by rw[Xf];omega
 have hs2:IntKind.u64.wrap (t-c)=(t-c) % 18446744073709551616:=by rw[Xg]
 have hs3:IntKind.u64.wrap t=t:=by rw[Xg];omega
 have hs4:IntKind.u64.wrap (t+1)=t+1:=by rw[Xg];omega
 have hb0':wrap64 b=b:=by unfold wrap64;omega
 have hb1':wrap64 (b+1)=b+1:=by unfold wrap64;omega
 have hb2':wrap64 (b+2)=b+2:=by unfold wrap64;omega
 have hs1':wrap64 (t-c)=t-c:=by unfold wrap64;omega
 have HK0:Hid (∀x∈([⟨0,b+1,0,0,0⟩,⟨3,0,0,10,t⟩]:List Uw),x.ok):=Qd (Ui8 ⟨by simp[I64],by simp only[I64];omega,by simp[I64],by simp[I64],by simp[W64]⟩ ⟨by simp[I64],by simp[I64],by simp[I64],by simp[I64],by simp only[W64];omega⟩);have HK2:Hid (∀x∈([⟨1,b,0,0,t+1⟩,⟨6,0,0,0,1⟩]:List Uw),x.ok):=Qd (Ui8 ⟨by simp[I64],by simp only[I64];omega,by simp[I64],by simp[I64],by simp only[W64];omega⟩ ⟨by simp[I64],by simp[I64],by simp[I64],by simp[I64],by simp[W64]⟩);have HK3:Hid (∀x∈([⟨6,0,0,0,0⟩]:List Uw),x.ok):=Qd (Ut2 ⟨by simp[I64],by simp[I64],by simp[I64],by simp[I64],by simp[W64]⟩);clear hm hmay F ha1 ha2;go_wp2_with fail;refine Y7 fun W2 hW2=>?_
 have h02:Ucj W2 (.slice (some ⟨w1.heap.size,0,none⟩) 2 2) [⟨0,b+1,0,0,0⟩,⟨3,0,0,10,t⟩]:=by rw[hW2];exact Uih rfl [⟨0,b+1,0,0,0⟩,⟨3,0,0,10,t⟩] HK0.out (by simp) _
 have hb12:Below w1.heap.size w1 W2:=by rw[hW2];exact(Xb _ w1).alloc (Xa _) _
 have HB2:=Qd (Ua HB1.out hb12 HB1.out.size);clear hW2 hb12;refine(Ur9 HMAY.out).mono ?_;rintro e w3 ⟨v35,rfl,ho3,hb3⟩;obtain⟨A35,c35,hv35⟩:=ho3.form;rw[Zi] at hv35;subst hv35;have H03:=Qd (h02.below hb3);have HI3:=Qd ho3.inss;have HB3:=Qd (Ua HB2.out hb3 HB2.out.size);clear h02 ho3 hb3 HB2;go_wp2_with fail;refine Y7 fun W4 hW4=>?_
 have HP:Hid (Umf W4 (.slice (some ⟨w3.heap.size+2,0,none⟩) 4 4) [(.slice (some ⟨w1.heap.size,0,none⟩) 2 2,[⟨0,b+1,0,0,0⟩,⟨3,0,0,10,t⟩]),(.slice A35 6 c35,tab 6 (fun q:Nat=>(⟨0,atR b c t+(q:Int),1+(q:Int),0,0⟩:Uw))),(.slice (some ⟨w3.heap.size,0,none⟩) 2 2,[⟨1,b,0,0,t+1⟩,⟨6,0,0,0,1⟩]),(.slice (some ⟨w3.heap.size+1,0,none⟩) 1 1,[⟨6,0,0,0,0⟩])]):=Qd (by
  rw[hW4];refine Ut6 (by simp) [(.slice (some ⟨w1.heap.size,0,none⟩) 2 2,[⟨0,b+1,0,0,0⟩,⟨3,0,0,10,t⟩]),(.slice A35 6 c35,tab 6 (fun q:Nat=>(⟨0,atR b c t+(q:Int),1+(q:Int),0,0⟩:Uw))),(.slice (some ⟨w3.heap.size,0,none⟩) 2 2,[⟨1,b,0,0,t+1⟩,⟨6,0,0,0,1⟩]),(.slice (some ⟨w3.heap.size+1,0,none⟩) 1 1,[⟨6,0,0,0,0⟩])] (by simp) (fun x hx=>?_) _;simp only[List.mem_cons,List.not_mem_nil,or_false] at hx;rcases hx with rfl|rfl|rfl|rfl
  ·exact(H03.out.alloc _).alloc _
  ·exact(HI3.out.alloc _).alloc _
  ·exact(Uih rfl [⟨1,b,0,0,t+1⟩,⟨6,0,0,0,1⟩] HK2.out (by simp) _).alloc _
  ·exact Uih (by simp) [⟨6,0,0,0,0⟩] HK3.out (by simp) _)
 have HB4:Hid (Below w.heap.size w W4):=Qd (by
  rw[hW4]
  exact((HB3.out.alloc HB3.out.size _).alloc (by have:=HB3.out.size;simp;omega) _).alloc (by have:=HB3.out.size;simp;omega) _)
 clear hW4 H03 HI3 HB3;have hfl:([(.slice (some ⟨w1.heap.size,0,none⟩) 2 2,[⟨0,b+1,0,0,0⟩,⟨3,0,0,10,t⟩]),(.slice A35 6 c35,tab 6 (fun q:Nat=>(⟨0,atR b c t+(q:Int),1+(q:Int),0,0⟩:Uw))),(.slice (some ⟨w3.heap.size,0,none⟩) 2 2,[⟨1,b,0,0,t+1⟩,⟨6,0,0,0,1⟩]),(.slice (some ⟨w3.heap.size+1,0,none⟩) 1 1,[⟨6,0,0,0,0⟩])]:List (Value×List Uw)).flatMap (·.2)=Ui9 b c t:=by
  simp[Ui9]
 have hlen:(Ui9 b c t).length=11:=by simp[Ui9,tab]
 have hcd:=Umx HP.out (by rw[hfl,hlen];omega) (by rw[hfl,hlen];omega);rw[hfl,Uyj b c t] at hcd;refine hcd.mono ?_;rintro e w5 ⟨v5,rfl,ho5,hb5⟩;have FF:Hid (Ub4 (Uyh b c t) w (.returned v5) w5):=Qd ⟨_,rfl,by unfold Uyh;rw[if_pos HMAY.out];exact ho5.base HB4.out.size,Ua HB4.out hb5 HB4.out.size⟩;clear ho5 hb5 hcd hfl hlen;go_wp2;go_ret;exact FF.out
end Go.Proofs.YtdaflmjfeoacaaaGreat
namespace Go.Proofs.YtdaflmjfeoacaaaGreat
open Tryz
section
variable {c:List Uw} {m:List Int} {p i:Nat} {r to x:Int}
end
section
variable {b c t:Nat} {ws:List Int}
variable {m:List Int} {regs:List Int} {a:Int}
end
end Go.Proofs.YtdaflmjfeoacaaaGreat
namespace Go.Proofs.YtdaflmjfeoacaaaGreat
open Tryz
open Go.RowKit
def Uf8 (T:FT):Bool:=decide (T.t.done=true∧T.t.ans=1)
def Z3 (T:FT):List Int:=if Uf8 T then (T.t.regs.drop 1).take 6 else []
end Go.Proofs.YtdaflmjfeoacaaaGreat
namespace Go.Proofs.YtdaflmjfeoacaaaGreat
open Tryz
section
variable {b c t:Nat} {ws:List Int} {m:List Int}
end
end Go.Proofs.YtdaflmjfeoacaaaGreat
namespace Go.Proofs.YtdaflmjfeoacaaaGreat
open Tryz
open Go.RowKit
def Usa (b ver:Int)(ws:List Int)(q:Nat):Uw:=if q=0 then ⟨1,b,0,0,ver+1⟩ else if q≤ws.length then ⟨1,b+(q:Int),0,0,ws.getD (q-1) 0⟩ else if q=ws.length+1 then ⟨1,b,0,0,ver+2⟩ else ⟨6,0,0,0,1⟩
theorem U44 (b ver:Int)(ws:List Int):onL (tab (ws.length+3) (Usa b ver ws))=Ua1 b ver ws:=by
 refine Ux3 fun q hq=>?_
 unfold onI Usa Ug0;split
 ·rename_i h;subst h;simp
 ·split
  ·simp
  ·split
   ·rename_i h;simp;omega
   ·rw[if_pos rfl];simp only[Uw.mk.injEq,true_and,and_true];omega
theorem Uyl {b ver:Int}{ws:List Int}(h:U36 b ver ws.length)(hv:I64 ver)(hw:∀x∈ws,W64 x)(q:Nat):(Usa b ver ws q).ok:=by
 obtain⟨h1,h2,h3,h4,h5,h6⟩:=h;unfold I64 at hv;unfold Usa;split
 ·exact⟨by simp[I64],by simp only[I64];omega,by simp[I64],by simp[I64],by simp only[W64];omega⟩
 ·split
  ·refine⟨by simp[I64],by simp only[I64];omega,by simp[I64],by simp[I64],?_⟩;exact hw _ (Ufe (by omega))
  ·split
   ·exact⟨by simp[I64],by simp only[I64];omega,by simp[I64],by simp[I64],by simp only[W64];omega⟩
   ·exact⟨by simp[I64],by simp[I64],by simp[I64],by simp[I64],by simp[W64]⟩
theorem Uj5 {b ver:Int}{n:Nat}:U36 b ver n↔Uog b (n:Int)∧0≤ver∧ver % 2=0:=by unfold U36 Uog;omega
set_option maxRecDepth 20000 in
theorem Uym {v:Value}{b ver:Int}{ws:List Int}{w:World}(hv:I64 ver)(h:Yx w v ws) :
  Calls prog 90 #[.int .i64 b,.int .i64 ver,v] w (Ub4 (Uep b ver ws) w):=by
 obtain⟨B,d,rfl,hd1,hd2,_⟩:=h.1.form;unfold maxLen at hd2;have H:=Qd h;have HV:=Qd hv;have hv':=hv;unfold I64 at hv';clear h hv;go_enter func90,ntmps90;go_wp2_with fail;refine(Ut4 b (ws.length:Int) w).mono ?_;rintro e w1 ⟨rfl,hb1⟩;have HB1:=Qd hb1;clear hb1;have F:Hid (¬U36 b ver ws.length→Ub4 (Uep b ver ws) w (.returned (.slice none 0 0)) w1):=Qd fun hn=>⟨_,rfl,by unfold Uep;rw[if_neg hn];exact Uc6.nil _ _,HB1.out⟩
 by_cases hmb:¬Uog b (ws.length:Int)
 ·rw[Xh hmb];have F2:=Qd (F.out (fun h=>hmb (Uj5.1 h).1));clear hmb F;go_wp2;go_ret;exact F2.out
 have hmb':=Decidable.not_not.1 hmb;rw[Xi hmb'];by_cases hv0:ver<0
 ·have F2:=Qd (F.out (fun h=>by have:=(Uj5.1 h).2.1;omega));clear hmb hmb' F;go_wp2;go_ret;exact F2.out
 have htm:ver.tmod 2=ver % 2:=Int.tmod_eq_emod_of_nonneg (by omega);have hwt:IntKind.i64.wrap (ver % 2)=ver % 2:=by rw[Xf];omega
 by_cases hev:¬ver % 2=0
 ·have hne:(ver % 2 != 0)=true:=by simpa using hev
  have F2:=Qd (F.out (fun h=>hev (Uj5.1 h).2.2));clear hmb hmb' F;go_wp2;go_ret;exact F2.out
 have hev':=Decidable.not_not.1 hev;have hmay:U36 b ver ws.length:=Uj5.2 ⟨hmb',by omega,hev'⟩;have hm':=hmay;obtain⟨m1,m2,m3,m4,m5,m6⟩:=hm';have HMAY:=Qd hmay;have hc1:IntKind.u64.wrap ver=ver:=by rw[Xg];omega
 have hc2:IntKind.u64.wrap (ver+1)=ver+1:=by rw[Xg];omega
 have hc3:IntKind.u64.wrap (ver+2)=ver+2:=by rw[Xg];omega
 have hb1:IntKind.i64.wrap (b+1)=b+1:=by rw[Xf];omega
 rw[hev'] at htm;have HW64:=Qd H.out.2;have hlen:(ws.length:Int)≤28:=by omega
 have H1:=Qd (H.out.below HB1.out)
 have HR0:Hid (∀o,o=Obj.cells #[.int .i64 1,.int .i64 b,.int .i64 0,.int .i64 0,.int .u64 (ver+1)] 162→Zf w1 (tab 1 (Usa b ver ws)) (.slice (some ⟨w1.heap.size,0,none⟩) 1 1) (w1.alloc o)):=Qd (fun o ho=>by
  subst ho;have h0:tab 1 (Usa b ver ws)=[⟨1,b,0,0,ver+1⟩]:=by simp[tab,Usa]
  refine⟨⟨?_,?_⟩,(Xb _ w1).alloc (Xa _) _⟩
  ·rw[h0];exact Yt w1 162 5 #[.int .i64 1,.int .i64 b,.int .i64 0,.int .i64 0,.int .u64 (ver+1)] 1 rfl (by decide)
  ·intro x hx;obtain⟨q,_,rfl⟩:=Ukp hx
   exact Uyl HMAY.out HV.out HW64.out q)
 clear hmb hmb' hev F hev' hmay;go_wp2_with fail;go_loopw [7,32] (fun v7 i wr=>∃k:Nat,k≤ws.length∧i = .int .i64 (k:Int)∧Hid (Zf w1 (tab (k+1) (Usa b ver ws)) v7 wr)) (fun _ i _=>ws.length-(intOf i).toNat)
 case atStart=>exact⟨0,Nat.zero_le _,rfl,Qd (HR0.out _ rfl)⟩
 case round =>
  clear HR0;obtain⟨k,hk,rfl,HR⟩:=hrel;obtain⟨A7,c7,hv7⟩:=HR.out.1.form;rw[Zi] at hv7;subst hv7;by_cases hlt:k<ws.length
  ·have hki:(k:Int)<(ws.length:Int):=by omega
   obtain⟨bb,oo,rfl,_,p0⟩:=(H1.out.below HR.out.2).at_ rfl hlt;have hraw:Usa b ver ws (k+1)=⟨1,b+1+(k:Int),0,0,ws.getD k 0⟩:=by
    unfold Usa;rw[if_neg (by omega),if_pos (by omega)];simp only[Uw.mk.injEq,true_and,Nat.add_sub_cancel,and_true];omega
   have hw1:IntKind.i64.wrap (b+1+(k:Int))=b+1+(k:Int):=by rw[Xf];omega
   have hok:∀x∈([⟨1,b+1+(k:Int),0,0,ws.getD k 0⟩]:List Uw),x.ok:=by
    intro x hx;simp at hx;rw[hx];have:=Uyl HMAY.out HV.out HW64.out (k+1);rw[hraw] at this;simpa using this
   have hsucc:tab (k+1+1) (Usa b ver ws)=tab (k+1) (Usa b ver ws)++[⟨1,b+1+(k:Int),0,0,ws.getD k 0⟩]:=by rw[Ua5,hraw]
   generalize ws.getD k 0=x at *;have HOK:=Qd hok;have HS:=Qd hsucc;clear hraw hok hsucc;go_wp2_with (at_builtin;refine Ubc HR.out [⟨1,b+1+(k:Int),0,0,x⟩] HOK.out (k+1+1) (by rw[Zi];rfl) (by omega) rfl _ _ rfl rfl rfl ?_);intro A8 c8 w3 R30;have R3:=Qd R30;clear R30;rw[←HS.out] at R3;go_wp2;go_roundw
   case rel=>exact⟨k+1,by omega,by go_num,R3⟩
   case measure=>simp[intOf];omega
  ·have hki:¬(k:Int)<(ws.length:Int):=by omega
   have hke:k=ws.length:=by omega
   subst hke;have hok:∀x∈([⟨1,b,0,0,ver+2⟩,⟨6,0,0,0,1⟩]:List Uw),x.ok:=by
    intro x hx;simp at hx;rcases hx with rfl|rfl
    ·exact⟨by simp[I64],by simp only[I64];omega,by simp[I64],by simp[I64],by simp only[W64];omega⟩
    ·exact⟨by simp[I64],by simp[I64],by simp[I64],by simp[I64],by simp[W64]⟩
   have hsucc:tab (ws.length+3) (Usa b ver ws)=tab (ws.length+1) (Usa b ver ws)++[⟨1,b,0,0,ver+2⟩,⟨6,0,0,0,1⟩]:=by
    rw[Ua5,Ua5,List.append_assoc]
    congr 1
    unfold Usa;rw[if_neg (by omega),if_neg (by omega),if_pos rfl,if_neg (by omega),if_neg (by omega),if_neg (by omega)]
    rfl
   have HOK:=Qd hok;have HS:=Qd hsucc;clear hok hsucc;go_wp2_with (at_builtin;refine Ubc HR.out [⟨1,b,0,0,ver+2⟩,⟨6,0,0,0,1⟩] HOK.out (ws.length+3) (by rw[Zi];rfl) (by omega) rfl _ _ rfl rfl rfl ?_);intro A8 c8 w3 R30;have R3:=Qd R30;clear R30;rw[←HS.out] at R3;go_wp2_with fail;have hon:=Ukw R3.out.1 (by rw[Zi];omega);refine hon.mono ?_;rintro e w4 ⟨rfl,ho4,hg4⟩
   have F:Hid (Ub4 (Uep b ver ws) w (.returned (.slice A8 (ws.length+3) c8)) w4):=Qd (by
    refine⟨_,rfl,?_,?_⟩
    ·rw[U44] at ho4;unfold Uep;rw[if_pos HMAY.out];exact ho4.base HB1.out.size
    ·have hb3:Below w.heap.size w w3:=Ua HB1.out R3.out.2 HB1.out.size
     exact hb3.grown hg4 hb3.size (fun j hj=>by have:=(R3.out.1.1.lt j hj).1;have:=HB1.out.size;omega))
   clear hon ho4 hg4;go_wp2;go_ret;exact F.out
end Go.Proofs.YtdaflmjfeoacaaaGreat
namespace Go.Proofs.YtdaflmjfeoacaaaGreat
open Tryz
open Go.RowKit
end Go.Proofs.YtdaflmjfeoacaaaGreat
