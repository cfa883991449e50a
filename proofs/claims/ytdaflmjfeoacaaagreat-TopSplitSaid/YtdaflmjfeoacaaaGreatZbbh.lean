/- Part of the proof of TopTry, TopSplit: MeH. Conditions: none. -/
import Derived.Test.YtdaflmjfeoacaaaGreatZbbe
set_option linter.all false
set_option maxHeartbeats 16000000
set_option maxRecDepth 4000
namespace Go.Proofs.YtdaflmjfeoacaaaGreat
open Tryz
open Go.RowKit
theorem Uca {P:Program}{fn:Func}{p p' q:Tmp}{ty ty':TypeId}(h:fn.results=#[.cell p ty,.cell p' ty',.tmp q])(tmps:Array Value)(w:World)(g g':Nat)(t t':TypeId)(cs cs':Array Value)(fr fr':Nat×Nat)(d d':TypeDesc)
  (hp:tmps.getD p undef = .pointer (some ⟨g,0,none⟩)) (hg:w.heap[g]? = some (.cells cs t fr)) (hu:P.underlying ty=some d) (hd:(match d with | .struct _ | .array _ _=>true|_=>false)=true) (hi:(P.info? ty).map (·.size)=some cs.size)
  (hp':tmps.getD p' undef = .pointer (some ⟨g',0,none⟩)) (hg':w.heap[g']? = some (.cells cs' t' fr')) (hu':P.underlying ty'=some d') (hd':(match d' with | .struct _ | .array _ _=>true|_=>false)=true) (hi':(P.info? ty').map (·.size)=some cs'.size) :
  (results fn tmps).run P w = .ok (.tuple #[.agg cs,.agg cs',tmps.getD q undef]) w:=by
 have hp2:tmps[p]?.getD undef = .pointer (some ⟨g,0,none⟩):=by simpa using hp
 have hp3:tmps[p']?.getD undef = .pointer (some ⟨g',0,none⟩):=by simpa using hp'
 simp[results,h,hp2,hp3,asAddr,run_loadVar_row w g t ty cs fr d hg hu hd hi,run_loadVar_row w g' t' ty' cs' fr' d' hg' hu' hd' hi']
theorem U4k {vs:List Value}(hv:vs.length=4){j:Nat}(hj:j<4):∀w,(Instr.index 42 (.agg vs.toArray) (.int .i64 (j:Int))).run prog w = .ok (vs.getD j (.bool false)) w:=by
 obtain⟨a,b,c,d,rfl⟩:=Uz1 hv;rcases (show j=0∨j=1∨j=2∨j=3 by omega) with rfl|rfl|rfl|rfl
 ·exact(Uz0 a b c d).1
 ·exact(Uz0 a b c d).2.1
 ·exact(Uz0 a b c d).2.2.1
 ·exact(Uz0 a b c d).2.2.2
def U0h (b off n c:Nat):Value := .slice (if c=1 then some ⟨b,off,none⟩ else some ⟨b,off+5,none⟩) (n-1) (c-1)
theorem SmX.tail {X:Nat→Prop}{w:World}{b off n c:Nat}{l:List Smp}(h:SmX X w (.slice (some ⟨b,off,none⟩) n c) l)(hn:n=l.length)(hl:0<l.length):SmX X w (U0h b off n c) (l.drop 1):=by
 subst hn;obtain⟨b',off',c',e,h1,h2,h3,h4,h5⟩:=h.drop hl;injection e with e1 _ e3
 injection e1 with e1
 injection e1 with e1 e2
 subst e1 e2 e3;unfold U0h;by_cases h0:c=1
 ·rw[if_pos h0];subst h0;have hl1:l.length=1:=by omega
  have hd:l.drop 1=[]:=List.eq_nil_of_length_eq_zero (by rw[List.length_drop];omega);rw[hd,hl1]
  exact⟨⟨rfl,_,_,rfl,Xa _,by decide,(fun e=>by cases e),fun hh=>absurd hh (by decide)⟩,fun a m c' e hn hx=>by
   injection e with _ e2 _
   omega⟩
 ·rw[if_neg h0];exact h5 h1
structure NxR (w:World) (cs:Array Value) (W:World):Prop where
 m:Box W w.heap.size 45 cs
 r:Box W (w.heap.size+1) 45 mz
 s:Box W (w.heap.size+1+1) 40 #[.int .i64 0,.int .i64 0,.int .i64 0,.int .i64 0,.int .i64 0]
 below:Below w.heap.size w W
section
variable {w W W':World} {cs cs':Array Value}
theorem NxR.kept (H:NxR w cs W)(hb:Below W.heap.size W W'):NxR w cs W':=⟨H.m.kept hb,H.r.kept hb,H.s.kept hb,Ua H.below hb H.below.size⟩
theorem NxR.drew (H:NxR w cs W):NxR w cs W.drew:=⟨H.m.drew,H.r.drew,H.s.drew,Ue H.below 1⟩
theorem NxR.new (w:World)(cs:Array Value):NxR w cs (((w.alloc (.cells cs 45)).alloc (.cells mz 45)).alloc (.cells #[.int .i64 0,.int .i64 0,.int .i64 0,.int .i64 0,.int .i64 0] 40)) :=
 ⟨((Box.new w _ _).alloc _).alloc _,(Box.at_ (by simp) _ _).alloc _,Box.at_ (by simp) _ _,(((Xb _ w).alloc (Xa _) _).alloc (by simp) _).alloc (by simp;omega) _⟩
theorem NxR.put (H:NxR w cs W){o:Nat}{u:Value}(hb:Box (W.setCell ⟨w.heap.size,o,none⟩ u) w.heap.size 45 cs'):NxR w cs' (W.setCell ⟨w.heap.size,o,none⟩ u) :=
 ⟨hb,H.r.far (by simp) _,H.s.far (by simp;omega) _,H.below.setCell (Xa _) _⟩
theorem NxR.puts (H:NxR w cs W){o:Nat}{us:List Value}(hb:Box (W.setCells w.heap.size o us) w.heap.size 45 cs'):NxR w cs' (W.setCells w.heap.size o us) :=
 ⟨hb,H.r.farCells (by omega) _ _,H.s.farCells (by omega) _ _,Below.setCells H.below H.below.size (Xa _) _ _⟩
end
def NxS (w:World)(cs:Array Value)(W:World):Prop:=Box W w.heap.size 45 cs∧(∃r,Box W (w.heap.size+1) 45 r∧r.size=19)∧(∃s,Box W (w.heap.size+1+1) 40 s∧s.size=5)∧Below w.heap.size w W
theorem SmX.head {X:Nat→Prop}{w:World}{A:Option Addr}{n c:Nat}{l:List Smp}(h:SmX X w (.slice A n c) l)(hl:l.length≠0):∃b off,A=some ⟨b,off,none⟩∧b<w.heap.size∧w.rangeAt b off (sml (Yl l)):=by
 obtain⟨b,off,e,hb,_,hr⟩:=h.at_ (Uox hl);exact⟨b,off,e,hb,by simpa using hr⟩
theorem Ua9 {w W:World}{b off:Nat}{ls:List Value}(h:w.rangeAt b off ls)(hb:b<w.heap.size)(hw:Below w.heap.size w W):W.rangeAt b off ls:=fun j u hu=>(hw.cell (p:=⟨b,off+j,none⟩) hb).trans (h j u hu)
def Uq1 (X:Nat→Prop)(m:Mrg)(s:Smp)(ok:Bool)(w:World)(e:Ending)(w':World):Prop:=∃vs,e = .returned (.tuple #[mv m vs,Udr s,.bool ok])∧QsX X w' vs m∧Below w.heap.size w w'
def Uji (q:List (List Smp))(j:Nat)(f:Int)(u:Bool):Prop:=Zx q j=(f,u)
theorem Uwt {X:Nat→Prop}{m:Mrg}{vs:List Value}{w:World}(h:QsX X w vs m)(hs:Uaz m)(hst:Uc7 m):Calls prog 80 #[mv m vs] w (Uq1 X m Ujx false w):=by
 have KK:Hid (∀W,Below w.heap.size w W→Calls prog 77 #[mv m vs] W (Ub (mv m vs) W)):=Qd (fun W hb=>Ud1 (h.below hb) hs);have HM:Hid ((prog.info? 45).map (·.size)=some (mcs m vs).size):=Qd (Uaj h.len h.nl);have HO:=Qd (Uah h);have HZ:Hid (mz.size=(mcs m vs).size):=Qd (Uir.trans (Uaf h.len h.nl).symm);have CQS:Hid (∀W,Box W w.heap.size 45 (mcs m vs)→W.rangeAt w.heap.size 7 vs):=Qd (fun W H=>U8t H);have CM:Hid (∀W,Box W w.heap.size 45 (mcs m vs)→W.cell? ⟨w.heap.size,0,none⟩=some (.int .i64 m.mark)):=Qd (fun W H=>Uuk H);have CQ0:Hid (∀(k:Nat) W,k<4→Box W w.heap.size 45 (mcs m vs)→W.cell? ⟨w.heap.size,7+k,none⟩=some (vs.getD k (.bool false))):=Qd (fun k W hk H=>m_q H h.len hk);have HV4:Hid ((prog.info? 42).map (·.size)=some vs.length):=Qd (by rw[h.len];kernel_rfl);have HIX:=Qd (fun(j:Nat) (hj:j<4)=>U4k h.len hj);have HQ:=Qd h;have HST:=Qd hst;clear hst;dsimp only[mv] at KK ⊢;clear h hs;go_enter func80,ntmps80;go_upto_region 1 with fail
 refine Uq fun W0 hW0=>?_
 have D1:Hid (NxR w (mcs m vs) W0):=Qd (by rw[hW0];exact NxR.new w (mcs m vs));clear hW0;go_wp2_with (with_reducible first|refine Qh 45 ?_|refine Qg 45 ?_|refine Qi 42 ?_);refine Uo.go w.heap.size rfl D1.out.m underlying45 rfl HM.out ?_;go_wp2_with fail;refine(KK.out _ D1.out.below).mono ?_;rintro e w1 ⟨rfl,hb⟩;have D2:=Qd (D1.out.kept hb);clear hb D1 KK;go_wp2_with (with_reducible first|refine Qh 45 ?_|refine Qg 45 ?_|refine Qi 42 ?_);refine Uf.go w.heap.size rfl rfl D2.out.m HM.out rfl HO.out ?_;go_upto_region 2 with fail
 refine Uq fun W2 hW2=>?_
 have D3:Hid (NxR w (mcs m vs) W2):=Qd (by rw[hW2];exact⟨D2.out.m.row _,D2.out.r.row_far (by omega) _,D2.out.s.row_far (by omega) _,Uc D2.out.below (Xa _) _⟩);clear hW2 D2;go_wp2_with (with_reducible first|refine Qh 45 ?_|refine Qg 45 ?_|refine Qi 42 ?_);refine Ubl.go rfl w.heap.size 7 rfl (CQS.out _ D3.out.m) underlying42 rfl HV4.out ?_;go_wp2_with fail;go_loopw [5,6,13] (fun fv uv i wr=>∃(j:Nat) (f:Int) (u:Bool),j≤4∧i = .int .i64 (j:Int)∧fv = .int .i64 f∧uv = .bool u∧Hid (Uji m.q j f u)∧Hid (NxR w (mcs m vs) wr)) (fun _ _ i _=>4-(intOf i).toNat)
 case atStart=>exact⟨0,-1,true,by omega,rfl,rfl,rfl,Qd rfl,D3⟩
 case round =>
  obtain⟨j,f,u,hj,rfl,rfl,rfl,HP,HR⟩:=hrel;by_cases hlt:j<4
  ·have ixj:=HIX.out j hlt;obtain⟨A,c,e0,hc1,hc2,-⟩:=(HQ.out.at_ j hlt).1.form;unfold maxLen at hc2;rw[e0] at ixj;have HJ:Hid (SmX X w (.slice A (m.q.getD j []).length c) (m.q.getD j [])):=Qd (by rw[←e0];exact HQ.out.at_ j hlt)
   have HPN:Hid (Zx m.q (j+1)=if (m.q.getD j []).length=0 then (f,false) else if f<0∨Uaa (Yl (m.q.getD j [])) (Yl (m.q.getD f.toNat []))=true then ((j:Int),u) else (f,u)):=Qd (by
    have hp:=HP.out;unfold Uji at hp;show(if _ then _ else _)=_
    rw[hp])
   have HSP:=Qd (Udt m.q j);have hp1:(Zx m.q j).1=f:=by have hp:=HP.out;unfold Uji at hp;rw[hp]
   rw[hp1] at HSP;have hji:(j:Int)<4:=by omega
   have hj0:(0:Int)≤(j:Int):=by omega
   clear e0 hp1;generalize m.q.getD j []=lj at *;obtain⟨n,hn⟩:∃n,lj.length=n:=⟨_,rfl⟩;rw[hn] at ixj hc1;by_cases hn0:n=0
   ·have e1:((n:Int)==0)=true:=by simp[hn0]
    have HN:Hid (Zx m.q (j+1)=(f,false)):=Qd (by rw[HPN.out,if_pos (by rw[hn];exact hn0)]);clear hn HJ HPN HSP hn0;go_wp2_with fail;go_roundw
    case rel=>exact⟨j+1,f,false,by omega,by go_num,rfl,rfl,HN,HR⟩
    case measure=>simp[intOf];omega
   ·have e1:((n:Int)==0)=false:=by simp;omega
    have hpos:0<n:=by omega
    obtain⟨b,off,rfl,hbl,hr1⟩:=HJ.out.head (by rw[hn];exact hn0);have H1:Hid (∀W,Below w.heap.size w W→W.rangeAt b off (sml (Yl lj))):=Qd (fun W hb=>Ua9 hr1 hbl hb);by_cases hf:f<0
    ·have d1:decide (f<0)=true:=Xi hf;have HN:Hid (Zx m.q (j+1)=((j:Int),u)):=Qd (by rw[HPN.out,if_neg (by rw[hn];exact hn0),if_pos (Or.inl hf)]);clear hn HJ HPN HSP hn0 hr1 H1 hf;go_upto_region 8 with fail
     refine Xm (S:=fun w'=>NxR w (mcs m vs) w') (by kernel_rfl) HR.out.drew (fun hHeld=>?_);refine Qn 0 (.int .i64 f) ?_;refine Qn 1 (.bool true) ?_;refine Qn 2 (.bool true) ?_;refine Qm 3 ?_;refine Qm 4 ?_;refine Qm 5 ?_;refine Qm 6 ?_;refine Qm 7 ?_;refine Qm 8 ?_;refine Qm 9 ?_;refine Qm 10 ?_;refine Qm 11 ?_;refine Qm 12 ?_;refine Qn 13 (.bool true) ?_;refine Qn 14 (.bool true) ?_;refine Xl (by kernel_rfl) ?_ _;clear hHeld;go_wp2_with fail;go_roundw
     case rel=>exact⟨j+1,(j:Int),u,by omega,by go_num,rfl,rfl,HN,Qd HR.out.drew⟩
     case measure=>simp[intOf];omega
    ·obtain⟨fn,hfn,hfl,hfj⟩:∃fn:Nat,f=(fn:Int)∧(m.q.getD fn []).length≠0∧fn<j:=by
      rcases HSP.out with ⟨a,_,_⟩|⟨fn,a,b,c,_⟩
      ·exact absurd a hf
      ·exact⟨fn,a,c,b⟩
     subst hfn;have htn:((fn:Int)).toNat=fn:=Int.toNat_natCast fn;rw[htn] at HPN;obtain⟨A2,c2,e2,hc3,hc4,-⟩:=(HQ.out.at_ fn (by omega)).1.form;unfold maxLen at hc4;have HF:Hid (SmX X w (.slice A2 (m.q.getD fn []).length c2) (m.q.getD fn [])):=Qd (by rw[←e2];exact HQ.out.at_ fn (by omega));have CQF:Hid (∀W,Box W w.heap.size 45 (mcs m vs)→W.cell? ⟨w.heap.size,7+fn,none⟩=some (.slice A2 (m.q.getD fn []).length c2)):=Qd (fun W H=>by rw[←e2];exact CQ0.out fn W (by omega) H);obtain⟨b2,off2,rfl,hbl2,hr2⟩:=HF.out.head hfl;have H2:Hid (∀W,Below w.heap.size w W→W.rangeAt b2 off2 (sml (Yl (m.q.getD fn [])))):=Qd (fun W hb=>Ua9 hr2 hbl2 hb);have KB:=Qd (fun w=>Uey (Yl lj) (Yl (m.q.getD fn [])) w);have ea:Udr (Yl lj) = .agg (sml (Yl lj)).toArray:=rfl;have eb:Udr (Yl (m.q.getD fn [])) = .agg (sml (Yl (m.q.getD fn []))).toArray:=rfl;rw[ea,eb] at KB;have hn2:0<(m.q.getD fn []).length:=by omega
     have S5:Hid ((prog.info? 40).map (·.size)=some (sml (Yl lj)).length):=Qd Ye;have S6:Hid ((prog.info? 40).map (·.size)=some (sml (Yl (m.q.getD fn []))).length):=Qd Ye;clear ea eb hr1 hr2 HF HJ HSP e2 hfl htn;generalize m.q.getD fn []=lf at *;generalize lf.length=n2 at *;have d1:decide ((fn:Int)<0)=false:=Xh hf;have hf0:(0:Int)≤(fn:Int):=by omega
     have hf4:(fn:Int)<4:=by omega
     cases hb:Uaa (Yl lj) (Yl lf);rotate_right
     focus
      have HN:Hid (Zx m.q (j+1)=((j:Int),u)):=Qd (by rw[HPN.out,if_neg (by rw[hn];exact hn0),if_pos (Or.inr hb)])
     rotate_right
     focus
      have HN:Hid (Zx m.q (j+1)=((fn:Int),u)):=Qd (by rw[HPN.out,if_neg (by rw[hn];exact hn0),if_neg (by rw[hb];simp)])
     all_goals
      rw[hb] at KB;clear hn HPN hn0 hb hf;generalize sml (Yl lj)=ls1 at *;generalize sml (Yl lf)=ls2 at *;go_upto_region 8 with fail
      refine Xm (S:=fun w'=>NxR w (mcs m vs) w') (by kernel_rfl) HR.out.drew (fun hHeld=>?_);refine Qn 0 (.int .i64 (fn:Int)) ?_;refine Qn 1 (.bool false) ?_;refine Qn 2 (.bool false) ?_;refine Qn 3 (.slice (some ⟨b,off,none⟩) n c) ?_;refine Qn 4 (.pointer (some ⟨b,off,none⟩)) ?_;refine Ux (i:=5) (v := .agg (ls1).toArray) rfl rfl (by kernel_rfl) (by kernel_rfl) (by kernel_rfl) (fun _ _ _ h=>h)
       (Xn (by rfl) 40 _ rfl (b) (off) rfl (ls1) _ (fun _ h=>H1.out _ h.below) underlying40 rfl S5.out) hHeld ?_
      simp only[Qz];refine Qn 6 (.int .i64 (fn:Int)) ?_;refine Qn 7 (.pointer (some ⟨w.heap.size,7,none⟩)) ?_;refine Qn 8 (.pointer (some ⟨w.heap.size,7+fn,none⟩)) ?_;refine Qe 9 (.slice (some ⟨b2,off2,none⟩) n2 c2) (fun w hw=>?_) ?_
      ·have x7:=CQF.out _ hw.m;go_simp
      simp only[Qz];refine Qn 10 (.pointer (some ⟨b2,off2,none⟩)) ?_;refine Ux (i:=11) (v := .agg (ls2).toArray) rfl rfl (by kernel_rfl) (by kernel_rfl) (by kernel_rfl) (fun _ _ _ h=>h)
       (Xn (by rfl) 40 _ rfl (b2) (off2) rfl (ls2) _ (fun _ h=>H2.out _ h.below) underlying40 rfl S6.out) hHeld ?_
      simp only[Qz];refine Qc 12 fun KQ hKQ=>?_
      go_simp;refine(KB.out _).mono ?_;rintro e w3 ⟨rfl,hb⟩;have R2:=Qd (HR.out.drew.kept hb);clear hb;refine hKQ.out _ _ (R2.out) (fun hHeld=>?_);clear hKQ KQ
     ·refine Qn 13 (.bool false) ?_;refine Qn 14 (.bool false) ?_;refine Xl (by kernel_rfl) ?_ _;clear hHeld;go_wp2_with fail;go_roundw
      case rel=>exact⟨j+1,(fn:Int),u,by omega,by go_num,rfl,rfl,HN,R2⟩
      case measure=>simp[intOf];omega
     ·refine Qn 13 (.bool true) ?_;refine Qn 14 (.bool true) ?_;refine Xl (by kernel_rfl) ?_ _;clear hHeld;go_wp2_with fail;go_roundw
      case rel=>exact⟨j+1,(j:Int),u,by omega,by go_num,rfl,rfl,HN,R2⟩
      case measure=>simp[intOf];omega
  ·have hge:¬(j:Int)<4:=by omega
   obtain rfl:j=4:=by omega
   have hp:=HP.out;unfold Uji at hp;have hst:=HST.out;unfold Uc7 at hst;rw[hp] at hst;dsimp only at hst;have HSP:=Qd (Udt m.q 4);rw[hp] at HSP;clear hp hlt;by_cases hf:f<0;rotate_right
   focus
    obtain⟨fn,hfn,hfl,hfj⟩:∃fn:Nat,f=(fn:Int)∧(m.q.getD fn []).length≠0∧fn<4:=by
     rcases HSP.out with ⟨a,_,_⟩|⟨fn,a,b,c,_⟩
     ·exact absurd a hf
     ·exact⟨fn,a,c,b⟩
    subst hfn;rw[Int.toNat_natCast] at hst;obtain⟨rfl,hgt⟩:u=false∧m.mark<(Yl (m.q.getD fn [])).t:=by
     rcases hst with h1|h1
     ·exact absurd h1 hf
     ·exact h1
    obtain⟨A2,c2,e2,hc3,hc4,-⟩:=(HQ.out.at_ fn hfj).1.form;unfold maxLen at hc4;have HF:Hid (SmX X w (.slice A2 (m.q.getD fn []).length c2) (m.q.getD fn [])):=Qd (by rw[←e2];exact HQ.out.at_ fn hfj);have CQF:Hid (∀W,Box W w.heap.size 45 (mcs m vs)→W.cell? ⟨w.heap.size,7+fn,none⟩=some (.slice A2 (m.q.getD fn []).length c2)):=Qd (fun W H=>by rw[←e2];exact CQ0.out fn W hfj H);obtain⟨b2,off2,rfl,hbl2,hr2⟩:=HF.out.head hfl;have CH:Hid (∀W,Below w.heap.size w W→W.cell? ⟨b2,off2,none⟩=some (.int .i64 (Yl (m.q.getD fn [])).t)):=Qd (fun W hb=>Ua9 hr2 hbl2 hb 0 _ rfl);have hn2:0<(m.q.getD fn []).length:=by omega
    have d1:decide ((fn:Int)<0)=false:=Xh hf;have hf0:(0:Int)≤(fn:Int):=by omega
    have hf4:(fn:Int)<4:=by omega
    have d2:decide (m.mark<(Yl (m.q.getD fn [])).t)=true:=Xi hgt;clear hr2 HF e2 hfl hst HSP hgt hf;generalize (Yl (m.q.getD fn [])).t=ht at *;generalize (m.q.getD fn []).length=n2 at *;generalize m.mark=mk at *
   rotate_right
   focus
    have d1:decide (f<0)=true:=Xi hf;clear hf hst HSP
   all_goals
    go_upto_region 11 with fail
    refine Xm (S:=fun w'=>NxR w (mcs m vs) w') (by kernel_rfl) HR.out.drew (fun hHeld=>?_)
   rotate_right
   focus
    refine Qn 0 (.int .i64 (fn:Int)) ?_;refine Qn 1 (.bool false) ?_;refine Qn 2 (.bool false) ?_;refine Qn 3 (.bool false) ?_;refine Qn 4 (.bool true) ?_;refine Qn 5 (.bool true) ?_;refine Qn 6 (.int .i64 (fn:Int)) ?_;refine Qn 7 (.pointer (some ⟨w.heap.size,7,none⟩)) ?_;refine Qn 8 (.pointer (some ⟨w.heap.size,7+fn,none⟩)) ?_;refine Qe 9 (.slice (some ⟨b2,off2,none⟩) n2 c2) (fun w hw=>?_) ?_
    ·have x7:=CQF.out _ hw.m;go_simp
    simp only[Qz];refine Qn 10 (.pointer (some ⟨b2,off2,none⟩)) ?_;refine Qn 11 (.pointer (some ⟨b2,off2,none⟩)) ?_;refine Qe 12 (.int .i64 ht) (fun w hw=>?_) ?_
    ·have xh:=(CH.out _ hw.below);go_simp
    simp only[Qz];refine Qn 13 (.pointer (some ⟨w.heap.size,0,none⟩)) ?_;refine Qe 14 (.int .i64 mk) (fun w hw=>?_) ?_
    ·have xm:=CM.out _ hw.m;go_simp
    simp only[Qz];refine Qn 15 (.bool true) ?_;refine Qn 16 (.bool true) ?_
   rotate_right
   focus
    refine Qn 0 (.int .i64 f) ?_;refine Qn 1 (.bool true) ?_;refine Qn 2 (.bool true) ?_;refine Qm 3 ?_;refine Qm 4 ?_;refine Qm 5 ?_;refine Qm 6 ?_;refine Qm 7 ?_;refine Qm 8 ?_;refine Qm 9 ?_;refine Qm 10 ?_;refine Qm 11 ?_;refine Qm 12 ?_;refine Qm 13 ?_;refine Qm 14 ?_;refine Qm 15 ?_;refine Qm 16 ?_
   all_goals
    refine Qn 17 (.bool true) ?_;refine Xl (by kernel_rfl) ?_ _;clear hHeld;refine Yn fun W8 hW8=>?_
    have R8:Hid (NxR w (mcs m vs) W8):=Qd (by rw[hW8];exact HR.out.drew);clear hW8;go_wp2_with (with_reducible first|refine Qg 45 ?_|refine Qh 45 ?_|refine Qh 40 ?_);refine Uo.go w.heap.size rfl R8.out.m underlying45 rfl HM.out ?_;go_wp2_with (with_reducible first|refine Qh 45 ?_|refine Qh 40 ?_);refine Uf.go (w.heap.size+1) rfl rfl R8.out.r HM.out HZ.out HO.out ?_;go_wp2_with (with_reducible first|refine Qh 40 ?_);refine Uf.go (w.heap.size+1+1) rfl rfl (R8.out.s.row_far (by omega) _) Ye rfl (by simp[Value.oneCell']) ?_;go_wp2_with fail;exact Xk (Uca results80 _ _ (w.heap.size+1) (w.heap.size+1+1) 45 40 _ _ (0,0) (0,0) _ _ rfl ((R8.out.r.row _).row_far (by omega) _) underlying45 rfl HM.out rfl ((R8.out.s.row_far (by omega) _).row _) underlying40 rfl Ye) rfl (⟨vs,rfl,HQ.out.below (Uc (Uc R8.out.below (by omega) _) (by omega) _),Uc (Uc R8.out.below (by omega) _) (by omega) _⟩)
theorem U3b {X:Nat→Prop}{m:Mrg}{vs:List Value}{w:World}(h:QsX X w vs m)(hs:Uaz m)(hst:¬Uc7 m){m2:Mrg}{hd:Smp}(hm2:Uc8 m (Ubs m)=m2)(hhd:Yl (m.q.getD (Ubs m) [])=hd):Calls prog 80 #[mv m vs] w (Uq1 X m2 hd true w):=by
 have KK:Hid (∀W,Below w.heap.size w W→Calls prog 77 #[mv m vs] W (Ub (mv m vs) W)):=Qd (fun W hb=>Ud1 (h.below hb) hs);have HM:Hid ((prog.info? 45).map (·.size)=some (mcs m vs).size):=Qd (Uaj h.len h.nl);have HO:=Qd (Uah h);have HZ:Hid (mz.size=(mcs m vs).size):=Qd (Uir.trans (Uaf h.len h.nl).symm);have CQS:Hid (∀W,Box W w.heap.size 45 (mcs m vs)→W.rangeAt w.heap.size 7 vs):=Qd (fun W H=>U8t H);have CM:Hid (∀W,Box W w.heap.size 45 (mcs m vs)→W.cell? ⟨w.heap.size,0,none⟩=some (.int .i64 m.mark)):=Qd (fun W H=>Uuk H);have CQ0:Hid (∀(k:Nat) W,k<4→Box W w.heap.size 45 (mcs m vs)→W.cell? ⟨w.heap.size,7+k,none⟩=some (vs.getD k (.bool false))):=Qd (fun k W hk H=>m_q H h.len hk);have HV4:Hid ((prog.info? 42).map (·.size)=some vs.length):=Qd (by rw[h.len];kernel_rfl);have HIX:=Qd (fun(j:Nat) (hj:j<4)=>U4k h.len hj);have HQ:=Qd h;have HST:=Qd hst;have HMM:=Qd hm2;have HHD:=Qd hhd;have HCT:=Qd hs.taken;have HQL:=Qd hs.ql;clear hst hm2 hhd;dsimp only[mv] at KK ⊢;clear h hs;go_enter func80,ntmps80;go_upto_region 1 with fail
 refine Uq fun W0 hW0=>?_
 have D1:Hid (NxR w (mcs m vs) W0):=Qd (by rw[hW0];exact NxR.new w (mcs m vs));clear hW0;go_wp2_with (with_reducible first|refine Qh 45 ?_|refine Qg 45 ?_|refine Qi 42 ?_);refine Uo.go w.heap.size rfl D1.out.m underlying45 rfl HM.out ?_;go_wp2_with fail;refine(KK.out _ D1.out.below).mono ?_;rintro e w1 ⟨rfl,hb⟩;have D2:=Qd (D1.out.kept hb);clear hb D1 KK;go_wp2_with (with_reducible first|refine Qh 45 ?_|refine Qg 45 ?_|refine Qi 42 ?_);refine Uf.go w.heap.size rfl rfl D2.out.m HM.out rfl HO.out ?_;go_upto_region 2 with fail
 refine Uq fun W2 hW2=>?_
 have D3:Hid (NxR w (mcs m vs) W2):=Qd (by rw[hW2];exact⟨D2.out.m.row _,D2.out.r.row_far (by omega) _,D2.out.s.row_far (by omega) _,Uc D2.out.below (Xa _) _⟩);clear hW2 D2;go_wp2_with (with_reducible first|refine Qh 45 ?_|refine Qg 45 ?_|refine Qi 42 ?_);refine Ubl.go rfl w.heap.size 7 rfl (CQS.out _ D3.out.m) underlying42 rfl HV4.out ?_;go_wp2_with fail;go_loopw [5,6,13] (fun fv uv i wr=>∃(j:Nat) (f:Int) (u:Bool),j≤4∧i = .int .i64 (j:Int)∧fv = .int .i64 f∧uv = .bool u∧Hid (Uji m.q j f u)∧Hid (NxR w (mcs m vs) wr)) (fun _ _ i _=>4-(intOf i).toNat)
 case atStart=>exact⟨0,-1,true,by omega,rfl,rfl,rfl,Qd rfl,D3⟩
 case round =>
  obtain⟨j,f,u,hj,rfl,rfl,rfl,HP,HR⟩:=hrel;by_cases hlt:j<4
  ·have ixj:=HIX.out j hlt;obtain⟨A,c,e0,hc1,hc2,-⟩:=(HQ.out.at_ j hlt).1.form;unfold maxLen at hc2;rw[e0] at ixj;have HJ:Hid (SmX X w (.slice A (m.q.getD j []).length c) (m.q.getD j [])):=Qd (by rw[←e0];exact HQ.out.at_ j hlt)
   have HPN:Hid (Zx m.q (j+1)=if (m.q.getD j []).length=0 then (f,false) else if f<0∨Uaa (Yl (m.q.getD j [])) (Yl (m.q.getD f.toNat []))=true then ((j:Int),u) else (f,u)):=Qd (by
    have hp:=HP.out;unfold Uji at hp;show(if _ then _ else _)=_
    rw[hp])
   have HSP:=Qd (Udt m.q j);have hp1:(Zx m.q j).1=f:=by have hp:=HP.out;unfold Uji at hp;rw[hp]
   rw[hp1] at HSP;have hji:(j:Int)<4:=by omega
   have hj0:(0:Int)≤(j:Int):=by omega
   clear e0 hp1;generalize m.q.getD j []=lj at *;obtain⟨n,hn⟩:∃n,lj.length=n:=⟨_,rfl⟩;rw[hn] at ixj hc1;by_cases hn0:n=0
   ·have e1:((n:Int)==0)=true:=by simp[hn0]
    have HN:Hid (Zx m.q (j+1)=(f,false)):=Qd (by rw[HPN.out,if_pos (by rw[hn];exact hn0)]);clear hn HJ HPN HSP hn0;go_wp2_with fail;go_roundw
    case rel=>exact⟨j+1,f,false,by omega,by go_num,rfl,rfl,HN,HR⟩
    case measure=>simp[intOf];omega
   ·have e1:((n:Int)==0)=false:=by simp;omega
    have hpos:0<n:=by omega
    obtain⟨b,off,rfl,hbl,hr1⟩:=HJ.out.head (by rw[hn];exact hn0);have H1:Hid (∀W,Below w.heap.size w W→W.rangeAt b off (sml (Yl lj))):=Qd (fun W hb=>Ua9 hr1 hbl hb);by_cases hf:f<0
    ·have d1:decide (f<0)=true:=Xi hf;have HN:Hid (Zx m.q (j+1)=((j:Int),u)):=Qd (by rw[HPN.out,if_neg (by rw[hn];exact hn0),if_pos (Or.inl hf)]);clear hn HJ HPN HSP hn0 hr1 H1 hf;go_upto_region 8 with fail
     refine Xm (S:=fun w'=>NxR w (mcs m vs) w') (by kernel_rfl) HR.out.drew (fun hHeld=>?_);refine Qn 0 (.int .i64 f) ?_;refine Qn 1 (.bool true) ?_;refine Qn 2 (.bool true) ?_;refine Qm 3 ?_;refine Qm 4 ?_;refine Qm 5 ?_;refine Qm 6 ?_;refine Qm 7 ?_;refine Qm 8 ?_;refine Qm 9 ?_;refine Qm 10 ?_;refine Qm 11 ?_;refine Qm 12 ?_;refine Qn 13 (.bool true) ?_;refine Qn 14 (.bool true) ?_;refine Xl (by kernel_rfl) ?_ _;clear hHeld;go_wp2_with fail;go_roundw
     case rel=>exact⟨j+1,(j:Int),u,by omega,by go_num,rfl,rfl,HN,Qd HR.out.drew⟩
     case measure=>simp[intOf];omega
    ·obtain⟨fn,hfn,hfl,hfj⟩:∃fn:Nat,f=(fn:Int)∧(m.q.getD fn []).length≠0∧fn<j:=by
      rcases HSP.out with ⟨a,_,_⟩|⟨fn,a,b,c,_⟩
      ·exact absurd a hf
      ·exact⟨fn,a,c,b⟩
     subst hfn;have htn:((fn:Int)).toNat=fn:=Int.toNat_natCast fn;rw[htn] at HPN;obtain⟨A2,c2,e2,hc3,hc4,-⟩:=(HQ.out.at_ fn (by omega)).1.form;unfold maxLen at hc4;have HF:Hid (SmX X w (.slice A2 (m.q.getD fn []).length c2) (m.q.getD fn [])):=Qd (by rw[←e2];exact HQ.out.at_ fn (by omega));have CQF:Hid (∀W,Box W w.heap.size 45 (mcs m vs)→W.cell? ⟨w.heap.size,7+fn,none⟩=some (.slice A2 (m.q.getD fn []).length c2)):=Qd (fun W H=>by rw[←e2];exact CQ0.out fn W (by omega) H);obtain⟨b2,off2,rfl,hbl2,hr2⟩:=HF.out.head hfl;have H2:Hid (∀W,Below w.heap.size w W→W.rangeAt b2 off2 (sml (Yl (m.q.getD fn [])))):=Qd (fun W hb=>Ua9 hr2 hbl2 hb);have KB:=Qd (fun w=>Uey (Yl lj) (Yl (m.q.getD fn [])) w);have ea:Udr (Yl lj) = .agg (sml (Yl lj)).toArray:=rfl;have eb:Udr (Yl (m.q.getD fn [])) = .agg (sml (Yl (m.q.getD fn []))).toArray:=rfl;rw[ea,eb] at KB;have hn2:0<(m.q.getD fn []).length:=by omega
     have S5:Hid ((prog.info? 40).map (·.size)=some (sml (Yl lj)).length):=Qd Ye;have S6:Hid ((prog.info? 40).map (·.size)=some (sml (Yl (m.q.getD fn []))).length):=Qd Ye;clear ea eb hr1 hr2 HF HJ HSP e2 hfl htn;generalize m.q.getD fn []=lf at *;generalize lf.length=n2 at *;have d1:decide ((fn:Int)<0)=false:=Xh hf;have hf0:(0:Int)≤(fn:Int):=by omega
     have hf4:(fn:Int)<4:=by omega
     cases hb:Uaa (Yl lj) (Yl lf);rotate_right
     focus
      have HN:Hid (Zx m.q (j+1)=((j:Int),u)):=Qd (by rw[HPN.out,if_neg (by rw[hn];exact hn0),if_pos (Or.inr hb)])
     rotate_right
     focus
      have HN:Hid (Zx m.q (j+1)=((fn:Int),u)):=Qd (by rw[HPN.out,if_neg (by rw[hn];exact hn0),if_neg (by rw[hb];simp)])
     all_goals
      rw[hb] at KB;clear hn HPN hn0 hb hf;generalize sml (Yl lj)=ls1 at *;generalize sml (Yl lf)=ls2 at *;go_upto_region 8 with fail
      refine Xm (S:=fun w'=>NxR w (mcs m vs) w') (by kernel_rfl) HR.out.drew (fun hHeld=>?_);refine Qn 0 (.int .i64 (fn:Int)) ?_;refine Qn 1 (.bool false) ?_;refine Qn 2 (.bool false) ?_;refine Qn 3 (.slice (some ⟨b,off,none⟩) n c) ?_;refine Qn 4 (.pointer (some ⟨b,off,none⟩)) ?_;refine Ux (i:=5) (v := .agg (ls1).toArray) rfl rfl (by kernel_rfl) (by kernel_rfl) (by kernel_rfl) (fun _ _ _ h=>h)
       (Xn (by rfl) 40 _ rfl (b) (off) rfl (ls1) _ (fun _ h=>H1.out _ h.below) underlying40 rfl S5.out) hHeld ?_
      simp only[Qz];refine Qn 6 (.int .i64 (fn:Int)) ?_;refine Qn 7 (.pointer (some ⟨w.heap.size,7,none⟩)) ?_;refine Qn 8 (.pointer (some ⟨w.heap.size,7+fn,none⟩)) ?_;refine Qe 9 (.slice (some ⟨b2,off2,none⟩) n2 c2) (fun w hw=>?_) ?_
      ·have x7:=CQF.out _ hw.m;go_simp
      simp only[Qz];refine Qn 10 (.pointer (some ⟨b2,off2,none⟩)) ?_;refine Ux (i:=11) (v := .agg (ls2).toArray) rfl rfl (by kernel_rfl) (by kernel_rfl) (by kernel_rfl) (fun _ _ _ h=>h)
       (Xn (by rfl) 40 _ rfl (b2) (off2) rfl (ls2) _ (fun _ h=>H2.out _ h.below) underlying40 rfl S6.out) hHeld ?_
      simp only[Qz];refine Qc 12 fun KQ hKQ=>?_
      go_simp;refine(KB.out _).mono ?_;rintro e w3 ⟨rfl,hb⟩;have R2:=Qd (HR.out.drew.kept hb);clear hb;refine hKQ.out _ _ (R2.out) (fun hHeld=>?_);clear hKQ KQ
     ·refine Qn 13 (.bool false) ?_;refine Qn 14 (.bool false) ?_;refine Xl (by kernel_rfl) ?_ _;clear hHeld;go_wp2_with fail;go_roundw
      case rel=>exact⟨j+1,(fn:Int),u,by omega,by go_num,rfl,rfl,HN,R2⟩
      case measure=>simp[intOf];omega
     ·refine Qn 13 (.bool true) ?_;refine Qn 14 (.bool true) ?_;refine Xl (by kernel_rfl) ?_ _;clear hHeld;go_wp2_with fail;go_roundw
      case rel=>exact⟨j+1,(j:Int),u,by omega,by go_num,rfl,rfl,HN,R2⟩
      case measure=>simp[intOf];omega
  ·have hge:¬(j:Int)<4:=by omega
   obtain rfl:j=4:=by omega
   have hp:=HP.out;unfold Uji at hp;have hst:=HST.out;unfold Uc7 at hst;rw[hp] at hst;dsimp only at hst;have HSP:=Qd (Udt m.q 4);rw[hp] at HSP;have hf:¬f<0:=fun hh=>hst (Or.inl hh)
   obtain⟨fn,hfn,hfl,hfj⟩:∃fn:Nat,f=(fn:Int)∧(m.q.getD fn []).length≠0∧fn<4:=by
    rcases HSP.out with ⟨a,_,_⟩|⟨fn,a,b,c,_⟩
    ·exact absurd a hf
    ·exact⟨fn,a,c,b⟩
   subst hfn;have HFI:Hid (Ubs m=fn):=Qd (by unfold Ubs;rw[hp];exact Int.toNat_natCast fn);clear hp hlt;rw[Int.toNat_natCast] at hst;obtain⟨lf,hlf⟩:∃lf,m.q.getD fn []=lf:=⟨_,rfl⟩;obtain⟨n2,hnn⟩:∃n2,lf.length=n2:=⟨_,rfl⟩;have HAT:Hid (SmX X w (vs.getD fn (.bool false)) lf):=Qd (by rw[←hlf];exact HQ.out.at_ fn hfj);obtain⟨A2,c2,e2,hc3,hc4,-⟩:=HAT.out.1.form;unfold maxLen at hc4;rw[hnn] at e2 hc3;rw[e2] at HAT;have hfl2:lf.length≠0:=by rw[←hlf];exact hfl
   have hn2:0<n2:=by omega
   have CQF:Hid (∀W,Box W w.heap.size 45 (mcs m vs)→W.cell? ⟨w.heap.size,7+fn,none⟩=some (.slice A2 n2 c2)):=Qd (fun W H=>by rw[←e2];exact CQ0.out fn W hfj H);obtain⟨b2,off2,rfl,hbl2,hr2⟩:=HAT.out.head hfl2;have hhd:Yl lf=hd:=by rw[←HHD.out,HFI.out,hlf]
   rw[hhd] at hr2;have HL:Hid (∀W,Below w.heap.size w W→W.rangeAt b2 off2 (sml hd)):=Qd (fun W hb=>Ua9 hr2 hbl2 hb);have CH:Hid (∀W,Below w.heap.size w W→W.cell? ⟨b2,off2,none⟩=some (.int .i64 hd.t)):=Qd (fun W hb=>Ua9 hr2 hbl2 hb 0 _ rfl);have E7:=Qd e2;have HTL:Hid (∀W,Below w.heap.size w W→SmX X W (U0h b2 off2 n2 c2) (lf.drop 1)):=Qd (fun W hb=>(HAT.out.below hb).tail hnn.symm (by omega));have d1:decide ((fn:Int)<0)=false:=Xh (by omega);have hf0:(0:Int)≤(fn:Int):=by omega
   have hf4:(fn:Int)<4:=by omega
   have HWT:Hid (IntKind.i64.wrap (m.taken+1)=m.taken+1):=Qd (by have:=HCT.out;unfold Ua0 at this;rw[Xf];omega);have HM2E:Hid (m2={ m with last:=hd,some:=true,q:=m.q.set fn (lf.drop 1),taken:=m.taken+1 }):=Qd (by rw[←HMM.out,HFI.out,←hhd,←hlf];rfl);obtain⟨vs2,hvs2⟩:∃vs2,vs.set fn (U0h b2 off2 n2 c2)=vs2:=⟨_,rfl⟩
   have HQ2:Hid (∀W,Below w.heap.size w W→QsX X W vs2 m2):=Qd (fun W hb=>by
    rw[HM2E.out,←hvs2]
    exact((HQ.out.below hb).put HQL.out hfj (HTL.out W hb)).same rfl HQ.out.nl)
   have CL2:Hid (∀W,Box W w.heap.size 45 (mcs m2 vs2)→W.rangeAt w.heap.size 2 (sml hd)):=Qd (fun W H=>by have:=Uzy H;rw[HM2E.out] at this;exact this);have hl2:vs2.length=4:=by rw[←hvs2,List.length_set];exact HQ.out.len
   have hnl2:m2.n.length=7:=by rw[HM2E.out];exact HQ.out.nl
   have HL2:=Qd hl2;have SZ2:Hid ((mcs m2 vs2).size=19):=Qd (Uaf hl2 hnl2);have HM2:Hid ((prog.info? 45).map (·.size)=some (mcs m2 vs2).size):=Qd (Uaj hl2 hnl2);have HM2L:Hid ((prog.info? 45).map (·.size)=some (mcs m2 vs2).toList.length):=Qd HM2.out;have HZ2:Hid (mz.size=(mcs m2 vs2).size):=Qd (Uir.trans (Uaf hl2 hnl2).symm);have HO2:Hid ((mcs m2 vs2).all (·.oneCell')=true):=Qd (Uah (HQ2.out _ (Xb _ w)));have S5:Hid ((prog.info? 40).map (·.size)=some (sml hd).length):=Qd Ye;have S5A:Hid ((prog.info? 40).map (·.size)=some (sml hd).toArray.size):=Qd Ye;have S51:Hid ((sml hd).toArray.all (·.oneCell')=true):=Qd (by simp[sml,Smp.cells,Value.oneCell']);have HSET:Hid (∀W,Box W w.heap.size 45 (mcs { m with last:=hd,some:=true } vs)→Box (W.setCell ⟨w.heap.size,7+fn,none⟩ (U0h b2 off2 n2 c2)) w.heap.size 45 (mcs { m with last:=hd,some:=true,q:=m.q.set fn (lf.drop 1) } vs2)):=Qd (fun W H=>by rw[←hvs2];exact U4i H HQ.out.len hfj _ _);have HHT:Hid (Yl (m.q.getD fn [])=hd):=Qd (by rw[hlf];exact hhd);cases u;rotate_right
   focus
    clear hr2 e2 hfl hst HSP hf hvs2 HAT HTL CH hlf hnn hhd hfl2 hl2 hnl2 HHT
   rotate_right
   focus
    have hle:¬m.mark<hd.t:=fun hh=>hst (Or.inr ⟨rfl,by rw[HHT.out];exact hh⟩)
    have d2:decide (m.mark<hd.t)=false:=Xh hle;clear hr2 e2 hfl hst HSP hf hvs2 HAT HTL hle hlf hnn hhd hfl2 hl2 hnl2 HHT;obtain⟨ht,hht⟩:∃ht,hd.t=ht:=⟨_,rfl⟩;obtain⟨mk,hmk⟩:∃mk,m.mark=mk:=⟨_,rfl⟩;rw[hht] at CH d2;rw[hmk] at CM d2;clear hht hmk
   all_goals
    go_upto_region 11 with fail
    refine Xm (S:=fun w'=>NxR w (mcs m vs) w') (by kernel_rfl) HR.out.drew (fun hHeld=>?_);refine Qn 0 (.int .i64 (fn:Int)) ?_;refine Qn 1 (.bool false) ?_;refine Qn 2 (.bool false) ?_
   rotate_right
   focus
    refine Qn 3 (.bool true) ?_;refine Qn 4 (.bool false) ?_;refine Qn 5 (.bool false) ?_;refine Qm 6 ?_;refine Qm 7 ?_;refine Qm 8 ?_;refine Qm 9 ?_;refine Qm 10 ?_;refine Qm 11 ?_;refine Qm 12 ?_;refine Qm 13 ?_;refine Qm 14 ?_;refine Qm 15 ?_
   rotate_right
   focus
    refine Qn 3 (.bool false) ?_;refine Qn 4 (.bool true) ?_;refine Qn 5 (.bool true) ?_;refine Qn 6 (.int .i64 (fn:Int)) ?_;refine Qn 7 (.pointer (some ⟨w.heap.size,7,none⟩)) ?_;refine Qn 8 (.pointer (some ⟨w.heap.size,7+fn,none⟩)) ?_;refine Qe 9 (.slice (some ⟨b2,off2,none⟩) n2 c2) (fun w hw=>?_) ?_
    ·have x7:=CQF.out _ hw.m;go_simp
    simp only[Qz];refine Qn 10 (.pointer (some ⟨b2,off2,none⟩)) ?_;refine Qn 11 (.pointer (some ⟨b2,off2,none⟩)) ?_;refine Qe 12 (.int .i64 ht) (fun w hw=>?_) ?_
    ·have xh:=(CH.out _ hw.below);go_simp
    simp only[Qz];refine Qn 13 (.pointer (some ⟨w.heap.size,0,none⟩)) ?_;refine Qe 14 (.int .i64 mk) (fun w hw=>?_) ?_
    ·have xm:=CM.out _ hw.m;go_simp
    simp only[Qz];refine Qn 15 (.bool false) ?_
   all_goals
    refine Qn 16 (.bool false) ?_;refine Qn 17 (.bool false) ?_;refine Xl (by kernel_rfl) ?_ _;clear hHeld
   rotate_right;rotate_right
   focus
    clear d2 CH CM
   all_goals
    refine Yn fun W8 hW8=>?_
    have R8:Hid (NxR w (mcs m vs) W8):=Qd (by rw[hW8];exact HR.out.drew);clear hW8;have x7:=CQF.out _ R8.out.m;go_wp2_with (with_reducible first|refine Qi 40 ?_|refine Qj 40 ?_);refine Ubl.go rfl b2 off2 rfl (HL.out _ R8.out.below) underlying40 rfl S5.out ?_;go_wp2_with (with_reducible first|refine Qj 40 ?_);refine Uai.go w.heap.size 2 rfl rfl (U53 R8.out.m HQ.out.len HQ.out.nl (by simp[sml,Smp.cells])) S5A.out S51.out ?_;refine Udg fun W9 hW9=>?_
    have R9:Hid (NxR w (mcs { m with last:=hd } vs) W9):=Qd (by rw[hW9];exact R8.out.puts (U0f R8.out.m hd));clear hW9 R8 x7;have c1:=Uzx R9.out.m;have f1:=R9.out.m.frozen 1;go_upto_region 15 with fail
    refine Uq fun W10 hW10=>?_
    have R10:Hid (NxR w (mcs { m with last:=hd,some:=true } vs) W10):=Qd (by rw[hW10];exact R9.out.put (U0e R9.out.m true));clear hW10 R9 c1 f1;have x7:W10.cell? ⟨w.heap.size,7+fn,none⟩=some (.slice (some ⟨b2,off2,none⟩) n2 c2):=(m_q R10.out.m HQ.out.len hfj).trans (congrArg some E7.out);have f7:=R10.out.m.frozen (7+fn);go_upto_region 16 with fail
    refine Uq fun W11 hW11=>?_
    have R11:Hid (NxR w (mcs { m with last:=hd,some:=true,q:=m.q.set fn (lf.drop 1) } vs2) W11):=Qd (by rw[hW11];exact R10.out.put (HSET.out _ R10.out.m));clear hW11 R10 x7 f7;have c18:=Uzz R11.out.m HL2.out HQ.out.nl;have f18:=R11.out.m.frozen 18;have hwt:=HWT.out;go_upto_region 17 with fail
    refine Uq fun W12 hW12=>?_
    have R9:Hid (NxR w (mcs m2 vs2) W12):=Qd (by rw[hW12,HM2E.out];exact R11.out.put (Uws R11.out.m HL2.out HQ.out.nl _));clear hW12 R11 c18 f18 hwt;refine Xm (S:=fun w'=>NxS w (mcs m2 vs2) w') (by kernel_rfl) ⟨R9.out.m.drew,⟨_,R9.out.r.drew,rfl⟩,⟨_,R9.out.s.drew,rfl⟩,Ue R9.out.below 1⟩ (fun hHeld=>?_);refine Ux (i:=0) (v := .agg ((mcs m2 vs2).toList).toArray) rfl rfl (by kernel_rfl) (by kernel_rfl) (by kernel_rfl) (fun _ _ _ h=>h)
     (Xn (by rfl) 45 _ rfl (w.heap.size) (0) rfl ((mcs m2 vs2).toList) _ (fun _ h=>h.1.rangeA) underlying45 rfl HM2.out) hHeld ?_
    simp only[Qz];refine Qn 1 (.pointer (some ⟨w.heap.size,2,none⟩)) ?_;refine Ux (i:=2) (v := .agg (sml hd).toArray) rfl rfl (by kernel_rfl) (by kernel_rfl) (by kernel_rfl) (fun _ _ _ h=>h)
     (Xn (by rfl) 40 _ rfl (w.heap.size) (2) rfl (sml hd) _ (fun _ h=>CL2.out _ h.1) underlying40 rfl S5.out) hHeld ?_
    simp only[Qz];refine Ut fun WD hWD=>?_
    have RD:Hid (NxR w (mcs m2 vs2) WD):=Qd (by rw[hWD];exact R9.out.drew);replace hHeld:NxS w (mcs m2 vs2) WD:=⟨RD.out.m,⟨_,RD.out.r,rfl⟩,⟨_,RD.out.s,rfl⟩,RD.out.below⟩;clear hWD R9;refine Qc 3 fun KQ hKQ=>?_
    rw[if_pos (by rfl)];refine wp_store_row 45 _ _ rfl (w.heap.size+1) (mcs m2 vs2) rfl rfl 45 mz (RD.out.r) HM2.out HZ2.out HO2.out ?_;go_simp;refine hKQ.out _ _ (⟨RD.out.m.row_far (by omega) _,⟨_,RD.out.r.row _,SZ2.out⟩,⟨_,RD.out.s.row_far (by omega) _,rfl⟩,Uc RD.out.below (by omega) _⟩) (fun hHeld=>?_);clear hKQ KQ;refine Qc 4 fun KQ hKQ=>?_
    rw[if_pos (by rfl)];refine wp_store_row 40 _ _ rfl (w.heap.size+1+1) (sml hd).toArray rfl rfl 40 _ (RD.out.s.row_far (by omega) _) S5A.out rfl S51.out ?_;go_simp;refine hKQ.out _ _ (⟨(RD.out.m.row_far (by omega) _).row_far (by omega) _,⟨_,(RD.out.r.row _).row_far (by omega) _,SZ2.out⟩,⟨_,(RD.out.s.row_far (by omega) _).row _,rfl⟩,Uc (Uc RD.out.below (by omega) _) (by omega) _⟩) (fun hHeld=>?_);clear hKQ KQ;refine Qn 5 (.bool true) ?_;refine Xl (by kernel_rfl) ?_ _;refine Yn fun W9 hW9=>?_
    have E1:Hid (Box W9 (w.heap.size+1) 45 (mcs m2 vs2)):=Qd (by rw[hW9];exact(RD.out.r.row _).row_far (by omega) _);have E2:Hid (Box W9 (w.heap.size+1+1) 40 (sml hd).toArray):=Qd (by rw[hW9];exact(RD.out.s.row_far (by omega) _).row _);have E3:Hid (Below w.heap.size w W9):=Qd (by rw[hW9];exact Uc (Uc RD.out.below (by omega) _) (by omega) _);clear hW9 hHeld RD;go_wp2_with fail
    all_goals exact Xk (Uca results80 _ _ (w.heap.size+1) (w.heap.size+1+1) 45 40 _ _ (0,0) (0,0) _ _ rfl E1.out underlying45 rfl HM2.out rfl E2.out underlying40 rfl S5A.out) rfl ⟨vs2,rfl,HQ2.out _ E3.out,E3.out⟩
end Go.Proofs.YtdaflmjfeoacaaaGreat
