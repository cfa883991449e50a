/- Part of the proof of TopTry, TopSplit: SnA, SnB. Conditions: none. -/
import Derived.Test.YtdaflmjfeoacaaaGreatZbbc
import Derived.Test.YtdaflmjfeoacaaaGreatZbbe
set_option linter.all false
set_option maxHeartbeats 16000000
set_option maxRecDepth 4000
namespace Go.Proofs.YtdaflmjfeoacaaaGreat
open Tryz
open Go.RowKit
def ptr (b o:Nat):Value := .pointer (some ⟨b,o,none⟩)
def Ue2 (b j:Nat):List Value:=[ptr b 0,ptr b 1,.pointer none]++(List.range j).map fun i=>ptr b (3+i)
def Ufz (b j:Nat):List Value:=Ue2 b 4++(List.range j).map fun i=>ptr b (7+i)
def Uek (b j:Nat):List Value:=Ufz b 3++(List.range j).flatMap fun i=>[ptr b (11+i*6),ptr b (11+i*6+1),ptr b (11+i*6+2),ptr b (11+i*6+3),ptr b (11+i*6+4)]
theorem Uwi (b j:Nat):Ue2 b j++[ptr b (3+j)]=Ue2 b (j+1):=by simp[Ue2,List.range_succ]
theorem Uwj (b j:Nat):Ufz b j++[ptr b (7+j)]=Ufz b (j+1):=by simp[Ufz,List.range_succ]
theorem Uwk (b j:Nat):Uek b j++[ptr b (11+j*6),ptr b (11+j*6+1),ptr b (11+j*6+2),ptr b (11+j*6+3),ptr b (11+j*6+4)]=Uek b (j+1):=by simp[Uek,List.range_succ]
theorem Ulv (b j:Nat):(Ue2 b j).length=3+j:=by simp[Ue2];omega
theorem Ulw (b j:Nat):(Ufz b j).length=7+j:=by simp[Ufz,Ulv]
theorem Udu (b j:Nat):(Uek b j).length=10+j*5:=by
 unfold Uek;rw[List.length_append,Ulw]
 induction j with
 | zero=>rfl
 | succ j ih=>simp only[List.range_succ,List.flatMap_append,List.length_append,List.flatMap_cons,List.flatMap_nil,List.length_cons,List.length_nil] at *;omega
theorem U26:(prog.info? 106).map (fun i=>(i.zero,i.size,i.bytes))=some (some (.pointer none),1,8):=by kernel_rfl
structure EaR (w:World) (gl:Nat) (v:Value) (xs:List Value) (W:World):Prop where
 l:Box W gl 139 #[v]
 own:W.ownsRow w.heap.size 106 1 v xs.length xs
 ne:v.ownBlock≠some gl
 lg:w.heap.size≤gl
 below:Below w.heap.size w W
theorem U5z {w:World}{base g:Nat}{t:TypeId}{cs:Array Value}(h:Box w g t cs)(hb:base≤g)(hm:cs.size≤maxLen):w.ownsRow base t 1 (.slice (some ⟨g,0,none⟩) cs.size cs.size) cs.toList.length cs.toList :=
 ⟨by simp,Or.inr ⟨g,cs.size,cs,rfl,hb,h,Xa _,hm,by omega,by rw[Nat.mul_one];exact List.take_of_length_le (by simp)⟩⟩
section
variable {w W W':World} {gl:Nat} {v v':Value} {xs ys:List Value}
theorem EaR.drew (H:EaR w gl v xs W):EaR w gl v xs W.drew:=⟨H.l.drew,Zk (X:=fun _=>False) H.own ((Chg.refl _ _).drew) (fun _ _ hx=>hx),H.ne,H.lg,Ue H.below 1⟩
theorem EaR.kept (H:EaR w gl v xs W)(hb:Below W.heap.size W W'):EaR w gl v xs W':=⟨H.l.kept hb,Ud2 H.own hb,H.ne,H.lg,Ua H.below hb H.below.size⟩
theorem EaR.lbox (H:EaR w gl v xs W)(hg:W.grownBy W' v.ownBlock):Box W' gl 139 #[v]:=(hg.block _ H.l.lt (fun e=>H.ne e.symm)).trans H.l
theorem EaR.app {n:Nat}(H:EaR w gl v xs W)(hg:W.grownBy W' v.ownBlock)(ho:W'.ownsRow w.heap.size 106 1 v' n (xs++ys))(hn:n=(xs++ys).length)(ha:v'.ownBlock=v.ownBlock∨v'.ownBlock=some W.heap.size):EaR w gl v' (xs++ys) (W'.setCell ⟨gl,0,none⟩ v'):=by
 subst hn;have hne:v'.ownBlock≠some gl:=by
  rcases ha with h|h
  ·rw[h];exact H.ne
  ·rw[h];intro e;have:=H.l.lt;injection e with e;omega
 exact⟨(H.lbox hg).set_ 0 v',Zk ho (Chg.setCell (X:=(· = gl)) rfl _) (fun k hk e=>hne (by rw[hk,e])),hne,H.lg,(H.below.grown hg H.below.size (fun k e=>(H.own.lt k e).1)).setCell H.lg _⟩
theorem EaR.first {gr b:Nat}(hl:Box W gl 139 #[v])(hr:Box W gr 106 #[ptr b 0,ptr b 1,.pointer none])(hb:Below w.heap.size w W)(h1:w.heap.size≤gl)(h2:w.heap.size≤gr)(hne:gr≠gl) :
  EaR w gl (.slice (some ⟨gr,0,none⟩) 3 3) (Ue2 b 0) (W.setCell ⟨gl,0,none⟩ (.slice (some ⟨gr,0,none⟩) 3 3)) :=
 ⟨hl.set_ 0 _,U5z (cs:=#[ptr b 0,ptr b 1,.pointer none]) (hr.far hne _) h2 (show 3≤maxLen by decide),fun e=>hne (by injection e),h1,hb.setCell h1 _⟩
end
theorem Us6 {w:World}{g n:Nat}{t:TypeId}{ss:List Value}(h:Box w g t ss.toArray)(hs:ss.length=n)(hn:n≤maxLen):Sl w (.slice (some ⟨g,0,none⟩) n n) 1 n ss :=
 ⟨by omega,some ⟨g,0,none⟩,n,rfl,Xa _,hn,(fun h=>by cases h),fun _=>⟨_,rfl,h.lt,fun j u hu=>by rw[Ua7,Nat.zero_add];exact(h.cell j).trans (by simpa using hu)⟩⟩
def U27 (b:Nat)(w:World)(e:Ending)(w':World):Prop:=∃A c gl,e = .returned (.func (.func 68) #[] #[.pointer (some ⟨gl,0,none⟩)])∧EaR w gl (.slice A 25 c) (Uek b 3) w'
theorem Uqv (b:Nat)(w:World):Calls prog 40 #[.pointer (some ⟨b,0,none⟩)] w (U27 b w):=by
 obtain⟨i0,hi,hz0,hz1,hz2⟩:=info_parts U26;go_enter func40,ntmps40;go_upto_region 1 with fail
 go_cut [3] (fun p wx=>∃gl gr,p = .pointer (some ⟨gl,0,none⟩)∧Hid (EaR w gl (.slice (some ⟨gr,0,none⟩) 3 3) (Ue2 b 0) wx))
 case first =>
  refine Xm (S:=fun w'=>Below w.heap.size w w') (by kernel_rfl) (Ue (Xb _ w) 1) (fun hHeld=>?_);refine Qn 0 (.pointer (some ⟨b,0,none⟩)) ?_;refine Qn 1 (.pointer (some ⟨b,0,none⟩)) ?_;refine Qn 2 (.pointer (some ⟨b,0,none⟩)) ?_;refine Qn 3 (.pointer (some ⟨b,0,none⟩)) ?_;refine Qn 4 (.pointer (some ⟨b,0,none⟩)) ?_;refine Qn 5 (.pointer (some ⟨b,1,none⟩)) ?_;refine Ut fun WD hWD=>?_
  have HD:Hid (Below w.heap.size w WD):=Qd (by rw[hWD];exact Ue (Xb _ w) 1);replace hHeld:=HD.out;clear hWD;refine wpAnyH_ready (rs:=[6,7]) (by kernel_rfl) (by simp) ?_;refine Xo rfl (fun KQ hKQ=>?_) (Xo rfl (fun KQ hKQ=>?_) AllReadyH.nil)
  all_goals
   go_simp;refine hKQ.out _ _ (HD.out.alloc HD.out.size _) (fun hHeld=>?_);clear hKQ KQ;refine Ut fun wa hW=>?_
   have Hwa:Hid (Below w.heap.size w wa):=Qd (by rw[hW];exact HD.out.alloc HD.out.size _)
  rotate_right
  focus
   have BL:Hid (Box wa WD.heap.size 139 #[.slice none 0 0]):=Qd (by rw[hW];exact Box.new _ _ _);replace hHeld:=Hwa.out;clear hW;refine Qc 6 fun KQ hKQ=>?_
  rotate_right
  focus
   have BR:Hid (Box wa WD.heap.size 106 #[ptr b 0,ptr b 1,.pointer none]):=Qd (by rw[hW];exact Box.new _ _ _);replace hHeld:=Hwa.out;clear hW;refine Qc 7 fun KQ hKQ=>?_
  all_goals
   go_simp;refine hKQ.out _ _ (Hwa.out.alloc Hwa.out.size _) (fun hHeld=>?_);clear hKQ KQ;refine Ut fun wb hW=>?_
   have Hwb:Hid (Below w.heap.size w wb):=Qd (by rw[hW];exact Hwa.out.alloc Hwa.out.size _)
  rotate_right
  focus
   have BR:Hid (Box wb wa.heap.size 106 #[ptr b 0,ptr b 1,.pointer none]):=Qd (by rw[hW];exact Box.new _ _ _);have BL2:Hid (Box wb WD.heap.size 139 #[.slice none 0 0]):=Qd (by rw[hW];exact BL.out.alloc _);have HLT:Hid (WD.heap.size<wa.heap.size):=Qd BL.out.lt
  rotate_right
  focus
   have BL:Hid (Box wb wa.heap.size 139 #[.slice none 0 0]):=Qd (by rw[hW];exact Box.new _ _ _);have BR2:Hid (Box wb WD.heap.size 106 #[ptr b 0,ptr b 1,.pointer none]):=Qd (by rw[hW];exact BR.out.alloc _);have HLT:Hid (WD.heap.size<wa.heap.size):=Qd BR.out.lt
  all_goals
   have HSZ:Hid (w.heap.size≤WD.heap.size):=Qd HD.out.size;have HSZ2:=Qd Hwa.out.size;replace hHeld:=Hwb.out;clear hW
  rotate_right
  focus
   have xl:=BL2.out.cell 0;have fl:=BL2.out.frozen 0;refine Qc 8 fun KQ hKQ=>?_
   go_simp;have HE:Hid (EaR w (WD.heap.size) (.slice (some ⟨wa.heap.size,0,none⟩) 3 3) (Ue2 b 0) (wb.setCell ⟨WD.heap.size,0,none⟩ (.slice (some ⟨wa.heap.size,0,none⟩) 3 3))):=Qd (EaR.first BL2.out BR.out Hwb.out (by have:=HSZ.out;have:=HSZ2.out;omega) (by have:=HSZ.out;have:=HSZ2.out;omega) (by have:=HLT.out;omega))
  rotate_right
  focus
   have xl:=BL.out.cell 0;have fl:=BL.out.frozen 0;refine Qc 8 fun KQ hKQ=>?_
   go_simp;have HE:Hid (EaR w (wa.heap.size) (.slice (some ⟨WD.heap.size,0,none⟩) 3 3) (Ue2 b 0) (wb.setCell ⟨wa.heap.size,0,none⟩ (.slice (some ⟨WD.heap.size,0,none⟩) 3 3))):=Qd (EaR.first BL.out BR2.out Hwb.out (by have:=HSZ.out;have:=HSZ2.out;omega) (by have:=HSZ.out;have:=HSZ2.out;omega) (by have:=HLT.out;omega))
  all_goals
   refine hKQ.out _ _ HE.out.below (fun hHeld=>?_);clear hKQ KQ;refine Xl (by kernel_rfl) ?_ _;clear hHeld xl fl;go_wp2_with fail
  ·go_meet
   case rel=>exact⟨wa.heap.size,WD.heap.size,rfl,HE⟩
  ·go_meet
   case rel=>exact⟨WD.heap.size,wa.heap.size,rfl,HE⟩
 case rest =>
  obtain⟨gl,gr,rfl,HX0⟩:=hcut;go_wp2_with fail;go_loopw [15] (fun i wr=>∃(j:Nat) (A:Option Addr) (c:Nat),j≤4∧i = .int .i64 (j:Int)∧Hid (EaR w gl (.slice A (3+j) c) (Ue2 b j) wr)) (fun i _=>4-(intOf i).toNat)
  case atStart=>exact⟨0,_,_,by omega,rfl,HX0⟩
  case round =>
   obtain⟨j,A,c,hj,rfl,HR⟩:=hrel;by_cases hlt:j<4
   ·have hji:(j:Int)<4:=by omega
    have hj0:(0:Int)≤(j:Int):=by omega
    have HJ:Hid (j<4):=Qd hlt;go_upto_region 5 with fail
    refine Uk (S:=fun w'=>Box w' gl 139 #[.slice A (3+j) c]) 9 9 (by kernel_rfl) rfl (by kernel_rfl) (by decide) HR.out.l.drew (fun hHeld=>?_);refine Qe 0 (.slice A (3+j) c) (fun w hw=>?_) ?_
    ·have xl:=hw.cell 0;go_simp
    simp only[Qz];refine Qn 1 (.pointer (some ⟨b,0,none⟩)) ?_;refine Qn 2 (.int .i64 (j:Int)) ?_;refine Qn 3 (.pointer (some ⟨b,0,none⟩)) ?_;refine Qn 4 (.pointer (some ⟨b,3,none⟩)) ?_;refine Qn 5 (.pointer (some ⟨b,3,none⟩)) ?_;refine Qn 6 (.pointer (some ⟨b,3+j,none⟩)) ?_;refine Ut fun WD hWD=>?_
    have RD:Hid (EaR w gl (.slice A (3+j) c) (Ue2 b j) WD):=Qd (by rw[hWD];exact HR.out.drew);replace hHeld:=RD.out.l;clear hWD HR;refine Qc 7 fun KQ hKQ=>?_
    go_simp;refine hKQ.out _ _ (RD.out.l.alloc _) (fun hHeld=>?_);clear hKQ KQ;refine Ut fun wb hW=>?_
    have Rb:Hid (EaR w gl (.slice A (3+j) c) (Ue2 b j) wb):=Qd (by rw[hW];exact RD.out.kept ((Xb _ _).alloc (Xa _) _));have B9:Hid (Box wb WD.heap.size 106 ([ptr b (3+j)]:List Value).toArray):=Qd (by rw[hW];exact Box.new _ _ _);replace hHeld:=Rb.out.l;clear hW RD;refine Qc 8 fun KQ hKQ=>?_
    rw[if_pos (by rfl)];refine Zm _ _ _ 139 rfl _ 106 i0 _ 1 8 underlying139 hi hz0 hz1 hz2 rfl (by decide) (.slice A (3+j) c) ((3+j)) (Ue2 b j) rfl (by have:=Rb.out.own;rw[Ulv] at this;exact this) (.slice (some ⟨WD.heap.size,0,none⟩) 1 1) 1 ([ptr b (3+j)]) rfl (Us6 B9.out rfl (by decide)) (by intro u hu;simp at hu;first|(subst hu;rfl)|(rcases hu with h|h|h|h|h<;>subst h<;>rfl)) (by have:=HJ.out;simp only[maxLen];omega) (by have:=HJ.out;omega) Rb.out.below.size ?_;intro v2 w9 hown hgrow hat;have LB:=Qd (Rb.out.lbox hgrow);have HA:=Qd (Rb.out.app hgrow hown (by simp[Ulv]) hat);obtain⟨A2,c2,hv2,-,-⟩:=Zz hown;subst hv2;clear hgrow hown hat Rb B9;go_simp;refine hKQ.out _ _ LB.out (fun hHeld=>?_);clear hKQ KQ;refine Xl (by kernel_rfl) ?_ _;have xl:=LB.out.cell 0;have fl:=LB.out.frozen 0;refine U4 rfl (by rfl) ?_;go_simp;refine Uh6 fun W9 hW9=>?_
    rw[←hW9] at HA;clear hW9 hHeld xl fl LB;have HA2:Hid (EaR w gl (.slice A2 (3+j+1) c2) (Ue2 b (j+1)) W9):=Qd (by have:=HA.out;rw[Uwi] at this;exact this);clear HA;go_wp2_with fail;go_roundw
    case rel=>exact⟨j+1,A2,c2,by omega,by go_num,by rw[show 3+(j+1)=3+j+1 by omega];exact HA2⟩
    case measure=>simp[intOf];omega
   ·have hge:¬(j:Int)<4:=by omega
    obtain rfl:j=4:=by omega
    clear hlt;have HX1:Hid (EaR w gl (.slice A (7+0) c) (Ufz b 0) wr):=Qd (by have:=HR.out;rw[show Ufz b 0=Ue2 b 4 by simp[Ufz]];exact this);clear HR;go_wp2_with fail;go_loopw [28] (fun i wr=>∃(j:Nat) (A:Option Addr) (c:Nat),j≤3∧i = .int .i64 (j:Int)∧Hid (EaR w gl (.slice A (7+j) c) (Ufz b j) wr)) (fun i _=>3-(intOf i).toNat)
    case atStart=>exact⟨0,_,_,by omega,rfl,HX1⟩
    case round =>
     obtain⟨j,A,c,hj,rfl,HR⟩:=hrel;by_cases hlt:j<3
     ·have hji:(j:Int)<3:=by omega
      have hj0:(0:Int)≤(j:Int):=by omega
      have HJ:Hid (j<3):=Qd hlt;go_upto_region 10 with fail
      refine Uk (S:=fun w'=>Box w' gl 139 #[.slice A (7+j) c]) 9 9 (by kernel_rfl) rfl (by kernel_rfl) (by decide) HR.out.l.drew (fun hHeld=>?_);refine Qe 0 (.slice A (7+j) c) (fun w hw=>?_) ?_
      ·have xl:=hw.cell 0;go_simp
      simp only[Qz];refine Qn 1 (.pointer (some ⟨b,0,none⟩)) ?_;refine Qn 2 (.int .i64 (j:Int)) ?_;refine Qn 3 (.pointer (some ⟨b,0,none⟩)) ?_;refine Qn 4 (.pointer (some ⟨b,3,none⟩)) ?_;refine Qn 5 (.pointer (some ⟨b,7,none⟩)) ?_;refine Qn 6 (.pointer (some ⟨b,7+j,none⟩)) ?_;refine Ut fun WD hWD=>?_
      have RD:Hid (EaR w gl (.slice A (7+j) c) (Ufz b j) WD):=Qd (by rw[hWD];exact HR.out.drew);replace hHeld:=RD.out.l;clear hWD HR;refine Qc 7 fun KQ hKQ=>?_
      go_simp;refine hKQ.out _ _ (RD.out.l.alloc _) (fun hHeld=>?_);clear hKQ KQ;refine Ut fun wb hW=>?_
      have Rb:Hid (EaR w gl (.slice A (7+j) c) (Ufz b j) wb):=Qd (by rw[hW];exact RD.out.kept ((Xb _ _).alloc (Xa _) _));have B9:Hid (Box wb WD.heap.size 106 ([ptr b (7+j)]:List Value).toArray):=Qd (by rw[hW];exact Box.new _ _ _);replace hHeld:=Rb.out.l;clear hW RD;refine Qc 8 fun KQ hKQ=>?_
      rw[if_pos (by rfl)];refine Zm _ _ _ 139 rfl _ 106 i0 _ 1 8 underlying139 hi hz0 hz1 hz2 rfl (by decide) (.slice A (7+j) c) ((7+j)) (Ufz b j) rfl (by have:=Rb.out.own;rw[Ulw] at this;exact this) (.slice (some ⟨WD.heap.size,0,none⟩) 1 1) 1 ([ptr b (7+j)]) rfl (Us6 B9.out rfl (by decide)) (by intro u hu;simp at hu;first|(subst hu;rfl)|(rcases hu with h|h|h|h|h<;>subst h<;>rfl)) (by have:=HJ.out;simp only[maxLen];omega) (by have:=HJ.out;omega) Rb.out.below.size ?_;intro v2 w9 hown hgrow hat;have LB:=Qd (Rb.out.lbox hgrow);have HA:=Qd (Rb.out.app hgrow hown (by simp[Ulw]) hat);obtain⟨A2,c2,hv2,-,-⟩:=Zz hown;subst hv2;clear hgrow hown hat Rb B9;go_simp;refine hKQ.out _ _ LB.out (fun hHeld=>?_);clear hKQ KQ;refine Xl (by kernel_rfl) ?_ _;have xl:=LB.out.cell 0;have fl:=LB.out.frozen 0;refine U4 rfl (by rfl) ?_;go_simp;refine Uh6 fun W9 hW9=>?_
      rw[←hW9] at HA;clear hW9 hHeld xl fl LB;have HA2:Hid (EaR w gl (.slice A2 (7+j+1) c2) (Ufz b (j+1)) W9):=Qd (by have:=HA.out;rw[Uwj] at this;exact this);clear HA;go_wp2_with fail;go_roundw
      case rel=>exact⟨j+1,A2,c2,by omega,by go_num,by rw[show 7+(j+1)=7+j+1 by omega];exact HA2⟩
      case measure=>simp[intOf];omega
     ·have hge:¬(j:Int)<3:=by omega
      obtain rfl:j=3:=by omega
      clear hlt;have HX2:Hid (EaR w gl (.slice A (10+0*5) c) (Uek b 0) wr):=Qd (by have:=HR.out;rw[show Uek b 0=Ufz b 3 by simp[Uek]];exact this);clear HR;go_wp2_with fail;go_loopw [41] (fun i wr=>∃(j:Nat) (A:Option Addr) (c:Nat),j≤3∧i = .int .i64 (j:Int)∧Hid (EaR w gl (.slice A (10+j*5) c) (Uek b j) wr)) (fun i _=>3-(intOf i).toNat)
      case atStart=>exact⟨0,_,_,by omega,rfl,HX2⟩
      case round =>
       obtain⟨j,A,c,hj,rfl,HR⟩:=hrel;by_cases hlt:j<3
       ·have hji:(j:Int)<3:=by omega
        have hj0:(0:Int)≤(j:Int):=by omega
        have HJ:Hid (j<3):=Qd hlt;go_upto_region 16 with fail
        refine Uk (S:=fun w'=>Box w' gl 139 #[.slice A (10+j*5) c]) 18 18 (by kernel_rfl) rfl (by kernel_rfl) (by decide) HR.out.l.drew (fun hHeld=>?_);refine Qe 0 (.slice A (10+j*5) c) (fun w hw=>?_) ?_
        ·have xl:=hw.cell 0;go_simp
        simp only[Qz];refine Qn 1 (.pointer (some ⟨b,11+j*6,none⟩)) ?_;refine Qn 2 (.pointer (some ⟨b,11+j*6,none⟩)) ?_;refine Qn 3 (.pointer (some ⟨b,11+j*6,none⟩)) ?_;refine Qn 4 (.pointer (some ⟨b,11+j*6,none⟩)) ?_;refine Qn 5 (.pointer (some ⟨b,11+j*6,none⟩)) ?_;refine Qn 6 (.pointer (some ⟨b,11+j*6+1,none⟩)) ?_;refine Qn 7 (.pointer (some ⟨b,11+j*6,none⟩)) ?_;refine Qn 8 (.pointer (some ⟨b,11+j*6,none⟩)) ?_;refine Qn 9 (.pointer (some ⟨b,11+j*6+2,none⟩)) ?_;refine Qn 10 (.pointer (some ⟨b,11+j*6,none⟩)) ?_;refine Qn 11 (.pointer (some ⟨b,11+j*6,none⟩)) ?_;refine Qn 12 (.pointer (some ⟨b,11+j*6+3,none⟩)) ?_;refine Qn 13 (.pointer (some ⟨b,11+j*6,none⟩)) ?_;refine Qn 14 (.pointer (some ⟨b,11+j*6,none⟩)) ?_;refine Qn 15 (.pointer (some ⟨b,11+j*6+4,none⟩)) ?_;refine Ut fun WD hWD=>?_
        have RD:Hid (EaR w gl (.slice A (10+j*5) c) (Uek b j) WD):=Qd (by rw[hWD];exact HR.out.drew);replace hHeld:=RD.out.l;clear hWD HR;refine Qc 16 fun KQ hKQ=>?_
        go_simp;refine hKQ.out _ _ (RD.out.l.alloc _) (fun hHeld=>?_);clear hKQ KQ;refine Ut fun wb hW=>?_
        have Rb:Hid (EaR w gl (.slice A (10+j*5) c) (Uek b j) wb):=Qd (by rw[hW];exact RD.out.kept ((Xb _ _).alloc (Xa _) _));have B9:Hid (Box wb WD.heap.size 106 ([ptr b (11+j*6),ptr b (11+j*6+1),ptr b (11+j*6+2),ptr b (11+j*6+3),ptr b (11+j*6+4)]:List Value).toArray):=Qd (by rw[hW];exact Box.new _ _ _);replace hHeld:=Rb.out.l;clear hW RD;refine Qc 17 fun KQ hKQ=>?_
        rw[if_pos (by rfl)];refine Zm _ _ _ 139 rfl _ 106 i0 _ 1 8 underlying139 hi hz0 hz1 hz2 rfl (by decide) (.slice A (10+j*5) c) ((10+j*5)) (Uek b j) rfl (by have:=Rb.out.own;rw[Udu] at this;exact this) (.slice (some ⟨WD.heap.size,0,none⟩) 5 5) 5 ([ptr b (11+j*6),ptr b (11+j*6+1),ptr b (11+j*6+2),ptr b (11+j*6+3),ptr b (11+j*6+4)]) rfl (Us6 B9.out rfl (by decide)) (by intro u hu;simp at hu;first|(subst hu;rfl)|(rcases hu with h|h|h|h|h<;>subst h<;>rfl)) (by have:=HJ.out;simp only[maxLen];omega) (by have:=HJ.out;omega) Rb.out.below.size ?_;intro v2 w9 hown hgrow hat;have LB:=Qd (Rb.out.lbox hgrow);have HA:=Qd (Rb.out.app hgrow hown (by simp[Udu]) hat);obtain⟨A2,c2,hv2,-,-⟩:=Zz hown;subst hv2;clear hgrow hown hat Rb B9;go_simp;refine hKQ.out _ _ LB.out (fun hHeld=>?_);clear hKQ KQ;refine Xl (by kernel_rfl) ?_ _;have xl:=LB.out.cell 0;have fl:=LB.out.frozen 0;refine U4 rfl (by rfl) ?_;go_simp;refine Uh6 fun W9 hW9=>?_
        rw[←hW9] at HA;clear hW9 hHeld xl fl LB;have HA2:Hid (EaR w gl (.slice A2 (10+j*5+5) c2) (Uek b (j+1)) W9):=Qd (by have:=HA.out;rw[Uwk] at this;exact this);clear HA;go_wp2_with fail;go_roundw
        case rel=>exact⟨j+1,A2,c2,by omega,by go_num,by rw[show 10+(j+1)*5=10+j*5+5 by omega];exact HA2⟩
        case measure=>simp[intOf];omega
       ·have hge:¬(j:Int)<3:=by omega
        obtain rfl:j=3:=by omega
        clear hlt;have xl:=HR.out.l.cell 0;go_wp2_with fail;go_ret;exact⟨A,c,gl,rfl,HR.out⟩
open Tryz
open Go.RowKit Go.Shelf
def Ujy (g:Nat)(W W':World):Prop:=W'.heap[g]? = W.heap[g]?
theorem Ulx (g:Nat){A B C:World}(h:Ujy g A B)(h':Ujy g B C):Ujy g A C:=h'.trans h
theorem Uz6 {g:Nat}{w:World}(hg:g<w.heap.size)(W:World)(l:Nat)(o o':Obj)(hl:w.heap.size≤l)(_:W.heap[l]? = some o)(_:o.isCells=false)(_:o.isWalk=false):Ujy g W (W.putObj l o') :=
 World.putObj_heap_other (by omega)
theorem Uqw {α:Type}{l:List α}{k:Nat}{x:α}(h:l[k]? = some x):l.take (k+1)=l.take k++[x]:=by
 obtain⟨hk,hx⟩:=List.getElem?_eq_some_iff.1 h;rw[List.take_succ_eq_append_getElem hk,hx]
set_option maxRecDepth 100000 in
theorem Uly {α:Type}(enc:α→Value)(N gl gr c n:Nat)(xs:List α)(hn:xs.length=n)(hn9:n≤1000)(w:World)(hl:w.cell? ⟨gl,0,none⟩=some (.slice (some ⟨gr,0,none⟩) n c))(hr:w.rangeAt gr 0 (xs.map enc))(h1:gl<w.heap.size)(h2:gr<w.heap.size) :
  SeqStopsK Fence.wide (N+1) prog 68 #[.pointer (some ⟨gl,0,none⟩)] (fun z:α=>#[enc z]) (Ujy gr) (fun ys=>ys=xs) (fun pre=>pre <+: xs) n w:=by
 intro l J Jx W hW hJ hJx hY h0;clear hJ hJx;have f1:=(hW.cell (p:=⟨gl,0,none⟩) h1).trans hl
 have HR:Hid (∀wr k x,Ujy gr W wr→xs[k]? = some x→wr.cell? ⟨gr,k,none⟩=some (enc x)):=Qd (fun wr k x hk hx=>by
  have:=(World.cell?_of_block (w:=W) (a:=⟨gr,k,none⟩) hk).trans (hW.cell (p:=⟨gr,k,none⟩) h2);rw[this];have:=hr k (enc x) (by rw[List.getElem?_map,hx];rfl)
  simpa using this)
 have HY:=Qd hY;have HN:=Qd hn;clear hY hl hr hn;refine callsIn_of_wp func68 rfl trivial ?_ rfl;simp only[ntmps68,List.size_toArray,List.length_cons,List.length_nil,Nat.reduceAdd,Nat.reduceSub,Array.replicate_succ,Array.replicate_zero,List.push_toArray,List.append_toArray,List.nil_append,List.cons_append]
 gi_wp2
 gi_loopw [7] (fun i wr=>∃k:Nat,k≤n∧i = .int .i64 k∧J (xs.take k) wr∧Ujy gr W wr)
  (fun i _=>n-(intOf i).toNat)
 case atStart=>exact⟨0,Nat.zero_le _,rfl,h0,rfl⟩
 case round =>
  obtain⟨k,hk,rfl,hJs,hnx⟩:=hrel;by_cases hlt:k<n
  ·obtain⟨x,hx⟩:∃x,xs[k]? = some x:=⟨xs[k]'(by rw[HN.out];exact hlt),Xj _⟩;have g2:=HR.out wr k x hnx hx;obtain⟨ex,hex⟩:∃ex,enc x=ex:=⟨_,rfl⟩;rw[hex] at g2;have HX:=Qd hx;clear hx;have hki:(k:Int)<(n:Int):=by omega
   obtain⟨fn,tmps,assign,body,hy,hR⟩:=HY.out _ x wr hJs (by rw[List.length_take,HN.out];omega);rw[show N+1-1=N from rfl] at hR;rw[hex] at hy;clear hex
   gi_wp2
   refine hR.mono ?_;rintro e W3 (⟨rfl,hJ3,hk3⟩|⟨rfl,hJx3⟩)
   ·gi_wp2
    go_roundw
    case rel=>exact⟨k+1,by omega,by simp,by rw[Uqw HX.out];exact hJ3,Ulx gr hnx hk3⟩
    case measure=>simp[intOf];omega
   ·gi_wp2
    refine Xk (results_none rfl _ _ _) rfl ?_;exact⟨⟨_,rfl⟩,.inr ⟨_,by rw[←Uqw HX.out];exact List.take_prefix _ _,hJx3⟩⟩
  ·obtain rfl:k=n:=by omega
   gi_wp2
   go_end0;exact⟨⟨_,rfl⟩,.inl ⟨_,by rw[←HN.out,List.take_length],hJs⟩⟩
def Ud3 (b:Nat):List Value:=[ptr b 10,ptr b 16,ptr b 22,ptr b 28]
theorem Us7 (b:Nat)(w:World):(Instr.build 109 #[(0,.pointer (some ⟨b,10,none⟩)),(1,.pointer (some ⟨b,16,none⟩)),(2,.pointer (some ⟨b,22,none⟩)),(3,.pointer (some ⟨b,28,none⟩))]).run prog w = .ok (.agg (Ud3 b).toArray) w:=by kernel_rfl
theorem Ung (b:Nat)(w:World):Calls prog 41 #[.pointer (some ⟨b,0,none⟩)] w (Ub (.agg (Ud3 b).toArray) w):=by
 have HB:Hid (Box ((w.alloc (.cells #[.pointer none,.pointer none,.pointer none,.pointer none] 109)).drew) w.heap.size 109 #[.pointer none,.pointer none,.pointer none,.pointer none]):=Qd (Box.new w _ _).drew;have HL:Hid (Below w.heap.size w ((w.alloc (.cells #[.pointer none,.pointer none,.pointer none,.pointer none] 109)).drew)):=Qd (Ue ((Xb _ w).alloc (Xa _) _) 1);go_enter func41,ntmps41;go_upto_region 1 with fail
 refine Xm (S:=fun w'=>Below w.heap.size w w') (by kernel_rfl) (HL.out) (fun hHeld=>?_);refine Qn 0 (.pointer (some ⟨b,0,none⟩)) ?_;refine Qn 1 (.pointer (some ⟨b,0,none⟩)) ?_;refine Qn 2 (.pointer (some ⟨b,3,none⟩)) ?_;refine Qn 3 (.pointer (some ⟨b,10,none⟩)) ?_;refine Qn 4 (.pointer (some ⟨b,0,none⟩)) ?_;refine Qn 5 (.pointer (some ⟨b,0,none⟩)) ?_;refine Qn 6 (.pointer (some ⟨b,11,none⟩)) ?_;refine Qn 7 (.pointer (some ⟨b,11,none⟩)) ?_;refine Qn 8 (.pointer (some ⟨b,16,none⟩)) ?_;refine Qn 9 (.pointer (some ⟨b,0,none⟩)) ?_;refine Qn 10 (.pointer (some ⟨b,0,none⟩)) ?_;refine Qn 11 (.pointer (some ⟨b,11,none⟩)) ?_;refine Qn 12 (.pointer (some ⟨b,17,none⟩)) ?_;refine Qn 13 (.pointer (some ⟨b,22,none⟩)) ?_;refine Qn 14 (.pointer (some ⟨b,0,none⟩)) ?_;refine Qn 15 (.pointer (some ⟨b,0,none⟩)) ?_;refine Qn 16 (.pointer (some ⟨b,11,none⟩)) ?_;refine Qn 17 (.pointer (some ⟨b,23,none⟩)) ?_;refine Qn 18 (.pointer (some ⟨b,28,none⟩)) ?_;refine Qc 19 fun KQ hKQ=>?_
 rw[if_pos (by rfl)];refine Up4 109 _ rfl _ (by simp only[List.map_toArray,List.map_cons,List.map_nil];exact Us7 b _) ?_;go_simp;refine hKQ.out _ _ HL.out (fun hHeld=>?_);clear hKQ KQ;refine Qc 20 fun KQ hKQ=>?_
 rw[if_pos (by rfl)];refine wp_store_row 109 _ _ rfl w.heap.size (Ud3 b).toArray rfl rfl 109 _ HB.out (by kernel_rfl) rfl (by simp[Ud3,ptr,Value.oneCell']) ?_;go_simp;refine hKQ.out _ _ (Uc HL.out (Xa _) _) (fun hHeld=>?_);clear hKQ KQ;refine Xl (by kernel_rfl) ?_ _;clear hHeld;go_wp2_with fail;exact Xk (results_cell_row results41 _ _ w.heap.size 109 _ (0,0) _ rfl (HB.out.row _) underlying109 rfl (by kernel_rfl)) rfl ⟨rfl,Uc HL.out (Xa _) _⟩
end Go.Proofs.YtdaflmjfeoacaaaGreat
