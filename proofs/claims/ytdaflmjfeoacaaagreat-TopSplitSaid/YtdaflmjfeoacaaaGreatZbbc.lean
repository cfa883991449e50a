/- Part of the proof of TopTry, TopSplit: FiK. Conditions: none. -/
import Derived.Test.YtdaflmjfeoacaaaGreatZbba
import Derived.Test.YtdaflmjfeoacaaaGreatZbbb
set_option linter.all false
set_option maxHeartbeats 16000000
set_option maxRecDepth 4000
namespace Go.Proofs.YtdaflmjfeoacaaaGreat
open Tryz
open Go.RowKit
theorem Uz2 (x:Sta)(c:Uag)(s:Smp)(w:World):Calls prog 82 #[stv x,Ucf c,Udr s] w (Ub (.tuple #[stv (Uej x c s).1,.int .i64 (Uej x c s).2]) w):=by
 by_cases h:(Uei (Zs x) c s).2=0
 ·exact Uzu x c s w h
 ·exact Uwf x c s w h
def Uf3 (x:Sta)(c:Uag)(l:List Smp):Sta:=l.foldl (fun x s=>(Uej x c s).1) (Zs x)
theorem Uz3 (x:Sta)(c:Uag)(l:List Smp)(s:Smp):Uf3 x c (l++[s])=(Uej (Uf3 x c l) c s).1:=by unfold Uf3;rw[List.foldl_append];rfl
structure RnR (w:World) (ys cs:Array Value) (W:World):Prop where
 x:Box W w.heap.size 52 ys
 c:Box W (w.heap.size+1) 27 cs
 r:Box W (w.heap.size+1+1) 52 Uae.cells
 below:Below w.heap.size w W
theorem RnR.kept {w W W':World}{ys cs:Array Value}(H:RnR w ys cs W)(hb:Below W.heap.size W W'):RnR w ys cs W':=⟨H.x.kept hb,H.c.kept hb,H.r.kept hb,Ua H.below hb H.below.size⟩
theorem RnR.new (w:World)(ys cs:Array Value):RnR w ys cs (((w.alloc (.cells ys 52)).alloc (.cells cs 27)).alloc (.cells Uae.cells 52)) :=
 ⟨((Box.new w _ _).alloc _).alloc _,(Box.at_ (by simp) _ _).alloc _,Box.at_ (by simp) _ _,(((Xb _ w).alloc (Xa _) _).alloc (by simp) _).alloc (by simp;omega) _⟩
theorem RnR.known {w W:World}{xs ys cs:Array Value}(H:RnR w xs cs W):RnR w ys cs (W.setRow w.heap.size ys):=⟨H.x.row _,H.c.row_far (by omega) _,H.r.row_far (by omega) _,Uc H.below (Xa _) _⟩
theorem Uqq {X:Nat→Prop}(x:Sta)(c:Uag){v:Value}{l:List Smp}{w:World}(h:SmX X w v l)(hl:l.length≤1000):Calls prog 55 #[stv x,Ucf c,v] w (Ub (stv (Uf3 x c l)) w):=by
 obtain⟨A,cc,rfl,hc1,hc2,-⟩:=h.1.form;unfold maxLen at hc2;have KN:=Qd (fun w=>Ugj x w);have KF:=Qd (fun(y:Sta) (s:Smp) w=>Uz2 y c s w);have HXS:Hid (∀y:Sta,(prog.info? 52).map (·.size)=some y.cells.size):=Qd (fun _=>Yj);have HXE:Hid (∀y z:Sta,y.cells.size=z.cells.size):=Qd (fun _ _=>rfl);have HXO:Hid (∀y:Sta,y.cells.all (·.oneCell')=true):=Qd Sta.one;have HCS:Hid ((prog.info? 27).map (·.size)=some c.cells.size):=Qd Ua4;have R0:=Qd (RnR.new w x.cells c.cells);have HQ:=Qd h;obtain⟨n,hn⟩:∃n,l.length=n:=⟨_,rfl⟩;rw[hn] at hl hc1 HQ ⊢;have HN:=Qd hn;have H0:Hid (Uf3 x c (l.take 0)=Zs x):=Qd rfl;have HE:Hid (Uf3 x c (l.take n)=Uf3 x c l):=Qd (by rw[←hn,List.take_length])
 have HST:Hid (∀j s,l[j]? = some s→Uf3 x c (l.take (j+1))=(Uej (Uf3 x c (l.take j)) c s).1):=Qd (fun j s hs=>by
  obtain⟨hj,hg⟩:=List.getElem?_eq_some_iff.1 hs
  rw[List.take_succ_eq_append_getElem hj,hg,Uz3])
 obtain⟨res,hres⟩:∃res,Uf3 x c l=res:=⟨_,rfl⟩;rw[hres] at HE ⊢;obtain⟨F,hF⟩:∃F:Nat→Sta,(fun j=>Uf3 x c (l.take j))=F:=⟨_,rfl⟩;have hFa:∀j,Uf3 x c (l.take j)=F j:=fun j=>by rw[←hF]
 have H0':Hid (F 0=Zs x):=Qd (by rw[←hFa];exact H0.out);have HE':Hid (F n=res):=Qd (by rw[←hFa];exact HE.out);have HST':Hid (∀j s,l[j]? = some s→F (j+1)=(Uej (F j) c s).1):=Qd (fun j s hs=>by rw[←hFa,←hFa];exact HST.out j s hs);clear h hn H0 HE HST hres hF hFa;dsimp only[stv,Ucf] at KN KF ⊢;go_enter func55,ntmps55;go_upto_region 1 with fail
 refine Uq fun W0 hW0=>?_
 have R1:Hid (RnR w x.cells c.cells W0):=Qd (by rw[hW0];exact R0.out);clear hW0 R0;go_wp2_with (with_reducible first|refine Qg 52 ?_|refine Qh 52 ?_|refine Qg 27 ?_|refine Qi 40 ?_|refine Qh 40 ?_);refine Uo.go w.heap.size rfl R1.out.x underlying52 rfl (HXS.out x) ?_;go_wp2_with fail;refine(KN.out _).mono ?_;rintro e w1 ⟨rfl,hb⟩;have R2:=Qd (R1.out.kept hb);clear hb R1 KN;go_wp2_with (with_reducible first|refine Qg 52 ?_|refine Qh 52 ?_|refine Qg 27 ?_|refine Qi 40 ?_|refine Qh 40 ?_);refine Uf.go w.heap.size rfl rfl R2.out.x (HXS.out _) (HXE.out _ _) (HXO.out _) ?_;go_upto_region 2 with fail
 refine Uq fun W2 hW2=>?_
 have R3:Hid (RnR w (F 0).cells c.cells W2):=Qd (by rw[hW2,H0'.out];exact R2.out.known);clear hW2 R2 H0';go_wp2_with fail;go_loopw [13] (fun i wr=>∃j:Nat,j≤n∧i = .int .i64 (j:Int)∧Hid (RnR w (F j).cells c.cells wr)) (fun i _=>n-(intOf i).toNat)
 case atStart=>exact⟨0,Nat.zero_le _,rfl,R3⟩
 case round =>
  obtain⟨j,hj,rfl,HR⟩:=hrel;clear R3;by_cases hlt:j<n;rotate_right
  focus
   have hge:¬(j:Int)<(n:Int):=by omega
   obtain rfl:j=n:=by omega
   rw[HE'.out] at HR
  rotate_right
  focus
   obtain⟨s,hs⟩:∃s,l[j]? = some s:=⟨l[j]'(by rw[HN.out];exact hlt),Xj _⟩;obtain⟨b,off,rfl,hbl,-,hrow⟩:=HQ.out.at_ hs;have HW:Hid (wr.rangeAt b (off+j*5) (sml s)):=Qd (fun q u hu=>(HR.out.below.cell (p:=⟨b,off+j*5+q,none⟩) hbl).trans (hrow q u hu));have S5:Hid ((prog.info? 40).map (·.size)=some (sml s).length):=Qd Ye;have S5A:Hid ((prog.info? 40).map (·.size)=some (sml s).toArray.size):=Qd Ye;have S51:Hid ((sml s).toArray.all (·.oneCell')=true):=Qd (by simp[sml,Smp.cells,Value.oneCell']);have KFS:=Qd (fun w=>KF.out (F j) s w);have es:Udr s = .agg (sml s).toArray:=rfl;rw[es] at KFS;have HNX:=Qd (HST'.out j s hs);have hji:(j:Int)<(n:Int):=by omega
   clear hrow hs es;generalize (Uej (F j) c s).2=er at *;rw[←HNX.out] at KFS;go_wp2_with (with_reducible first|refine Qg 52 ?_|refine Qh 52 ?_|refine Qg 27 ?_|refine Qi 40 ?_|refine Qh 40 ?_);refine Ubl.go rfl b (off+j*5) rfl HW.out underlying40 rfl S5.out ?_;go_wp2_with (with_reducible first|refine Qg 52 ?_|refine Qh 52 ?_|refine Qg 27 ?_|refine Qi 40 ?_|refine Qh 40 ?_);refine Uf.go wr.heap.size rfl rfl (Box.new _ _ _) S5A.out rfl S51.out ?_;go_upto_region 5 with fail
   refine Uq fun W4 hW4=>?_
   have R4:Hid (RnR w (F j).cells c.cells W4):=Qd (by rw[hW4];exact HR.out.kept (Uc ((Xb _ wr).alloc (Xa _) _) (Xa _) _));have B4:Hid (Box W4 wr.heap.size 40 (sml s).toArray):=Qd (by rw[hW4];exact(Box.new _ _ _).row _);clear hW4 HR HW;go_wp2_with (with_reducible first|refine Qg 52 ?_|refine Qh 52 ?_|refine Qg 27 ?_|refine Qi 40 ?_|refine Qh 40 ?_);refine Uo.go w.heap.size rfl R4.out.x underlying52 rfl (HXS.out _) ?_;go_wp2_with (with_reducible first|refine Qg 52 ?_|refine Qh 52 ?_|refine Qg 27 ?_|refine Qi 40 ?_|refine Qh 40 ?_);refine Uo.go (w.heap.size+1) rfl R4.out.c underlying27 rfl HCS.out ?_
  all_goals
   go_wp2_with (with_reducible first|refine Qg 52 ?_|refine Qh 52 ?_|refine Qg 27 ?_|refine Qi 40 ?_|refine Qh 40 ?_)
  rotate_right
  focus
   refine Uo.go w.heap.size rfl HR.out.x underlying52 rfl (HXS.out _) ?_
  rotate_right
  focus
   refine Ubl.go rfl wr.heap.size 0 rfl B4.out.range underlying40 rfl S5.out ?_;go_wp2_with fail;refine(KFS.out _).mono ?_;rintro e w5 ⟨rfl,hb⟩;have R5:=Qd (R4.out.kept hb);clear hb R4 B4 KFS
  all_goals
   go_wp2_with (with_reducible first|refine Qg 52 ?_|refine Qh 52 ?_|refine Qg 27 ?_|refine Qi 40 ?_|refine Qh 40 ?_)
  ·refine Uf.go w.heap.size rfl rfl R5.out.x (HXS.out _) (HXE.out _ _) (HXO.out _) ?_;refine Udg fun W6 hW6=>?_
   have R6:Hid (RnR w (F (j+1)).cells c.cells W6):=Qd (by rw[hW6];exact R5.out.known);clear hW6 R5;go_wp2_with fail;go_roundw
   case rel=>exact⟨j+1,by omega,by go_num,R6⟩
   case measure=>simp[intOf];omega
  ·refine Uf.go (w.heap.size+1+1) rfl rfl HR.out.r (HXS.out _) (HXE.out _ _) (HXO.out _) ?_;go_wp2_with fail;exact Xk (results_cell_row results55 _ _ (w.heap.size+1+1) 52 _ (0,0) _ rfl (HR.out.r.row _) underlying52 rfl (HXS.out _)) rfl ⟨rfl,Uc HR.out.below (by omega) _⟩
end Go.Proofs.YtdaflmjfeoacaaaGreat
