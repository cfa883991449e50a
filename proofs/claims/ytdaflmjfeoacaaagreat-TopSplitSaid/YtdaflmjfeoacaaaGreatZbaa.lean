/- Part of the proof of TopTry, TopSplit: Facts. Conditions: none. -/
import Derived.Test.YtdaflmjfeoacaaaGreatRows
import Derived.Test.YtdaflmjfeoacaaaGreatChecked
import Derived.JoinedOf
import Derived.KernelRfl
set_option linter.all false
set_option maxHeartbeats 16000000
set_option maxRecDepth 4000
namespace Go.Proofs.YtdaflmjfeoacaaaGreat
theorem U7 {a b:Bool}(ha:a=true)(hb:b=true):(a&&b)=true:=by rw[ha,hb];rfl
def spc:Char:=Char.ofNat 32
theorem Uke (a r:List Char)(h:∀c∈a,c≠spc):wordsSigns (a++spc::r)=a::wordsSigns r:=by
 induction a with
 | nil=>rfl
 | cons c a ih =>
  have hc:c≠spc:=h c (by simp)
  rw[List.cons_append,wordsSigns.eq_3 _ _ (fun e=>hc e),ih (fun x hx=>h x (by simp[hx]))]
theorem Urv (a b c d:String)(ha:a.toList.all (· != spc)=true)(hb:b.toList.all (· != spc)=true)(hc:c.toList.all (· != spc)=true) :
  wordsSigns (a ++ " " ++ b ++ " " ++ c ++ " " ++ d).toList = a.toList :: b.toList :: c.toList :: wordsSigns d.toList := by
 have hs : (" " : String).toList = [spc] := rfl
 have hne:∀s:String,s.toList.all (· != spc)=true→∀x∈s.toList,x≠spc:=fun s h x hx=>by
  have:=List.all_eq_true.1 h x hx
  simpa using this
 simp only[String.toList_append,hs,List.append_assoc,List.cons_append,List.nil_append]
 rw[Uke _ _ (hne a ha),Uke _ _ (hne b hb),Uke _ _ (hne c hc)]
theorem U4u : Tryz.checked.prog.initOrder = "harness" ++ " " ++ "bfc7f462febccef6a012de4ff77fe08c8f21cc710ff47b19ec5a03039e89e0d3" ++ " " ++ "cut" ++ " " ++ "at outrigger/outriggertop.TopTry outrigger/outriggertop.TopSplit" := by kernel_rfl
theorem Uu7 : ∃ r, wordsSigns Tryz.checked.prog.initOrder.toList = "harness".toList :: "bfc7f462febccef6a012de4ff77fe08c8f21cc710ff47b19ec5a03039e89e0d3".toList :: "cut".toList :: r :=
 ⟨_,by rw[U4u];exact Urv _ _ _ _ (by kernel_rfl) (by kernel_rfl) (by kernel_rfl)⟩
theorem Unz : ∃ r, behindMainWord (wordsSigns Tryz.checked.prog.initOrder.toList) = "cut".toList :: r := by
 obtain⟨r,h⟩:=Uu7
 exact⟨r,by rw[h];kernel_rfl⟩
theorem Umr:laidOutB Tryz.checked.prog=true:=by kernel_rfl
theorem Ui1:mapsRowed Tryz.checked.prog=true:=by kernel_rfl
theorem Utw:(Tryz.checked.prog.stops==[])=true:=by kernel_rfl
theorem Ui2:(Tryz.checked.prog.stopKnobs==[])=true:=by kernel_rfl
theorem Ugs:Tryz.checked.prog.stopsHeard=true:=by kernel_rfl
theorem Upl:Tryz.checked.prog.laysLater=false:=by kernel_rfl
theorem Ukf:Tryz.checked.prog.bearsReflect=false:=by kernel_rfl
theorem Urw:Tryz.checked.prog.doorFits []=true:=by kernel_rfl
theorem Upm (r : List (List Char)) : stripLifts liftWords ("cut".toList :: r) = ([], "cut".toList :: r) := by kernel_rfl
theorem Urx (P : Program) (h : ∃ r, behindMainWord (wordsSigns P.initOrder.toList) = "cut".toList :: r) (h1 : P.laysLater = false) (h2 : P.bearsReflect = false) (h3 : P.doorFits [] = true) : P.mayEnter = true := by
 obtain⟨r,h⟩:=h
 unfold Program.mayEnter
 rw[h]
 simp only[Upm,h1,h2,h3]
 simp
theorem Upn (P : Program) (h : ∃ r, behindMainWord (wordsSigns P.initOrder.toList) = "cut".toList :: r) : P.headLifts = [] := by
 obtain⟨r,h⟩:=h
 unfold Program.headLifts
 simp only[h,Upm]
 simp
theorem Uma : (some "cut".toList == some "carried".toList) = false := by kernel_rfl
theorem Un0 (P : Program) (h : ∃ r, behindMainWord (wordsSigns P.initOrder.toList) = "cut".toList :: r) : P.liftsFinal = false := by
 have hl:=Upn P h
 obtain⟨r,h⟩:=h
 unfold Program.liftsFinal
 simp only[h,hl,List.head?_cons,Uma]
 simp
theorem Uxw : ("cut".toList == "gc".toList) = false ∧ ("cut".toList == "spec".toList) = false ∧ ("cut".toList == "cut".toList) = true := ⟨by kernel_rfl, by kernel_rfl, by kernel_rfl⟩
theorem U4v (P : Program) (h : ∃ r, behindMainWord (wordsSigns P.initOrder.toList) = "cut".toList :: r) : P.make = some .cut := by
 obtain⟨r,h⟩:=h
 unfold Program.make
 simp only[h,Uxw]
 simp
theorem Ukg:Tryz.checked.prog.mayEnter=true:=Urx _ Unz Upl Ukf Urw
theorem Upo:(false==Tryz.checked.prog.liftsFinal)=true:=by rw[Un0 _ Unz];rfl
theorem Uxx:(Tryz.checked.prog.make==some .cut)=true:=by rw[U4v _ Unz];rfl
theorem Ui3:(true==Tryz.checked.prog.plainKeys)=true:=by kernel_rfl
end Go.Proofs.YtdaflmjfeoacaaaGreat
