/- Texts of this claim. -/
import Derived.Test.YtailffhfhekkpaaDoorS9
import Derived.Test.YtailffhfhekkpaaDoorVc11
import Derived.Test.YtailffhfhekkpaaDoorCards
import Derived.Test.YtailffhfhekkpaaDoorTie
import Derived.WalkKit
import Derived.ProofKit
import Derived.OpenShut
import Derived.Deep.DeepHandedRow
import Derived.Lib.LaidTab
set_option linter.unusedVariables false
set_option linter.unusedSimpArgs false
namespace Go.Proofs.YtailffhfhekkpaaDoor.S62c
set_option maxHeartbeats 20000000
open Go Go.Proofs.YtailffhfhekkpaaDoor.Vc Go.Proofs Go.Proofs.YtailffhfhekkpaaDoor.S62
theorem tL {t:Ty} (h1:∀x,1≤wt t x) (xs:List t.D):xs.length+1≤wt (.sl t) xs:=by
 have e:wt (.sl t) xs=(xs.map (wt t)).sum+1:=rfl
 rw [e]
 clear e
 induction xs with
 |nil=>simp
 |cons x xs ih=>have:=h1 x;rw [List.map_cons,List.sum_cons,List.length_cons];omega
theorem Ep {t:Ty} {xs:List t.D} {x:t.D} (h:x∈xs):wt t x+1≤wt (.sl t) xs:=by
 have e:wt (.sl t) xs=(xs.map (wt t)).sum+1:=rfl
 rw [e]
 clear e
 induction xs with
 |nil=>cases h
 |cons y ys ih=>
  rw [List.map_cons,List.sum_cons]
  rcases List.mem_cons.1 h with rfl|h
  ·omega
  ·have:=ih h;omega
theorem Ol (xs:List Int):xs.length+1≤wt (.sl (.int .i64)) xs:=tL (t:= .int .i64) (fun _=>Nat.le_refl 1) xs
theorem zg (p:Int×(List Int×Unit)):wt (.cons (.int .i64) (.cons (.sl (.int .i64)) .nil)) p=1+(wt (.sl (.int .i64)) p.2.1+0):=rfl
theorem Eo (l:List (Int×(List Int×Unit))):l.length+1≤wt (.sl (.cons (.int .i64) (.cons (.sl (.int .i64)) .nil))) l∧∀p∈l,p.2.1.length≤wt (.sl (.cons (.int .i64) (.cons (.sl (.int .i64)) .nil))) l:=by
 refine⟨tL (t:= .cons (.int .i64) (.cons (.sl (.int .i64)) .nil)) (fun x=>by rw [zg];omega) l,fun p hp=> ?_⟩
 have:=Ep (t:= .cons (.int .i64) (.cons (.sl (.int .i64)) .nil)) hp
 rw [zg] at this
 have:=Ol p.2.1
 omega
theorem Li (x:List Int×(Int×(Int×(Int×(Int×(Int×Unit)))))):wt (.cons (.sl (.int .i64)) (.cons (.int .i64) (.cons (.int .i64) (.cons (.int .i64) (.cons (.int .i64) (.cons (.int .i64) .nil)))))) x=wt (.sl (.int .i64)) x.1+(1+(1+(1+(1+(1+0))))):=rfl
theorem zf (p:(Int×(Int×(Int×(Int×(List (List UInt8)×Unit)))))×(Int×Unit)):wt (.cons (.cons (.int .i64) (.cons (.int .i64) (.cons (.int .i64) (.cons (.int .i64) (.cons (.sl .str) .nil))))) (.cons (.int .i64) .nil)) p=(1+(1+(1+(1+(wt (.sl .str) p.1.2.2.2.2.1+0)))))+(1+0):=rfl
theorem Em (l:List ((Int×(Int×(Int×(Int×(List (List UInt8)×Unit)))))×(Int×Unit))):l.length+1≤wt (.sl (.cons (.cons (.int .i64) (.cons (.int .i64) (.cons (.int .i64) (.cons (.int .i64) (.cons (.sl .str) .nil))))) (.cons (.int .i64) .nil))) l∧∀p∈l,p.1.2.2.2.2.1.length≤wt (.sl (.cons (.cons (.int .i64) (.cons (.int .i64) (.cons (.int .i64) (.cons (.int .i64) (.cons (.sl .str) .nil))))) (.cons (.int .i64) .nil))) l:=by
 refine⟨tL (t:= .cons (.cons (.int .i64) (.cons (.int .i64) (.cons (.int .i64) (.cons (.int .i64) (.cons (.sl .str) .nil))))) (.cons (.int .i64) .nil)) (fun x=>by rw [zf];omega) l,fun p hp=> ?_⟩
 have h:=Ep (t:= .cons (.cons (.int .i64) (.cons (.int .i64) (.cons (.int .i64) (.cons (.int .i64) (.cons (.sl .str) .nil))))) (.cons (.int .i64) .nil)) hp
 rw [zf] at h
 have h2:=tL (t:= .str) (fun x=>(om (1≤List.length x+1))) p.1.2.2.2.2.1
 omega
abbrev Iq:Ty:= .cons (.cons (.sl (.int .i64)) (.cons (.int .i64) (.cons (.int .i64) (.cons (.int .i64) (.cons (.int .i64) (.cons (.int .i64) .nil)))))) (.cons .str (.cons .str (.cons (.int .u16) (.cons (.sl (.cons (.cons (.int .i64) (.cons (.int .i64) (.cons (.int .i64) (.cons (.int .i64) (.cons (.sl .str) .nil))))) (.cons (.int .i64) .nil))) (.cons (.sl (.cons (.int .i64) (.cons (.sl (.int .i64)) .nil))) (.cons (.sl .bool) .nil))))))
theorem gf (x:Iq.D) {B:Nat} (h:wt Iq x≤B):x.1.1.length≤B∧x.2.2.1.length≤B∧(∀m∈x.2.2.2.2.1,m.1.2.2.2.2.1.length≤B)∧∀p∈x.2.2.2.2.2.1,p.2.1.length≤B:=by
 have e:wt Iq x=wt (.cons (.sl (.int .i64)) (.cons (.int .i64) (.cons (.int .i64) (.cons (.int .i64) (.cons (.int .i64) (.cons (.int .i64) .nil)))))) x.1+(wt .str x.2.1+(wt .str x.2.2.1+(1+(wt (.sl (.cons (.cons (.int .i64) (.cons (.int .i64) (.cons (.int .i64) (.cons (.int .i64) (.cons (.sl .str) .nil))))) (.cons (.int .i64) .nil))) x.2.2.2.2.1+(wt (.sl (.cons (.int .i64) (.cons (.sl (.int .i64)) .nil))) x.2.2.2.2.2.1+(wt (.sl .bool) x.2.2.2.2.2.2.1+0)))))):=rfl
 have h1:=Li x.1
 have h2:=Ol x.1.1
 have h3:wt .str x.2.2.1=x.2.2.1.length+1:=rfl
 obtain⟨_,h4⟩:=Em x.2.2.2.2.1
 obtain⟨_,h5⟩:=Eo x.2.2.2.2.2.1
 refine⟨by omega,by omega,fun m hm=> ?_,fun p hp=> ?_⟩
 ·have:=h4 m hm;omega
 ·have:=h5 p hp;omega
end Go.Proofs.YtailffhfhekkpaaDoor.S62c
namespace Go.Proofs.YtailffhfhekkpaaDoor.Cd
set_option maxHeartbeats 20000000
open Go Go.Proofs.YtailffhfhekkpaaDoor.Vc Go.Proofs Go.Proofs.YtailffhfhekkpaaDoor.S62 Go.Proofs.YtailffhfhekkpaaDoor.S62c Go.ChangeShapes Go.WideShapes Go.ChangeAt Go.RowKit
set_option maxRecDepth 100000
set_option linter.unusedVariables false
section
theorem pU {H:Type}:∀l:List (DataW H),Rows.uptoBulkAll l=(l.map Rows.uptoBulk).sum
 |[]=>rfl
 |d::l=>by rw [Rows.uptoBulkAll,pU l];rfl
theorem W8 {H:Type}:Bulk (H:=H) Rows.uptoBulk where
 one d:=by cases d with
  |lit l=>cases l<;>simp [Rows.uptoBulk]
  |_=>simp [Rows.uptoBulk]
 str b:=by simp [Rows.uptoBulk]
 sl es sp:=by rw [Rows.uptoBulk,pU,pU];omega
 agg ps:=by rw [Rows.uptoBulk,pU];omega
theorem A3:laidOutB Tryd.prog=true:=by kernel_rfl
theorem own:ownKnob Tryd.prog.godebug=none:=by kernel_rfl

section
variable {H:Type} {enc:TypeId×Value→H} {P:Program}
theorem sQ {f:Func} {s:ChangeSpec} {apart fresh handsOn again:Bool} {W W':World} {args:Array Value} {v:Value} {ds gs:List (DataW H)} {before pa pv:List MemPlace}
  (hW:DataW.Whole enc P f.params.toList s.vars apart W args.toList ds gs before)
  (hres:∀(b:Nat) (sp:Nat→Bool) (hd:Bool),DataW.TrodAll enc P W' b sp hd f.resultTypes.toList (v.resultList f.resultTypes.size) (s.fn H (ds++gs)).results [])
  (hargs:∀sp:Nat→Bool,(∀p∈before,sp p.block=true)→DataW.TrodAll enc P W' 0 sp true f.params.toList args.toList (s.fn H (ds++gs)).args pa)
  (hvars:∀sp:Nat→Bool,(∀p∈before,sp p.block=true)→DataW.TrodVars enc P W' sp s.vars (s.fn H (ds++gs)).vars pv)
  (hps:before=pa++pv) (hb:Below W.heap.size W W')
  (hok:∀(j:Nat) (t:TypeId) (r:Value),f.resultTypes[j]? =some t→(v.resultList f.resultTypes.size)[j]? =some r→Value.okWide P W' .any 0 t r):
  s.post enc P f apart fresh handsOn again W args v W':=by
 have hlt:∀p∈before,p.block<W.heap.size:=fun p hp=>by simpa using hW.lt p hp
 have hold:∀p∈before,(fun b=>decide (b<W.heap.size)) p.block=true:=fun p hp=>by simpa using hW.lt p hp
 refine⟨ds,gs,before, [],pa,pv,hW,hres _ _ _,hargs _ hold,hvars _ hold,World.keptBut_mono (fun p hp=>⟨hp,?_⟩) (hb.frame (· ∈before)),fun _=> ?_⟩
 ·rw [hps,List.mem_append] at hp
  exact Or.inr hp
 ·obtain⟨_,_,_,_,_,hz,hn⟩:=hW
  refine⟨hok,_,_,([]++pa)++pv,⟨[]++pa,pv,trodAll_append (hargs _ (fun _ _=>rfl)) (hres _ _ _),hvars _ (fun _ _=>rfl),rfl,?_,?_⟩,?_⟩
  ·intro b off hp
   have hp':MemPlace.cell b off∈before:=by rw [hps];simpa using hp
   rw [hb.frozen (hlt _ hp')]
   exact hz b off hp'
  ·intro ha
   have:=hn ha
   rw [hps] at this
   simpa using this
  ·intro p hp _
   rw [hps]
   simpa using hp
end
end
end Go.Proofs.YtailffhfhekkpaaDoor.Cd
