/- Texts of this claim. -/
import Derived.Test.YtlmegkgkipjgbaaDoorS5
set_option linter.unusedVariables false
set_option linter.unusedSimpArgs false
namespace Go.Proofs.YtlmegkgkipjgbaaDoor.S33c
set_option maxHeartbeats 20000000
open Go Go.Proofs.YtlmegkgkipjgbaaDoor.Vc Go.Proofs
set_option maxRecDepth 100000
set_option linter.unusedVariables false
open Go.Proofs.YtlmegkgkipjgbaaDoor.S33
theorem tkA {α:Type} {l:List α} {k:Nat} (h:l.length≤k):l.take k=l:=List.take_of_length_le h
def cpO:Nat→List (List (List (List UInt8)))→List V
 |_, []=> []
 |i,_::l=> .own (.sl .str) i::cpO (i+1) l
def cpB (rows:List (List (List UInt8))) (vals:List (List (List (List UInt8)))):List Blk:= .row true (.sl .str) rows:: .cells (cpO 2 vals)::vals.map (.row true (.sl .str))
noncomputable def sCpy:List V→Option (Prop×V×List Blk)
 |[.agg [.int .i64 me,.str sh,.sl false (.sl .str) rows,.sl false (.sl (.sl .str)) vals]]=>some ((2≤vals.length∧vals.length≤7)∧rows.length≤1048576∧(∀x∈rows,x.length≤1048576)∧∀x∈vals,x.length≤1048576∧∀y∈x,y.length≤1048576,.agg [.int .i64 me,.str sh,.own (.sl .str) 0,.own (.sl (.sl .str)) 1],cpB rows vals)
 |_=>none
theorem bCpy (me:Int) (sh:List UInt8) (rows:List (List (List UInt8))) (vals:List (List (List (List UInt8)))):bodyQ (En CRPs tys G6 QOth [1000001,1000002,1000009,8000030,11000028]) Tryd.f42 [.k,.k,.o (.sl .str),.c []] sCpy [aSt me sh rows vals]:=by
 rintro⟨hn,hp0,hp1,hp2⟩
 rcases vals with _|⟨v0,_|⟨v1,_|⟨v2,_|⟨v3,_|⟨v4,_|⟨v5,_|⟨v6,_|⟨v7,t⟩⟩⟩⟩⟩⟩⟩⟩
 all_goals first|(exfalso;simp only [List.length_cons,List.length_nil] at hn;omega)|skip
 all_goals
  refine⟨w4',.inl ?_⟩
  refine⟨4, [(1,.k),(2,.k),(3,.c [(2,(.sl .str))]),(4,.k)],fun nM vs H=>∃(k:Nat),k≤rows.length∧nM=rows.length-k∧vs= [.p 0,.p 1,.p 2,.i k]∧H= [cSt me sh rows _,.cells [.i 0,.str ([]),.nils,.nils],.cells [.i me,.str sh,.own (.sl .str) 3,.nils],.r (.sl .str) (rows.take k)],⟨rfl,rows.length,0,by omega,by omega,rfl,rfl⟩,?_⟩
  rintro nM vs H ⟨k,hc1_0,rfl,rfl,rfl⟩
  refine yn ((k:Int)<(rows.length:Int)) (fun h0=> ?_) fun h0=> ?_
  ·have hkl:k<rows.length:=by omega
   have hkm:=hp1 _ (gmem [] rows k hkl)
   refine⟨by kernel_rfl,ix k rows.length,w2',l0 (rows.getD k []).length,w2',lT rows k,w3',r64 (k+1),?_⟩
   exact⟨rfl,rows.length-(k+1),by omega,k+1,by omega,rfl,rfl,by rw [takeD [] rows k hkl];rfl⟩
  have hr:rows.take k=rows:=List.take_of_length_le (by omega)
  refine .inr ?_
  refine ya ?_
  refine .inl ?_
  refine⟨4, [(1,.k),(2,.k),(3,.k),(5,.k),(6,.o (.sl .str)),(7,.k)],fun nM vs H=>∃(j0:Nat),j0≤v0.length∧nM=v0.length-j0∧vs= [.p 0,.p 1,.p 2,.i 0,.own (.sl .str) 4,.i j0]∧H= [cSt me sh rows _,.cells [.i 0,.str ([]),.nils,.nils],.cells [.i me,.str sh,.own (.sl .str) 3,.nils],.r (.sl .str) (rows.take k),.r (.sl .str) (v0.take j0)],⟨rfl,v0.length,0,by omega,by omega,rfl,rfl⟩,?_⟩
  rintro nM vs H ⟨j0,hc2_0,rfl,rfl,rfl⟩
  have hvl:=(hp2 v0 (by simp)).1
  refine⟨qi,yn ((j0:Int)<(v0.length:Int)) (fun h2=> ?_) fun h2=> ?_⟩
  ·have hvm:=(hp2 v0 (by simp)).2 _ (gmem [] v0 j0 (by omega))
   refine⟨qi,ix j0 v0.length,w2',l0 (v0.getD j0 []).length,w2',lT v0 j0,r64 (j0+1),?_⟩
   exact⟨rfl,v0.length-(j0+1),by omega,j0+1,by omega,rfl,rfl,by rw [takeD [] v0 j0 (by omega)];rfl⟩
  refine⟨w3',w3',r64 1,?_⟩
 all_goals
  refine ya ?_
  refine .inl ?_
  refine⟨7, [(1,.k),(2,.k),(3,.k),(5,.k),(6,.o (.sl .str)),(7,.k)],fun nM vs H=>∃(j1:Nat),j1≤v1.length∧nM=v1.length-j1∧vs= [.p 0,.p 1,.p 2,.i 1,.own (.sl .str) 7,.i j1]∧H= [cSt me sh rows _,.cells [.i 0,.str ([]),.nils,.nils],.cells [.i me,.str sh,.own (.sl .str) 3,.own (.sl (.sl .str)) 6],.r (.sl .str) (rows.take k),.r (.sl .str) (v0.take j0),.cells [.own (.sl .str) 4],.cells [.own (.sl .str) 4],.r (.sl .str) (v1.take j1)],⟨rfl,v1.length,0,by omega,by omega,rfl,rfl⟩,?_⟩
  rintro nM vs H ⟨j1,hc3_0,rfl,rfl,rfl⟩
  have hvl:=(hp2 v1 (by simp)).1
  refine⟨qi,yn ((j1:Int)<(v1.length:Int)) (fun h4=> ?_) fun h4=> ?_⟩
  ·have hvm:=(hp2 v1 (by simp)).2 _ (gmem [] v1 j1 (by omega))
   refine⟨qi,ix j1 v1.length,w2',l0 (v1.getD j1 []).length,w2',lT v1 j1,r64 (j1+1),?_⟩
   exact⟨rfl,v1.length-(j1+1),by omega,j1+1,by omega,rfl,rfl,by rw [takeD [] v1 j1 (by omega)];rfl⟩
  refine⟨⟨rfl,rfl,rfl,rfl,rfl,rfl⟩,w3',r64 2,?_⟩
 ·refine na ?_
  refine⟨w4',?_⟩
  exact⟨rfl,rfl,rfl,by rw [hr,tkA (show v0.length≤j0 by omega),tkA (show v1.length≤j1 by omega)];rfl⟩
 all_goals
  refine ya ?_
  refine .inl ?_
  refine⟨9, [(1,.k),(2,.k),(3,.k),(5,.k),(6,.o (.sl .str)),(7,.k)],fun nM vs H=>∃(j2:Nat),j2≤v2.length∧nM=v2.length-j2∧vs= [.p 0,.p 1,.p 2,.i 2,.own (.sl .str) 9,.i j2]∧H= [cSt me sh rows _,.cells [.i 0,.str ([]),.nils,.nils],.cells [.i me,.str sh,.own (.sl .str) 3,.own (.sl (.sl .str)) 6],.r (.sl .str) (rows.take k),.r (.sl .str) (v0.take j0),.cells [.own (.sl .str) 4],.cells [.own (.sl .str) 4,.own (.sl .str) 7],.r (.sl .str) (v1.take j1),.cells [.own (.sl .str) 7],.r (.sl .str) (v2.take j2)],⟨rfl,v2.length,0,by omega,by omega,rfl,rfl⟩,?_⟩
  rintro nM vs H ⟨j2,hc4_0,rfl,rfl,rfl⟩
  have hvl:=(hp2 v2 (by simp)).1
  refine⟨qi,yn ((j2:Int)<(v2.length:Int)) (fun h6=> ?_) fun h6=> ?_⟩
  ·have hvm:=(hp2 v2 (by simp)).2 _ (gmem [] v2 j2 (by omega))
   refine⟨qi,ix j2 v2.length,w2',l0 (v2.getD j2 []).length,w2',lT v2 j2,r64 (j2+1),?_⟩
   exact⟨rfl,v2.length-(j2+1),by omega,j2+1,by omega,rfl,rfl,by rw [takeD [] v2 j2 (by omega)];rfl⟩
  refine⟨⟨rfl,rfl,rfl,rfl,rfl,rfl⟩,w3',r64 3,?_⟩
 ·refine na ?_
  refine⟨w4',?_⟩
  exact⟨rfl,rfl,rfl,by rw [hr,tkA (show v0.length≤j0 by omega),tkA (show v1.length≤j1 by omega),tkA (show v2.length≤j2 by omega)];rfl⟩
 all_goals
  refine ya ?_
  refine .inl ?_
  refine⟨11, [(1,.k),(2,.k),(3,.k),(5,.k),(6,.o (.sl .str)),(7,.k)],fun nM vs H=>∃(j3:Nat),j3≤v3.length∧nM=v3.length-j3∧vs= [.p 0,.p 1,.p 2,.i 3,.own (.sl .str) 11,.i j3]∧H= [cSt me sh rows _,.cells [.i 0,.str ([]),.nils,.nils],.cells [.i me,.str sh,.own (.sl .str) 3,.own (.sl (.sl .str)) 6],.r (.sl .str) (rows.take k),.r (.sl .str) (v0.take j0),.cells [.own (.sl .str) 4],.cells [.own (.sl .str) 4,.own (.sl .str) 7,.own (.sl .str) 9],.r (.sl .str) (v1.take j1),.cells [.own (.sl .str) 7],.r (.sl .str) (v2.take j2),.cells [.own (.sl .str) 9],.r (.sl .str) (v3.take j3)],⟨rfl,v3.length,0,by omega,by omega,rfl,rfl⟩,?_⟩
  rintro nM vs H ⟨j3,hc5_0,rfl,rfl,rfl⟩
  have hvl:=(hp2 v3 (by simp)).1
  refine⟨qi,yn ((j3:Int)<(v3.length:Int)) (fun h8=> ?_) fun h8=> ?_⟩
  ·have hvm:=(hp2 v3 (by simp)).2 _ (gmem [] v3 j3 (by omega))
   refine⟨qi,ix j3 v3.length,w2',l0 (v3.getD j3 []).length,w2',lT v3 j3,r64 (j3+1),?_⟩
   exact⟨rfl,v3.length-(j3+1),by omega,j3+1,by omega,rfl,rfl,by rw [takeD [] v3 j3 (by omega)];rfl⟩
  refine⟨⟨rfl,rfl,rfl,rfl,rfl,rfl⟩,w3',r64 4,?_⟩
 ·refine na ?_
  refine⟨w4',?_⟩
  exact⟨rfl,rfl,rfl,by rw [hr,tkA (show v0.length≤j0 by omega),tkA (show v1.length≤j1 by omega),tkA (show v2.length≤j2 by omega),tkA (show v3.length≤j3 by omega)];rfl⟩
 all_goals
  refine ya ?_
  refine .inl ?_
  refine⟨13, [(1,.k),(2,.k),(3,.k),(5,.k),(6,.o (.sl .str)),(7,.k)],fun nM vs H=>∃(j4:Nat),j4≤v4.length∧nM=v4.length-j4∧vs= [.p 0,.p 1,.p 2,.i 4,.own (.sl .str) 13,.i j4]∧H= [cSt me sh rows _,.cells [.i 0,.str ([]),.nils,.nils],.cells [.i me,.str sh,.own (.sl .str) 3,.own (.sl (.sl .str)) 6],.r (.sl .str) (rows.take k),.r (.sl .str) (v0.take j0),.cells [.own (.sl .str) 4],.cells [.own (.sl .str) 4,.own (.sl .str) 7,.own (.sl .str) 9,.own (.sl .str) 11],.r (.sl .str) (v1.take j1),.cells [.own (.sl .str) 7],.r (.sl .str) (v2.take j2),.cells [.own (.sl .str) 9],.r (.sl .str) (v3.take j3),.cells [.own (.sl .str) 11],.r (.sl .str) (v4.take j4)],⟨rfl,v4.length,0,by omega,by omega,rfl,rfl⟩,?_⟩
  rintro nM vs H ⟨j4,hc6_0,rfl,rfl,rfl⟩
  have hvl:=(hp2 v4 (by simp)).1
  refine⟨qi,yn ((j4:Int)<(v4.length:Int)) (fun h10=> ?_) fun h10=> ?_⟩
  ·have hvm:=(hp2 v4 (by simp)).2 _ (gmem [] v4 j4 (by omega))
   refine⟨qi,ix j4 v4.length,w2',l0 (v4.getD j4 []).length,w2',lT v4 j4,r64 (j4+1),?_⟩
   exact⟨rfl,v4.length-(j4+1),by omega,j4+1,by omega,rfl,rfl,by rw [takeD [] v4 j4 (by omega)];rfl⟩
  refine⟨⟨rfl,rfl,rfl,rfl,rfl,rfl⟩,w3',r64 5,?_⟩
 ·refine na ?_
  refine⟨w4',?_⟩
  exact⟨rfl,rfl,rfl,by rw [hr,tkA (show v0.length≤j0 by omega),tkA (show v1.length≤j1 by omega),tkA (show v2.length≤j2 by omega),tkA (show v3.length≤j3 by omega),tkA (show v4.length≤j4 by omega)];rfl⟩
 all_goals
  refine ya ?_
  refine .inl ?_
  refine⟨15, [(1,.k),(2,.k),(3,.k),(5,.k),(6,.o (.sl .str)),(7,.k)],fun nM vs H=>∃(j5:Nat),j5≤v5.length∧nM=v5.length-j5∧vs= [.p 0,.p 1,.p 2,.i 5,.own (.sl .str) 15,.i j5]∧H= [cSt me sh rows _,.cells [.i 0,.str ([]),.nils,.nils],.cells [.i me,.str sh,.own (.sl .str) 3,.own (.sl (.sl .str)) 6],.r (.sl .str) (rows.take k),.r (.sl .str) (v0.take j0),.cells [.own (.sl .str) 4],.cells [.own (.sl .str) 4,.own (.sl .str) 7,.own (.sl .str) 9,.own (.sl .str) 11,.own (.sl .str) 13],.r (.sl .str) (v1.take j1),.cells [.own (.sl .str) 7],.r (.sl .str) (v2.take j2),.cells [.own (.sl .str) 9],.r (.sl .str) (v3.take j3),.cells [.own (.sl .str) 11],.r (.sl .str) (v4.take j4),.cells [.own (.sl .str) 13],.r (.sl .str) (v5.take j5)],⟨rfl,v5.length,0,by omega,by omega,rfl,rfl⟩,?_⟩
  rintro nM vs H ⟨j5,hc7_0,rfl,rfl,rfl⟩
  have hvl:=(hp2 v5 (by simp)).1
  refine⟨qi,yn ((j5:Int)<(v5.length:Int)) (fun h12=> ?_) fun h12=> ?_⟩
  ·have hvm:=(hp2 v5 (by simp)).2 _ (gmem [] v5 j5 (by omega))
   refine⟨qi,ix j5 v5.length,w2',l0 (v5.getD j5 []).length,w2',lT v5 j5,r64 (j5+1),?_⟩
   exact⟨rfl,v5.length-(j5+1),by omega,j5+1,by omega,rfl,rfl,by rw [takeD [] v5 j5 (by omega)];rfl⟩
  refine⟨⟨rfl,rfl,rfl,rfl,rfl,rfl⟩,w3',r64 6,?_⟩
 ·refine na ?_
  refine⟨w4',?_⟩
  exact⟨rfl,rfl,rfl,by rw [hr,tkA (show v0.length≤j0 by omega),tkA (show v1.length≤j1 by omega),tkA (show v2.length≤j2 by omega),tkA (show v3.length≤j3 by omega),tkA (show v4.length≤j4 by omega),tkA (show v5.length≤j5 by omega)];rfl⟩
 all_goals
  refine ya ?_
  refine .inl ?_
  refine⟨17, [(1,.k),(2,.k),(3,.k),(5,.k),(6,.o (.sl .str)),(7,.k)],fun nM vs H=>∃(j6:Nat),j6≤v6.length∧nM=v6.length-j6∧vs= [.p 0,.p 1,.p 2,.i 6,.own (.sl .str) 17,.i j6]∧H= [cSt me sh rows _,.cells [.i 0,.str ([]),.nils,.nils],.cells [.i me,.str sh,.own (.sl .str) 3,.own (.sl (.sl .str)) 6],.r (.sl .str) (rows.take k),.r (.sl .str) (v0.take j0),.cells [.own (.sl .str) 4],.cells [.own (.sl .str) 4,.own (.sl .str) 7,.own (.sl .str) 9,.own (.sl .str) 11,.own (.sl .str) 13,.own (.sl .str) 15],.r (.sl .str) (v1.take j1),.cells [.own (.sl .str) 7],.r (.sl .str) (v2.take j2),.cells [.own (.sl .str) 9],.r (.sl .str) (v3.take j3),.cells [.own (.sl .str) 11],.r (.sl .str) (v4.take j4),.cells [.own (.sl .str) 13],.r (.sl .str) (v5.take j5),.cells [.own (.sl .str) 15],.r (.sl .str) (v6.take j6)],⟨rfl,v6.length,0,by omega,by omega,rfl,rfl⟩,?_⟩
  rintro nM vs H ⟨j6,hc8_0,rfl,rfl,rfl⟩
  have hvl:=(hp2 v6 (by simp)).1
  refine⟨qi,yn ((j6:Int)<(v6.length:Int)) (fun h14=> ?_) fun h14=> ?_⟩
  ·have hvm:=(hp2 v6 (by simp)).2 _ (gmem [] v6 j6 (by omega))
   refine⟨qi,ix j6 v6.length,w2',l0 (v6.getD j6 []).length,w2',lT v6 j6,r64 (j6+1),?_⟩
   exact⟨rfl,v6.length-(j6+1),by omega,j6+1,by omega,rfl,rfl,by rw [takeD [] v6 j6 (by omega)];rfl⟩
  refine⟨⟨rfl,rfl,rfl,rfl,rfl,rfl⟩,w3',r64 7,?_⟩
 ·refine na ?_
  refine⟨w4',?_⟩
  exact⟨rfl,rfl,rfl,by rw [hr,tkA (show v0.length≤j0 by omega),tkA (show v1.length≤j1 by omega),tkA (show v2.length≤j2 by omega),tkA (show v3.length≤j3 by omega),tkA (show v4.length≤j4 by omega),tkA (show v5.length≤j5 by omega),tkA (show v6.length≤j6 by omega)];rfl⟩
noncomputable def CCpy:List (Nat×Con):=(42,pureC [.v tSt] sCpy)::CRPs
theorem kCpy:Known Tryd.prog (En CCpy tys G6 QOth):=Known.frz0<|(kRPs.frz [1000001,1000002,1000009,8000030,11000028]).addQ Tryd.func42 Tryd.call42 [.k,.k,.o (.sl .str),.c []] fun ds _ _ _ h=>by unfold sCpy at h;split at h;exact bCpy _ _ _ _;cases h
theorem agE {me:Int} {sh:List UInt8} {R R':List (List (List UInt8))} {W W':List (List (List (List UInt8)))} (e:R'=R) (f:W'=W):V.agg [.int .i64 me,.str sh,.sl true (.sl .str) R,.sl true (.sl (.sl .str)) W]= .agg [.int .i64 me,.str sh,.sl true (.sl .str) R',.sl true (.sl (.sl .str)) W']:=by rw [e,f]
class Nm (l:outParam (List (List (List (List UInt8))))):Prop where t:True
abbrev nmS {l:List (List (List (List UInt8)))} [Nm l]:List (List (List (List UInt8))):=l
theorem kr5 {P:Prop} {u v:V} (e:u=v) (h:((true=true)∧(true=true)∧(u=v)∧(([]:List Blk)= []))=P):P:=Eq.mp h ⟨rfl,rfl,e,rfl⟩
theorem rcvR_yes {hs:List Int} {nd sz st ph me:Int} {rows:List (List (List UInt8))} {mk mf mt md:Int} {ss:List (List UInt8)} {tick:Int} (h:rcvP hs nd sz st ph me rows mk mf mt md ss tick):rcvR hs nd sz st ph me rows mk mf mt md ss tick=rows.set (idxF md hs 0).toNat ss:=if_pos h
theorem rcvR_no {hs:List Int} {nd sz st ph me:Int} {rows:List (List (List UInt8))} {mk mf mt md:Int} {ss:List (List UInt8)} {tick:Int} (h:¬rcvN hs st me mf mt md tick→mk=1→mf=md→(rows.getD (idxF md hs 0).toNat []).length=0∧szdP ss (nd-1) sz→tick<st+ph→False):rcvR hs nd sz st ph me rows mk mf mt md ss tick=rows:=if_neg fun⟨a,b,x,d,e,f⟩=>h a b x ⟨d,e⟩ f
theorem rcvV_yes {hs:List Int} {sz st ph me:Int} {vals:List (List (List (List UInt8)))} {mk mf mt md:Int} {ss:List (List UInt8)} {tick:Int} (h:rcvQ hs sz st ph me vals mk mf mt md ss tick):rcvV hs sz st ph me vals mk mf mt md ss tick=vals.set (idxF md hs 0).toNat ((vals.getD (idxF md hs 0).toNat []).set (idxF mf hs 0).toNat ss):=if_pos h
theorem rcvV_no {hs:List Int} {sz st ph me:Int} {vals:List (List (List (List UInt8)))} {mk mf mt md:Int} {ss:List (List UInt8)} {tick:Int} (h:¬rcvN hs st me mf mt md tick→mk=2→((vals.getD (idxF md hs 0).toNat []).getD (idxF mf hs 0).toNat []).length=0→szdP ss 1 sz→tick<st+2*ph→False):rcvV hs sz st ph me vals mk mf mt md ss tick=vals:=if_neg fun⟨a,b,x,d,e⟩=>h a b x d e
noncomputable def sRRc:List V→Option (Prop×V×List Blk)
 |[.agg [.sl false (.int .i64) hs,.int .i64 nd,.int .i64 wr,.int .i64 sz,.int .i64 st,.int .i64 ph],.agg [.int .i64 me,.str sh,.sl false (.sl .str) rows,.sl false (.sl (.sl .str)) vals],.agg [.int .i64 mk,.int .i64 mf,.int .i64 mt,.int .i64 md,.sl false .str ss],.int .i64 tick]=>some (tkE hs nd wr sz st ph=0∧rows.length=hs.length∧vals.length=hs.length∧hs.length≤7∧(∀x∈vals,x.length=hs.length)∧(∀x∈rows,x.length≤1048576)∧ss.length≤1048576∧(∀x∈vals,∀y∈x,y.length≤1048576),.agg [.int .i64 (me),.str (sh),.sl true (.sl .str) (rcvR hs nd sz st ph me rows mk mf mt md ss tick),.sl true (.sl (.sl .str)) (rcvV hs sz st ph me vals mk mf mt md ss tick)], [])
 |_=>none
theorem bRRc (hs:List Int) (nd wr sz st ph me:Int) (sh:List UInt8) (rows:List (List (List UInt8))) (vals:List (List (List (List UInt8)))) (mk:Int) (mf:Int) (mt:Int) (md:Int) (ss:List (List UInt8)) (tick:Int) (hp0:tkE hs nd wr sz st ph=0) (hp1:rows.length=hs.length) (hp2:vals.length=hs.length) (hp3:hs.length≤7) (hp4:(∀x∈vals,x.length=hs.length)) (hp5:(∀x∈rows,x.length≤1048576)) (hp6:ss.length≤1048576) (hp7:(∀x∈vals,∀y∈x,y.length≤1048576)):bodyP (En CCpy tys G6 QOth [1000007,11000101,11000140,7100101,7100140]) Tryd.f15 [.k,.k,.d (.sl .str),.n (.sl .str)] [aTk hs nd wr sz st ph,aSt me sh rows vals,.agg [.int .i64 mk,.int .i64 mf,.int .i64 mt,.int .i64 md,.sl false .str ss],.int .i64 tick] (.agg [.int .i64 (me),.str (sh),.sl true (.sl .str) (rcvR hs nd sz st ph me rows mk mf mt md ss tick),.sl true (.sl (.sl .str)) (rcvV hs sz st ph me vals mk mf mt md ss tick)]) []:=by
 have hT:=tk0 hp0
 have hl12:=hT.l12
 have hq1:=hT.q1
 obtain⟨⟨⟨r1,_⟩,r2,r3,⟨r4,r5⟩,⟨r6,r7⟩⟩,_⟩:=hT.rg
 have hn:2≤vals.length∧vals.length≤7:=by omega
 have hv2:∀x∈vals,x.length≤1048576∧∀y∈x,y.length≤1048576:=fun x hx=>⟨by have:=hp4 x hx;omega,hp7 x hx⟩
 have hkk:∀d:Int,0≤d→d.toNat<hs.length→0≤idxF mf hs 0→(idxF mf hs 0).toNat<hs.length→0≤idxF mf hs 0∧idxF mf hs 0<((vals.getD d.toNat []).length:Int):=fun d g0 g1 g2 g3=>by have:=hp4 _ (gmem [] vals d.toNat (by omega));omega
 have hll:∀d:Int,0≤d→d.toNat<hs.length→0≤d∧d<(vals.length:Int):=fun d g0 g1=>by omega
 clear hp2 hp4 hp7
 have:Nm vals:=⟨trivial⟩
 rcases vals with _|⟨v0,_|⟨v1,_|⟨v2,_|⟨v3,_|⟨v4,_|⟨v5,_|⟨v6,_|⟨v7,t⟩⟩⟩⟩⟩⟩⟩⟩
 all_goals first|(exfalso;simp only [List.length_cons,List.length_nil] at hn;omega)|skip
 all_goals
  refine⟨rfl,rfl,rfl,rfl,rfl,rfl,om (hs.length≤2000000),rfl,rfl,rfl,rfl,rfl,rfl,om (hs.length≤2000000),rfl,⟨hn,om (rows.length≤1048576),hp5,hv2⟩,w4',ny (mt≠me) (fun h0=> ?_) fun h0=> ?_⟩
  refine ny (mf=me) (fun h1=> ?_) fun h1=> ?_
  refine ny (idxF mf hs 0<0) (fun h2=> ?_) fun h2=> ?_
  have if_:=idx_lt h2
  refine ny (idxF md hs 0<0) (fun h3=> ?_) fun h3=> ?_
  have id_:=idx_lt h3
  have hkm:=hp5 _ (gmem [] rows _ (show(idxF md hs 0).toNat<rows.length by omega))
  have hkq:=hkk (idxF md hs 0) (by omega) id_ (by omega) if_
  have hN:tick<st∨¬rcvN hs st me mf mt md tick:=by unfold rcvN;omega
  refine yn (tick<st) (fun h4=> ?_) fun h4=> ?_
  rotate_left
  replace hN:=hN.resolve_left h4
  refine⟨r64 (nd-1),rfl,rfl,om (ss.length≤1048576),rfl,rfl,om (ss.length≤1048576),yn (mk=1) (fun h5=> ?_) fun h5=> ?_⟩
  ·refine yn (szdP ss (nd-1) sz) (fun h6=> ?_) fun h6=> ?_
   refine yn (mf=md) (fun h7=> ?_) fun h7=> ?_
   refine⟨ix (idxF md hs 0) rows.length,yn (((rows.getD (idxF md hs 0).toNat []).length:Int)=0) (fun h8=> ?_) fun h8=> ?_⟩
   refine⟨r64 (st+ph),yn (tick<st+ph) (fun h9=> ?_) fun h9=> ?_⟩
   refine⟨by kernel_rfl,w2',l0 ss.length,ix (idxF md hs 0) rows.length,⟨fun h=>(by first|rfl|cases h),rfl,rfl⟩,yn (mk=2) (fun h10=>by omega) fun h10=> ?_⟩
   refine⟨w4',?_⟩
   exact kr5 (agE (me:=me) (sh:=sh) (rcvR_yes ⟨hN,h5,h7,by omega,h6,h9⟩:rcvR hs nd sz st ph me rows mk mf mt md ss tick=rows.set (idxF md hs 0).toNat ss) (rcvV_no fun _ _=>by omega:rcvV hs sz st ph me nmS mk mf mt md ss tick=nmS)) (by kernel_rfl)
   all_goals
    refine yn (mk=2) (fun h10=>by omega) fun h10=> ?_
    refine⟨w4',?_⟩
    exact kr5 (agE (me:=me) (sh:=sh) (rcvR_no fun g1 g2 g3 g4 g5=>by first|omega|exact h6 g4.2:rcvR hs nd sz st ph me rows mk mf mt md ss tick=rows) (rcvV_no fun _ _=>by omega:rcvV hs sz st ph me nmS mk mf mt md ss tick=nmS)) (by kernel_rfl)
  refine yn (mk=2) (fun h15=> ?_) fun h15=> ?_
  refine yn (szdP ss 1 sz) (fun h16=> ?_) fun h16=> ?_
  refine⟨hll (idxF md hs 0) (by omega) id_,hkq,yn _ (fun h17=> ?_) fun h17=> ?_⟩
  refine⟨r64 (2*ph),r64 (st+2*ph),yn (tick<st+2*ph) (fun h18=> ?_) fun h18=> ?_⟩
  refine⟨by kernel_rfl,hll (idxF md hs 0) (by omega) id_,?_⟩
  repeat
   refine⟨fun h19=> ?_,?_⟩
   have hj:(idxF md hs 0).toNat=_:=congrArg Int.toNat h19
   have hq:=hkq
   rw [hj] at hq
   refine⟨w2',l0 ss.length,hq,⟨fun h=>(by first|rfl|cases h),rfl,rfl⟩,w4',?_⟩
   exact⟨rfl,rfl,agE (rcvR_no fun _ _=>by omega) ((rcvV_yes ⟨hN,h15,Int.ofNat.inj h17,h16,h18⟩).trans (by rw [hj];rfl)),rfl⟩
  trivial
  all_goals
   refine⟨w4',?_⟩
   exact kr5 (agE (me:=me) (sh:=sh) (rcvR_no fun g1 g2 g3 g4 g5=>by first|omega|(unfold rcvN at g1;omega):rcvR hs nd sz st ph me rows mk mf mt md ss tick=rows) (rcvV_no fun g1 g2 g3 g4 g5=>by first|omega|(unfold rcvN at g1;omega)|exact h16 g4|exact h17 (congrArg Int.ofNat g3):rcvV hs sz st ph me nmS mk mf mt md ss tick=nmS)) (by kernel_rfl)
noncomputable def CRRc:List (Nat×Con):=(15,pureC [.v tTk,.v tSt,.v tMl,.v (.int .i64)] sRRc)::CCpy
theorem kRRc:Known Tryd.prog (En CRRc tys G6 QOth):=Known.frz0<|(kCpy.frz [1000007,11000101,11000140,7100101,7100140]).add Tryd.func15 Tryd.call15 [.k,.k,.d (.sl .str),.n (.sl .str)] fun ds p v bs h hp=>by
 unfold sRRc at h
 split at h<;>simp only [Option.some.injEq,Prod.mk.injEq,reduceCtorEq] at h
 obtain⟨rfl,rfl,rfl⟩:=h
 exact bRRc _ _ _ _ _ _ _ _ _ _ _ _ _ _ _ _ hp.1 hp.2.1 hp.2.2.1 hp.2.2.2.1 hp.2.2.2.2.1 hp.2.2.2.2.2.1 hp.2.2.2.2.2.2.1 hp.2.2.2.2.2.2.2
end Go.Proofs.YtlmegkgkipjgbaaDoor.S33c
