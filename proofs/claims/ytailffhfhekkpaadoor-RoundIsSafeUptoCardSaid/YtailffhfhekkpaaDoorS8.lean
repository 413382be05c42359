/- Texts of this claim. -/
import Derived.Test.YtailffhfhekkpaaDoorS6
set_option linter.unusedVariables false
set_option linter.unusedSimpArgs false
namespace Go.Proofs.YtailffhfhekkpaaDoor.S62c
set_option maxHeartbeats 20000000
open Go Go.Proofs.YtailffhfhekkpaaDoor.Vc Go.Proofs
set_option maxRecDepth 100000
set_option linter.unusedVariables false
open Go.Proofs.YtailffhfhekkpaaDoor.S62
noncomputable def Qv:List V→Option (Prop×V×List Blk)
 |[]=>some (True,.agg [.sl true (.int .i64) ([0,1,2]),.int .i64 2,.int .i64 0,.int .i64 1,.int .i64 10,.int .i64 2], [])
 |_=>none
theorem aBa  :bH (En T9 tys G6 ct) Tryd.f14 [.d (.int .i64),.k,.k,.k,.k,.k] Qv []:=by
 intro _
 refine⟨rfl,rfl,rfl,cO,?_⟩
 exact a6
noncomputable def Ua:List (Nat×bW):=(14,aW [] Qv)::T9
theorem aAg:Known Tryd.prog (En Ua tys G6 ct):=aAf.addQ Tryd.func14 Tryd.call14 [.d (.int .i64),.k,.k,.k,.k,.k] fun ds _ _ _ h=>by unfold Qv at h;split at h;exact aBa;cases h
noncomputable def Qe:List V→Option (Prop×V×List Blk)
 |[]=>some (True,.b True, [])
 |_=>none
def z0:List Int:= [0,1,2]
def z1:List (List UInt8):= [[4]]
def z2:List (List UInt8):= [[9]]
def z3:List (List UInt8):= [[8]]
def z4:=uz z0 2 0 1 10 2 0 ([7]) ([4])
def z5:=mb z0 2 0 1 10 2 0 ([7]) ([4])
def z6:=oo z0 2 0 1 10 2 0 ([7]) ([4])
def z7:=xZ z0 2 0 1 10 2 0 ([7]) ([4])
def z8:=uy z0 2 0 1 10 2 0 ([7]) ([4])
def z9:=cq z0 1 10 2 z7 z6 1 1 0 1 z2 11
def Y2:=cq z0 1 10 2 z7 z6 1 1 0 1 z2 12
def Y1:=cq z0 1 10 2 z7 z9 1 1 0 1 z3 11
def Y0:=cq z0 1 10 2 z7 z6 2 1 0 0 z1 13
def zb:=cq z0 1 10 2 z7 Y0 2 2 0 0 z1 13
def K1:=cZ z0 2 1 10 2 z7 z5 1 1 0 1 z2 11
def Yz:=cZ z0 2 1 10 2 z7 z5 1 1 0 1 z2 12
def Yy:=cZ z0 2 1 10 2 z7 z5 2 1 0 0 z1 13
def Yx:=cZ z0 2 1 10 2 z7 K1 1 1 0 1 z3 11
def xq:=cZ z0 2 1 10 2 z7 Yy 2 2 0 0 z1 13
def Pw:=eN z0 z7 xq zb
def Yw:List (Int×(List Int×Unit)):= [(z7,eN z0 z7 xq zb,()),(1,eN z0 z7 xq zb,())]
def Yv:List (Int×(Int×(Int×(Int×(List (List UInt8)×Unit))))):= [(1,0,1,0,z1,()),(1,0,2,0,z1,())]
def Ek:List (Int×(List Int×Unit)):= [(z7,eN z0 z7 xq zb,()),(1,eN z0 z7 xq zb,()),(2,eN z0 z7 xq zb,())]
theorem aA6  :bH (En Ua tys G6 ct [1000001,1000002,1000004,7000000]) Tryd.f6 [.k] Qe []:=by
 intro _
 refine⟨trivial,cO,rfl,rfl,rfl,rfl,rfl,rfl,⟨oc (z0.length≤1000),oc (fZ z0 2 0 1 10 2=0→2≤7),oc (([7]).length≤1048576),oc (([4]).length≤1048576)⟩,cO,rfl,rfl,rfl,rfl,rfl,rfl,rfl,rfl,fun h0=> ?_,dn ((dP z0 2 0 1 10 2 0 ([7]) ([4]))≠0)⟩
 refine⟨⟨oc (z4.length≤1048576),oc (Yv.length≤1048576),oc (∀m∈z4,m.2.2.2.2.1.length≤1048576),oc (∀m∈Yv,m.2.2.2.2.1.length≤1048576)⟩,fun h1=> ?_,dn (¬(z4=Yv))⟩
 refine⟨rfl,rfl,rfl,rfl,rfl,oc (z0.length≤2000000),dn ((fZ z0 2 0 1 10 2)≠0),fun h2=> ?_⟩
 refine⟨cO,rfl,rfl,rfl,rfl,rfl,rfl,rfl,rfl,rfl,rfl,rfl,⟨oc (fZ z0 2 0 1 10 2=0),oc (z5.length=z0.length),oc (z6.length=z0.length),oc (∀x∈z6,x.length=z0.length),oc (∀x∈z5,x.length≤1048576),oc (z2.length≤1048576)⟩,cO,rfl,rfl,rfl,rfl,rfl,rfl,rfl,rfl,rfl,rfl,rfl,⟨oc (fZ z0 2 0 1 10 2=0),oc (z5.length=z0.length),oc (z6.length=z0.length),oc (∀x∈z6,x.length=z0.length),oc (∀x∈z5,x.length≤1048576),oc (z2.length≤1048576)⟩,cO,rfl,rfl,rfl,rfl,rfl,rfl,rfl,rfl,rfl,rfl,rfl,⟨oc (fZ z0 2 0 1 10 2=0),oc (K1.length=z0.length),oc (z9.length=z0.length),oc (∀x∈z9,x.length=z0.length),oc (∀x∈K1,x.length≤1048576),oc (z3.length≤1048576)⟩,cO,fun h3=> ?_,dn (((K1.length:Nat):Int)≠3)⟩
 refine⟨ix 1 K1.length,⟨oc ((K1.getD 1 []).length≤1048576),oc (z2.length≤1048576)⟩,fun h4=> ?_,dn (¬((K1.getD 1 [])=z2))⟩
 refine⟨rfl,rfl,⟨oc (Yz.length≤1048576),oc (z5.length≤1048576),oc (Y2.length≤1048576),oc (z6.length≤1048576),oc (∀x∈Yz,x.length≤1048576),oc (∀x∈z5,x.length≤1048576),oc (∀x∈Y2,x.length≤1048576∧∀y∈x,y.length≤1048576),oc (∀x∈z6,x.length≤1048576∧∀y∈x,y.length≤1048576)⟩,fun h5=> ?_,dn (¬(z7=z7∧z8=z8∧Yz=z5∧Y2=z6))⟩
 refine⟨rfl,rfl,⟨oc (Yx.length≤1048576),oc (K1.length≤1048576),oc (Y1.length≤1048576),oc (z9.length≤1048576),oc (∀x∈Yx,x.length≤1048576),oc (∀x∈K1,x.length≤1048576),oc (∀x∈Y1,x.length≤1048576∧∀y∈x,y.length≤1048576),oc (∀x∈z9,x.length≤1048576∧∀y∈x,y.length≤1048576)⟩,dn (¬(z7=z7∧z8=z8∧Yx=K1∧Y1=z9)),fun h6=> ?_⟩
 refine .inr ?_
 refine⟨fun h7=> ?_,dp ((1:Int)<3)⟩
 refine⟨rfl,rfl,rfl,rfl,rfl,rfl,rfl,rfl,rfl,rfl,rfl,⟨oc (fZ z0 2 0 1 10 2=0),oc (z5.length=z0.length),oc (z6.length=z0.length),oc (∀x∈z6,x.length=z0.length),oc (∀x∈z5,x.length≤1048576),oc (z1.length≤1048576)⟩,cO,ap 2,fun h8=> ?_,dp ((2:Int)<3)⟩
 refine⟨rfl,rfl,rfl,rfl,rfl,rfl,rfl,rfl,rfl,rfl,rfl,⟨oc (fZ z0 2 0 1 10 2=0),oc (Yy.length=z0.length),oc (Y0.length=z0.length),oc (∀x∈Y0,x.length=z0.length),oc (∀x∈Yy,x.length≤1048576),oc (z1.length≤1048576)⟩,cO,ap 3,dn ((3:Int)<3),fun h9=> ?_⟩
 refine⟨rfl,rfl,rfl,rfl,rfl,rfl,⟨oc (z0.length≤1000),oc (xq.length=z0.length),oc (zb.length=z0.length),oc (∀x∈zb,x.length=z0.length),oc (∀x∈xq,x.length≤1048576),oc (∀x∈z0,0≤x∧x<12),oc (0≤z7),oc (z7<12)⟩,cO,fun h10=> ?_,dn (z7≠0)⟩
 refine⟨fun h11=> ?_,dn (((Pw.length:Nat):Int)≠3)⟩
 refine⟨ix 0 Pw.length,fun h12=> ?_,dn ((Pw.getD 0 0)≠7)⟩
 refine⟨ix 1 Pw.length,fun h13=> ?_,dn ((Pw.getD 1 0)≠0)⟩
 refine⟨ix 2 Pw.length,fun h14=> ?_,dn ((Pw.getD 2 0)≠0)⟩
 refine⟨rfl,rfl,rfl,rfl,rfl,rfl,⟨oc (z0.length≤1000),oc (xq.length=z0.length),oc (∀x∈xq,x.length≤1048576)⟩,dn ((((eR z0 z7 xq z0.length).length:Nat):Int)≠2),fun h15=> ?_⟩
 refine⟨by kernel_rfl,cO,cO,gY,gY,rfl,rfl,rfl,rfl,rfl,rfl,rfl,rfl,⟨oc (z0.length≤2000000),oc (Ek.length≤20),oc (∀p∈Ek,p.2.1.length≤1048576)⟩,rfl,rfl,rfl,rfl,rfl,rfl,rfl,⟨oc (z0.length≤2000000),oc (Yw.length≤20),oc (∀p∈Yw,p.2.1.length≤1048576)⟩,rfl,rfl,rfl,rfl,rfl,rfl,rfl,rfl,rfl,⟨oc (z0.length≤2000000),oc (Ek.length≤20),oc (∀p∈Ek,p.2.1.length≤1048576),oc (xq.length=z0.length),oc (zb.length=z0.length),oc (∀x∈zb,x.length=z0.length),oc (∀v∈zb,∀x∈v,0<x.length→((x.getD 0 []).length:Int)=1),oc (∀r∈xq,qN 2 1 r),oc (0≤z7),oc (z7<12),oc (2≤7)⟩,cO,fun h16=> ?_,dp ((fZ z0 2 0 1 10 2)=0)⟩
 refine⟨fun h17=> ?_,fun h17=>absurd (show(((aS z0 2 0 1 10 2 Ek).length:Nat):Int)=1 by simp only [s6];decide+kernel) h17⟩
 refine⟨⟨by show(0:Int)≤0;first|omega|(simp only [s6];decide+kernel),by show 0<((aS z0 2 0 1 10 2 Ek).length:Int);first|omega|(simp only [s6];decide+kernel)⟩,fun h18=> ?_,fun h18=>absurd (show((((aS z0 2 0 1 10 2 Ek).getD 0 (0,0,())).1)=0∧(((((aS z0 2 0 1 10 2 Ek).getD 0 (0,0,())).2).1)=7∧True)) by simp only [s6];decide+kernel) h18⟩
 refine⟨fun h19=> ?_,dp ((fZ z0 2 0 1 10 2)=0)⟩
 refine⟨fun h20=> ?_,fun h20=>absurd (show(((aS z0 2 0 1 10 2 Yw).length:Nat):Int)=0 by simp only [s6];decide+kernel) h20⟩
 refine⟨fun h21=> ?_,fun h21=>absurd (show(j8 z0 2 0 1 10 2 z7 z8 xq zb Ek)=0 by simp only [It];decide+kernel) h21⟩
 exact⟨rfl,rfl,congrArg V.b (propext ⟨fun _=>trivial,fun _=>by show((M6 z0 2 0 1 10 2 z7 z8 xq zb Ek)=0∧((xy z0 2 0 1 10 2 z7 z8 xq zb Ek)=([3])∧True));simp only [Wv,Wt];decide+kernel⟩),rfl⟩
noncomputable def Tg:List (Nat×bW):=(6,aW [] Qe)::Ua
theorem aAL:Known Tryd.prog (En Tg tys G6 ct):=Known.frz0<|(aAg.frz [1000001,1000002,1000004,7000000]).addQ Tryd.func6 Tryd.call6 [.k] fun ds _ _ _ h=>by unfold Qe at h;split at h;exact aA6;cases h
end Go.Proofs.YtailffhfhekkpaaDoor.S62c
