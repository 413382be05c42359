/- Texts of this claim. -/
import Derived.Test.YtlmegkgkipjgbaaDoorS1
import Derived.Test.YtlmegkgkipjgbaaDoorVc9
import Derived.KernelRfl
set_option linter.unusedVariables false
set_option linter.unusedSimpArgs false
namespace Go.Proofs.YtlmegkgkipjgbaaDoor.S33
set_option maxHeartbeats 20000000
open Go Go.Proofs.YtlmegkgkipjgbaaDoor.Vc Go.Proofs
set_option maxRecDepth 100000
set_option linter.unusedVariables false
def sVal:List V→Option (Prop×V×List Blk)
 |[.sl false .str r,.int .i64 h]=>some (r.length≤1048576,.tup [.str (valS r h),.int .i64 (valE r h)], [])
 |_=>none
theorem bVal (r:List (List UInt8)) (h:Int):bodyQ (En CRgt tys G6 []) Tryd.f44 [.k,.k] sVal [.sl false .str r,.int .i64 h]:=by
 intro hp0
 refine⟨om (r.length≤1048576),yn (¬(rightB r=true)) (fun h0=> ?_) fun h0=> ?_⟩
 ·have e:valE r h=1:=if_neg h0
  rw [valS,if_neg (by rw [e];decide),e]
  exact d4'
 ·have hr:=nw h0
  obtain⟨r1,r2,r3,r4⟩:=right_ok hr
  have r5:∀x∈r,x.length≤1048576:=fun s hs=>Nat.le_trans (right_len hr s hs) (by omega)
  refine⟨rfl,trivial,yn (¬(knw h)) (fun h1=> ?_) fun h1=> ?_⟩
  ·have e:valE r h=8:=by unfold valE;rw [if_pos hr,if_neg h1]
   rw [valS,if_neg (by rw [e];decide),e]
   exact d4'
  ·have hk:=nw h1
   obtain⟨k1,k2⟩:=id hk
   refine⟨r64 (h+1),⟨om (1≤r.length),om (r.length≤1000000),by first|assumption|simp⟩,?_⟩
   have e:valE r h=0:=by unfold valE;rw [if_pos hr,if_pos hk]
   rw [valS,if_pos e,e]
   exact d4'
def CVal:List (Nat×Con):=(44,pureC [.v (.sl .str),.v (.int .i64)] sVal)::CRgt
theorem kVal:Known Tryd.prog (En CVal tys G6 []):=kRgt.addQ Tryd.func44 Tryd.call44 [.k,.k] fun ds _ _ _ h=>by unfold sVal at h;split at h;exact bVal _ _;cases h
def sChk:List V→Option (Prop×V×List Blk)
 |[.agg [.int .i64 nd,.sl false (.sl .str) cf]]=>some (cf.length≤1048576∧(∀l∈cf,l.length≤1048576∧∀x∈l,x.length≤1048576),.int .i64 (chkD nd cf), [])
 |_=>none
theorem bChk (nd:Int) (cf:List (List (List UInt8))):bodyQ (En CVal tys G6 []) Tryd.f65 [.k] sChk [.agg [.int .i64 nd,.sl false (.sl .str) cf]]:=by
 rintro⟨hp0,(hp1:(∀l∈cf,l.length≤1048576∧∀x∈l,x.length≤1048576))⟩
 refine ny (nd<2) (fun h0=> ?_) fun h0=> ?_
 ·refine yn (12<nd) (fun h1=> ?_) fun h1=> ?_
  ·have e:chkD nd cf=3:=by unfold chkD;rw [if_pos (by omega)]
   rw [e]
   exact d4'
  ·refine⟨r64 (nd-1),yn ((cf.length:Int)≠(nd-1)) (fun h2=> ?_) fun h2=> ?_⟩
   ·have e:chkD nd cf=1:=by unfold chkD;rw [if_neg (by omega:¬(nd<2∨12<nd)),if_pos (by omega)]
    rw [e]
    exact d4'
   ·refine⟨1, [(1,.k),(3,.k),(27,.k),(28,.k),(29,.k)],fun nM vs H=>∃(k:Nat),k≤cf.length∧(cf.drop k).all (lenB cf)=cf.all (lenB cf)∧nM=cf.length-k∧vs= [.p 0,.i (nd-1),.sl false (.sl .str) cf,.i (cf.length:Int),.i k]∧H= [.cells [.i nd,.sl false (.sl .str) cf]],⟨rfl,cf.length,0,by omega,rfl,by omega,rfl,rfl⟩,?_⟩
    rintro nM vs H ⟨k,hc1_0,hc1_1,rfl,rfl,rfl⟩
    refine yn ((k:Int)<(cf.length:Int)) (fun h3=> ?_) fun h3=> ?_
    ·have hk:k<cf.length:=by omega
     have hpk:=(hp1 _ (getD_mem [] cf k hk)).1
     refine⟨ix k cf.length,ny ((((cf.getD k []).length:Nat):Int)≠(nd-1)) (fun h4=> ?_) fun h4=> ?_⟩
     ·refine⟨ix 0 cf.length,yn ((((cf.getD 0 []).length:Nat):Int)≠(nd-1)) (fun h5=> ?_) fun h5=> ?_⟩
      ·have hf:cf.all (lenB cf)=false:=all_bad (d:= []) hk hc1_1 (lenB_bad2 (by omega))
       have e:chkD nd cf=1:=by unfold chkD;rw [if_neg (by omega:¬(nd<2∨12<nd)),if_neg (by omega:¬((cf.length:Int)≠nd-1)),if_pos hf]
       rw [e]
       exact d4'
      ·refine⟨1, [(1,.k),(3,.k),(27,.k),(28,.k),(29,.k),(46,.k),(47,.k),(48,.k)],fun nM vs H=>∃(j:Nat),j≤(cf.getD k []).length∧((cf.getD k []).drop j).all (fun s=>decide (s.length=n00 cf))=(cf.getD k []).all (fun s=>decide (s.length=n00 cf))∧nM=(cf.getD k []).length-j∧vs= [.p 0,.i (nd-1),.sl false (.sl .str) cf,.i (cf.length:Int),.i k,.sl false .str (cf.getD k []),.i (((cf.getD k []).length:Nat):Int),.i j]∧H= [.cells [.i nd,.sl false (.sl .str) cf]],⟨rfl,(cf.getD k []).length,0,by omega,rfl,by omega,rfl,rfl⟩,?_⟩
       rintro nM vs H ⟨j,hc2_0,hc2_1,rfl,rfl,rfl⟩
       refine yn ((j:Int)<(((cf.getD k []).length:Nat):Int)) (fun h6=> ?_) fun h6=> ?_
       ·have hj:j<(cf.getD k []).length:=by omega
        refine⟨ix j (cf.getD k []).length,ix 0 cf.length,ix 0 (cf.getD 0 []).length,yn (((((cf.getD k []).getD j []).length:Nat):Int)≠((((cf.getD 0 []).getD 0 []).length:Nat):Int)) (fun h7=> ?_) fun h7=> ?_⟩
        ·have hf:cf.all (lenB cf)=false:=all_bad (d:= []) hk hc1_1 (lenB_bad3 (all_bad (d:= []) hj hc2_1 (decide_eq_false (by unfold n00 n0;omega))))
         have e:chkD nd cf=1:=by unfold chkD;rw [if_neg (by omega:¬(nd<2∨12<nd)),if_neg (by omega:¬((cf.length:Int)≠nd-1)),if_pos hf]
         rw [e]
         exact d4'
        ·have hok:decide (((cf.getD k []).getD j []).length=n00 cf)=true:=decide_eq_true (by unfold n00 n0;omega)
         refine⟨r64 (j+1),?_⟩
         exact⟨rfl,(cf.getD k []).length-(j+1),by omega,j+1,by omega,all_next (d:= []) hj hc2_1 hok,rfl,rfl,rfl⟩
       ·have hok:=lenB_yes (cf:=cf) (l:=cf.getD k []) (by omega) (by omega) (all_stop (by omega) hc2_1)
        refine⟨r64 (k+1),?_⟩
        exact⟨rfl,cf.length-(k+1),by omega,k+1,by omega,all_next (d:= []) hk hc1_1 hok,rfl,rfl,rfl⟩
     ·have hf:cf.all (lenB cf)=false:=all_bad (d:= []) hk hc1_1 (lenB_bad1 (by omega))
      have e:chkD nd cf=1:=by unfold chkD;rw [if_neg (by omega:¬(nd<2∨12<nd)),if_neg (by omega:¬((cf.length:Int)≠nd-1)),if_pos hf]
      rw [e]
      exact d4'
    ·have hall:cf.all (lenB cf)=true:=all_stop (by omega) hc1_1
     have hrows:=lenB_len hall
     have h00:=hrows _ (getD_mem [] cf 0 (by omega))
     refine⟨ix 0 cf.length,ix 0 (cf.getD 0 []).length,yn (4096<((((cf.getD 0 []).getD 0 []).length:Nat):Int)) (fun h8=> ?_) fun h8=> ?_⟩
     ·have e:chkD nd cf=2:=by unfold chkD;rw [if_neg (by omega:¬(nd<2∨12<nd)),if_neg (by omega:¬((cf.length:Int)≠nd-1)),if_neg (by rw [hall];decide),if_pos (by unfold n00 n0;omega)]
      rw [e]
      exact d4'
     ·refine⟨1, [(1,.k),(72,.k),(73,.k)],fun nM vs H=>∃(i:Nat),i≤cf.length∧(List.range i).all (fun a=>(List.range a).all fun b=>decide ((cf.getD a []).getD b []=(cf.getD b []).getD a []))=true∧nM=cf.length-i∧vs= [.p 0,.i (nd-1),.i i]∧H= [.cells [.i nd,.sl false (.sl .str) cf]],⟨rfl,cf.length,0,by omega,rfl,by omega,rfl,rfl⟩,?_⟩
      rintro nM vs H ⟨i,hc3_0,hc3_1,rfl,rfl,rfl⟩
      refine yn ((i:Int)<(nd-1)) (fun h9=> ?_) fun h9=> ?_
      ·have hri:=hrows _ (getD_mem [] cf i (by omega))
       refine⟨1, [(1,.k),(8,.k),(72,.k),(73,.k),(76,.k),(77,.k)],fun nM vs H=>∃(j:Nat),j≤i∧(List.range j).all (fun b=>decide ((cf.getD i []).getD b []=(cf.getD b []).getD i []))=true∧nM=i-j∧vs= [.p 0,.i i,.i (nd-1),.i i,.i i,.i j]∧H= [.cells [.i nd,.sl false (.sl .str) cf]],⟨rfl,i,0,by omega,rfl,by omega,rfl,rfl⟩,?_⟩
       rintro nM vs H ⟨j,hc4_0,hc4_1,rfl,rfl,rfl⟩
       refine yn ((j:Int)<(i:Int)) (fun h10=> ?_) fun h10=> ?_
       ·have hrj:=hrows _ (getD_mem [] cf j (by omega))
        refine⟨by kernel_rfl,ix i cf.length,ix j (cf.getD i []).length,ix j cf.length,ix i (cf.getD j []).length,yn (((cf.getD i []).getD j [])≠((cf.getD j []).getD i [])) (fun h11=> ?_) fun h11=> ?_⟩
        ·have hs:symB cf cf.length=false:=rangeBad (k:=i) (by omega) (rangeBad (p:=(fun b=>decide ((cf.getD i []).getD b []=(cf.getD b []).getD i []))) (k:=j) (by omega) (decide_eq_false h11))
         have e:chkD nd cf=1:=by unfold chkD;rw [if_neg (by omega:¬(nd<2∨12<nd)),if_neg (by omega:¬((cf.length:Int)≠nd-1)),if_neg (by rw [hall];decide),if_neg (by unfold n00 n0;omega),if_pos hs]
         rw [e]
         exact d4'
        ·have hok:decide ((cf.getD i []).getD j []=(cf.getD j []).getD i [])=true:=decide_eq_true (nw h11)
         refine⟨r64 (j+1),?_⟩
         exact⟨rfl,i-(j+1),by omega,j+1,by omega,rangeAll hc4_1 hok,rfl,rfl,rfl⟩
       ·have hok:(List.range i).all (fun b=>decide ((cf.getD i []).getD b []=(cf.getD b []).getD i []))=true:=by rw [show i=j by omega] at hc4_1 ⊢;exact hc4_1
        refine⟨r64 (i+1),?_⟩
        exact⟨rfl,cf.length-(i+1),by omega,i+1,by omega,rangeAll hc3_1 hok,rfl,rfl,rfl⟩
      ·have hs:symB cf cf.length=true:=by rw [show cf.length=i by omega];exact hc3_1
       have e:chkD nd cf=0:=by unfold chkD;rw [if_neg (by omega:¬(nd<2∨12<nd)),if_neg (by omega:¬((cf.length:Int)≠nd-1)),if_neg (by rw [hall];decide),if_neg (by unfold n00 n0;omega),if_neg (by rw [hs];decide)]
       rw [e]
       exact d4'
 ·have e:chkD nd cf=3:=by unfold chkD;rw [if_pos (by omega)]
  rw [e]
  exact d4'
def CChk:List (Nat×Con):=(65,pureC [.v (.cons (.int .i64) (.cons (.sl (.sl .str)) .nil))] sChk)::CVal
theorem kChk:Known Tryd.prog (En CChk tys G6 []):=kVal.addQ Tryd.func65 Tryd.call65 [.k] fun ds _ _ _ h=>by unfold sChk at h;split at h;exact bChk _ _;cases h
def sRow:List V→Option (Prop×V×List Blk)
 |[.agg [.int .i64 nd,.sl false (.sl .str) cf],.int .i64 h]=>some (cf.length≤1048576∧(∀l∈cf,l.length≤1048576∧∀x∈l,x.length≤1048576),.tup [.sl true .str (rowL nd cf h),.int .i64 (rowE nd cf h)], [])
 |_=>none
theorem bRow (nd:Int) (cf:List (List (List UInt8))) (h:Int):bodyQ (En CChk tys G6 []) Tryd.f34 [.d .str,.k] sRow [.agg [.int .i64 nd,.sl false (.sl .str) cf],.int .i64 h]:=by
 rintro⟨hp0,(hp1:(∀l∈cf,l.length≤1048576∧∀x∈l,x.length≤1048576))⟩
 refine⟨rfl,⟨om (cf.length≤1048576),by first|assumption|simp⟩,yn ((chkD nd cf)≠0) (fun h0=> ?_) fun h0=> ?_⟩
 ·have e:rowE nd cf h=chkD nd cf:=if_neg h0
  rw [rowL,if_neg (by rw [e];exact h0),e]
  exact d4'
 ·have hc:=nw h0
  have hd:=chkD0 hc
  obtain⟨d1,d2,d3,d4,d5,d6,d7⟩:=id hd
  refine⟨rfl,trivial,yn (¬(knw h)) (fun h1=> ?_) fun h1=> ?_⟩
  ·have e:rowE nd cf h=8:=by unfold rowE;rw [if_pos hc,if_neg h1]
   rw [rowL,if_neg (by rw [e];decide),e]
   exact d4'
  ·have hk:=nw h1
   obtain⟨k1,k2⟩:=id hk
   refine⟨1, [(1,.k),(7,.o .str),(19,.k),(20,.k),(21,.k)],fun nM vs H=>∃(k:Nat),k≤cf.length∧nM=cf.length-k∧vs= [.i h,.own .str 1,.sl false (.sl .str) cf,.i (cf.length:Int),.i k]∧H= [.cells [.i nd,.sl false (.sl .str) cf],.r .str ((cf.take k).map fun l=>atL l (pt h))],⟨rfl,cf.length,0,by omega,by omega,rfl,rfl⟩,?_⟩
   rintro nM vs H ⟨k,hc1_0,rfl,rfl,rfl⟩
   refine yn ((k:Int)<(cf.length:Int)) (fun h2=> ?_) fun h2=> ?_
   ·have hkl:k<cf.length:=by omega
    have hm:=getD_mem [] cf k hkl
    have hr4:=d4 _ hm
    have hr5:∀x∈cf.getD k [],x.length≤1048576:=(hp1 _ hm).2
    have hml:((cf.take k).map fun l=>atL l (pt h)).length=k:=by rw [List.length_map,List.length_take];omega
    refine⟨ix k cf.length,r64 (h+1),⟨os (1≤(cf.getD k []).length),os ((cf.getD k []).length≤1000000),by first|assumption|simp⟩,w2',l9 ((cf.take k).map fun l=>atL l (pt h)).length,r64 (k+1),?_⟩
    exact⟨rfl,cf.length-(k+1),by omega,k+1,by omega,rfl,rfl,by rw [map_take_snoc [] _ cf k hkl];rfl⟩
   ·have e:rowE nd cf h=0:=by unfold rowE;rw [if_pos hc,if_pos hk]
    rw [rowL,if_pos e,e,rowD,show k=cf.length by omega,List.take_length]
    exact d4'
def CRow:List (Nat×Con):=(34,pureC [.v (.cons (.int .i64) (.cons (.sl (.sl .str)) .nil)),.v (.int .i64)] sRow)::CChk
theorem kRow:Known Tryd.prog (En CRow tys G6 []):=kChk.addQ Tryd.func34 Tryd.call34 [.d .str,.k] fun ds _ _ _ h=>by unfold sRow at h;split at h;exact bRow _ _ _;cases h
def sUpd:List V→Option (Prop×V×List Blk)
 |[.agg [.int .i64 h,.str bs],.sl false (.sl .str) rs]=>some (rs.length≤1048576∧(∀l∈rs,l.length≤1048576),.tup [.agg [.int .i64 (updH h bs rs),.str (updS h bs rs)],.int .i64 (updE h bs rs)], [])
 |_=>none
theorem bUpd (h:Int) (bs:List UInt8) (rs:List (List (List UInt8))):bodyQ (En CRow tys G6 []) Tryd.f48 [.k,.k] sUpd [.agg [.int .i64 h,.str bs],.sl false (.sl .str) rs]:=by
 rintro⟨hp0,(hp1:(∀l∈rs,l.length≤1048576))⟩
 refine⟨rfl,trivial,yn (¬(knw h)) (fun h0=> ?_) fun h0=> ?_⟩
 ·refine⟨w4',?_⟩
  have e:updE h bs rs=8:=by unfold updE;rw [if_neg h0]
  rw [updH,updS,if_neg (by rw [e];decide),if_neg (by rw [e];decide),e]
  exact d4'
 ·have hk:=nw h0
  obtain⟨k1,k2⟩:=id hk
  refine yn (4096<(bs.length:Int)) (fun h1=> ?_) fun h1=> ?_
  ·refine⟨w4',?_⟩
   have e:updE h bs rs=2:=by unfold updE;rw [if_pos hk,if_neg (by omega)]
   rw [updH,updS,if_neg (by rw [e];decide),if_neg (by rw [e];decide),e]
   exact d4'
  ·refine⟨2, [(1,.k),(2,.k),(4,.k),(20,.k),(21,.k),(22,.k)],fun nM vs H=>∃(k:Nat),k≤rs.length∧(rs.drop k).all (updOk bs)=rs.all (updOk bs)∧nM=rs.length-k∧vs= [.sl false (.sl .str) rs,.p 0,.p 1,.sl false (.sl .str) rs,.i (rs.length:Int),.i k]∧H= [.cells [.i h,.str bs],.cells [.i 0,.str ([])]],⟨rfl,rs.length,0,by omega,rfl,by omega,rfl,rfl⟩,?_⟩
   rintro nM vs H ⟨k,hc1_0,hc1_1,rfl,rfl,rfl⟩
   refine yn ((k:Int)<(rs.length:Int)) (fun h2=> ?_) fun h2=> ?_
   ·have hkl:k<rs.length:=by omega
    have hrl:=hp1 _ (getD_mem [] rs k hkl)
    refine⟨ix k rs.length,by kernel_rfl,os ((rs.getD k []).length≤1048576),ny (¬(rightB (rs.getD k [])=true)) (fun h3=> ?_) fun h3=> ?_⟩
    ·have hr:=nw h3
     obtain⟨r1,r2,r3,r4⟩:=right_ok hr
     refine⟨fun h4=> ?_,cn (¬(rightB (rs.getD k [])=true))⟩
     refine⟨ix 0 (rs.getD k []).length,fun h5=> ?_,cn (¬(rightB (rs.getD k [])=true))⟩
     refine⟨fun h6=> ?_,cn (¬(rightB (rs.getD k [])=true))⟩
     refine⟨fun h7=> ?_,cn (¬(rightB (rs.getD k [])=true))⟩
     refine⟨fun h8=> ?_,cn (¬(rightB (rs.getD k [])=true))⟩
     refine⟨fun h9=> ?_,cn (¬(rightB (rs.getD k [])=true))⟩
     refine⟨fun h10=> ?_,cn (¬(rightB (rs.getD k [])=true))⟩
     refine⟨cn (¬(rightB (rs.getD k [])=true)),fun h11=> ?_⟩
     refine yn (((((rs.getD k []).getD 0 []).length:Nat):Int)≠(bs.length:Int)) (fun h12=> ?_) fun h12=> ?_
     ·refine⟨w4',?_⟩
      have hf:rs.all (updOk bs)=false:=all_bad (d:= []) hkl hc1_1 (updOk_bad2 (by unfold n0;omega))
      have e:updE h bs rs=1:=by unfold updE;rw [if_pos hk,if_pos (by omega),if_neg (by rw [hf];decide)]
      rw [updH,updS,if_neg (by rw [e];decide),if_neg (by rw [e];decide),e]
      exact d4'
     ·have hok:=updOk_yes (b:=bs) hr (by unfold n0;omega)
      refine⟨r64 (k+1),?_⟩
      exact⟨rfl,rs.length-(k+1),by omega,k+1,by omega,all_next (d:= []) hkl hc1_1 hok,rfl,rfl,rfl⟩
    ·refine⟨cp (¬(rightB (rs.getD k [])=true)),fun h13=> ?_⟩
     refine⟨cp (¬(rightB (rs.getD k [])=true)),fun h14=> ?_⟩
     refine⟨cp (¬(rightB (rs.getD k [])=true)),fun h15=> ?_⟩
     refine⟨cp (¬(rightB (rs.getD k [])=true)),fun h16=> ?_⟩
     refine⟨cp (¬(rightB (rs.getD k [])=true)),fun h17=> ?_⟩
     refine⟨cp (¬(rightB (rs.getD k [])=true)),fun h18=> ?_⟩
     refine⟨cp (¬(rightB (rs.getD k [])=true)),fun h19=> ?_⟩
     refine⟨fun h20=> ?_,cp (¬(rightB (rs.getD k [])=true))⟩
     refine⟨w4',?_⟩
     have hf:rs.all (updOk bs)=false:=all_bad (d:= []) hkl hc1_1 (updOk_bad1 h3)
     have e:updE h bs rs=1:=by unfold updE;rw [if_pos hk,if_pos (by omega),if_neg (by rw [hf];decide)]
     rw [updH,updS,if_neg (by rw [e];decide),if_neg (by rw [e];decide),e]
     exact d4'
   ·have hall:rs.all (updOk bs)=true:=all_stop (by omega) hc1_1
    have hev:=List.all_eq_true.1 hall
    refine⟨2, [(2,.k),(4,.k),(41,.k),(42,.k),(43,.k)],fun nM vs H=>∃(k:Nat),k≤rs.length∧nM=rs.length-k∧vs= [.p 0,.p 1,.sl false (.sl .str) rs,.i (rs.length:Int),.i k]∧H= [.cells [.i h,.str (updB h bs (rs.take k))],.cells [.i 0,.str ([])]],⟨rfl,rs.length,0,by omega,by omega,rfl,rfl⟩,?_⟩
    rintro nM vs H ⟨k,hc2_0,rfl,rfl,rfl⟩
    refine yn ((k:Int)<(rs.length:Int)) (fun h21=> ?_) fun h21=> ?_
    ·have hkm:k<rs.length:=by omega
     obtain⟨hr,hn⟩:=updOk_no (hev _ (getD_mem [] rs k hkm))
     obtain⟨r1,r2,r3,r4⟩:=right_ok hr
     have hl1:=upd_len (h:=h) (b:=bs) (rs.take k) bs rfl (fun x hx=>hev x (List.mem_of_mem_take hx))
     replace hn:((rs.getD k []).getD 0 []).length=bs.length:=hn
     refine⟨ix k rs.length,by kernel_rfl,r64 (h+1),ix 0 (rs.getD k []).length,os (((rs.getD k []).getD 0 []).length≤1000000000),⟨os (1≤([updB h bs (rs.take k),scaleB (UInt8.ofNat ((h+1)%256).toNat) ((rs.getD k []).getD 0 [])]:List (List UInt8)).length),os (([updB h bs (rs.take k),scaleB (UInt8.ofNat ((h+1)%256).toNat) ((rs.getD k []).getD 0 [])]:List (List UInt8)).length≤1000000),by show(∀x∈([updB h bs (rs.take k),scaleB (UInt8.ofNat ((h+1)%256).toNat) ((rs.getD k []).getD 0 [])]:List (List UInt8)),x.length≤1048576);exact two_len (by omega) (by rw [scale_len];omega)⟩,w3',r64 (k+1),?_⟩
     exact⟨rfl,rs.length-(k+1),by omega,k+1,by omega,rfl,rfl,by rw [upd_snoc hkm];rfl⟩
    ·refine⟨w4',?_⟩
     have e:updE h bs rs=0:=by unfold updE;rw [if_pos hk,if_pos (by omega),if_pos hall]
     rw [updH,updS,if_pos e,if_pos e,e,show updB h bs rs=updB h bs (rs.take k) by rw [List.take_of_length_le (by omega)]]
     exact d4'
def CUpd:List (Nat×Con):=(48,pureC [.v (.cons (.int .i64) (.cons .str .nil)),.v (.sl (.sl .str))] sUpd)::CRow
theorem kUpd:Known Tryd.prog (En CUpd tys G6 []):=kRow.addQ Tryd.func48 Tryd.call48 [.k,.k] fun ds _ _ _ h=>by unfold sUpd at h;split at h;exact bUpd _ _ _;cases h
open Go
theorem kr4 {P:Prop} {v:Go.Proofs.YtlmegkgkipjgbaaDoor.Vc.V} (h:((true=true)∧(true=true)∧(v=v)∧(([]:List Go.Proofs.YtlmegkgkipjgbaaDoor.Vc.Blk)= []))=P):P:=Eq.mp h ⟨rfl,rfl,rfl,rfl⟩
theorem prod_bd {nd sz:Int} (h2:2≤nd) (h12:nd≤12) (hz:0≤sz) (h4:sz≤4096):(0≤sz*(nd-1)∧sz*(nd-1)≤45056)∧(0≤(sz*(nd-1))*((nd-1)+1)∧(sz*(nd-1))*((nd-1)+1)≤540672)∧((sz*(nd-1))*((nd-1)+1))/2=sz*(((nd-1)*nd)/2):=by
 obtain rfl|rfl|rfl|rfl|rfl|rfl|rfl|rfl|rfl|rfl|rfl:nd=2∨nd=3∨nd=4∨nd=5∨nd=6∨nd=7∨nd=8∨nd=9∨nd=10∨nd=11∨nd=12:=by omega
 all_goals omega
theorem yy {p X Y:Prop} (h:p) (x:X):(p→X)∧(¬p→Y):=⟨fun _=>x,fun g=>absurd h g⟩
theorem nn {p X Y:Prop} (h:¬p) (y:Y):(p→X)∧(¬p→Y):=⟨fun g=>absurd g h,fun _=>y⟩
theorem ww {α β:Sort _} {a:α} {b:β}:a=a∧b=b:=⟨rfl,rfl⟩
theorem ww3 {α β γ:Sort _} {a:α} {b:β} {c:γ}:a=a∧b=b∧c=c:=⟨rfl,rfl,rfl⟩
theorem q {p:Prop} [d:Decidable p] (h:Decidable.decide p=true:=by kernel_rfl):p:=of_decide_eq_true h
def dn (z:Nat):Nat→List UInt8→List UInt8
 |0,s=>s
 |k+1,s=>(dn z k s).drop z
theorem dn_eq (z:Nat):∀(k:Nat) (s:List UInt8),dn z k s=s.drop (k*z)
 |0,s=>by simp [dn]
 |k+1,s=>by rw [dn,dn_eq z k s,List.drop_drop,Nat.succ_mul]
theorem dn_len (z k:Nat) (s:List UInt8):(dn z k s).length=s.length-k*z:=by rw [dn_eq,List.length_drop]
theorem cutOk {sz:Int} {s:List UInt8} (K:Nat) (h0:0≤sz) (hl:(s.length:Int)=sz*(K:Int)) (k:Nat) (hk:k<K:=by decide):0≤sz∧sz≤((dn sz.toNat k s).length:Int):=by
 refine⟨h0,?_⟩
 rw [dn_len]
 obtain⟨z,rfl⟩:=Int.eq_ofNat_of_zero_le h0
 have h1:s.length=z*K:=by exact_mod_cast hl
 have h2:(k+1)*z≤K*z:=Nat.mul_le_mul_right z hk
 rw [Nat.succ_mul] at h2
 rw [h1,Nat.mul_comm z K]
 show(z:Int)≤((K*z-k*z:Nat):Int)
 omega
def posT (m a b:Nat):Nat:=bif Nat.ble a b then a*m-a*(a-1)/2+(b-a) else b*m-b*(b-1)/2+(a-b)
def mkD (m z:Nat) (s:List UInt8):List Rw:=(List.range m).map fun a=>(List.range m).map fun b=>(dn z (posT m a b) s).take z
def mkE (nd sz:Int) (s:List UInt8):Int:=if nd<2∨12<nd∨sz<0∨4096<sz then 3 else if(s.length:Int)=sz*(((nd-1)*nd)/2) then 0 else 1
def mkN (nd sz:Int) (s:List UInt8):Int:=if mkE nd sz s=0 then nd else 0
def mkC (nd sz:Int) (s:List UInt8):List Rw:=if mkE nd sz s=0 then mkD (nd-1).toNat sz.toNat s else []
theorem mkE3 {nd sz:Int} {s:List UInt8} (h:nd<2∨12<nd∨sz<0∨4096<sz):mkE nd sz s=3∧mkN nd sz s=0∧mkC nd sz s= []:=by
 have e:mkE nd sz s=3:=if_pos h
 refine⟨e,if_neg (by rw [e];decide),if_neg (by rw [e];decide)⟩
theorem mkE1 {nd sz:Int} {s:List UInt8} (h:¬(nd<2∨12<nd∨sz<0∨4096<sz)) (hl:(s.length:Int)≠sz*(((nd-1)*nd)/2)):mkE nd sz s=1∧mkN nd sz s=0∧mkC nd sz s= []:=by
 have e:mkE nd sz s=1:=by unfold mkE;rw [if_neg h,if_neg hl]
 refine⟨e,if_neg (by rw [e];decide),if_neg (by rw [e];decide)⟩
theorem mkE0 {nd sz:Int} {s:List UInt8} (h:¬(nd<2∨12<nd∨sz<0∨4096<sz)) (hl:(s.length:Int)=sz*(((nd-1)*nd)/2)):mkE nd sz s=0∧mkN nd sz s=nd∧mkC nd sz s=mkD (nd-1).toNat sz.toNat s:=by
 have e:mkE nd sz s=0:=by unfold mkE;rw [if_neg h,if_pos hl]
 refine⟨e,if_pos e,if_pos e⟩
theorem bMk0 (nd sz:Int) (nz:List UInt8) (hn:nd<2∨12<nd∨sz<0∨4096<sz):bodyP (En CUpd tys G6 [] [1000000,1000001]) Tryd.f33 [.m 1 .str,.k] [.int .i64 nd,.int .i64 sz,.str nz] (.tup [.agg [.int .i64 0,.sl true (.sl .str) []],.int .i64 3]) []:=by
 refine ny (nd<2) (fun h0=> ?_) fun h0=> ?_
 ·refine ny (12<nd) (fun h1=> ?_) fun h1=> ?_
  ·refine ny (sz<0) (fun h2=> ?_) fun h2=> ?_
   ·refine yn (4096<sz) (fun h3=> ?_) fun h3=> ?_
    ·refine⟨w4',?_⟩
     exact kr4 (v:= .tup [.agg [.int .i64 0,.sl true (.sl .str) []],.int .i64 3]) (by kernel_rfl)
    ·omega
   ·refine⟨w4',?_⟩
    exact kr4 (v:= .tup [.agg [.int .i64 0,.sl true (.sl .str) []],.int .i64 3]) (by kernel_rfl)
  ·refine⟨w4',?_⟩
   exact kr4 (v:= .tup [.agg [.int .i64 0,.sl true (.sl .str) []],.int .i64 3]) (by kernel_rfl)
 ·refine⟨w4',?_⟩
  exact kr4 (v:= .tup [.agg [.int .i64 0,.sl true (.sl .str) []],.int .i64 3]) (by kernel_rfl)
theorem bMkN (nd sz:Int) (nz:List UInt8) (g2:2≤nd) (g12:nd≤12) (hz:0≤sz) (hs4:sz≤4096) (hb1:0≤sz*(nd-1)∧sz*(nd-1)≤45056) (hb2:0≤(sz*(nd-1))*((nd-1)+1)∧(sz*(nd-1))*((nd-1)+1)≤540672) (hl:¬(nz.length:Int)=((sz*(nd-1))*((nd-1)+1))/2):bodyP (En CUpd tys G6 [] [1000000,1000001]) Tryd.f33 [.m 1 .str,.k] [.int .i64 nd,.int .i64 sz,.str nz] (.tup [.agg [.int .i64 0,.sl true (.sl .str) []],.int .i64 1]) []:=by
 refine ny (nd<2) (fun h0=> ?_) fun h0=> ?_
 ·refine ny (12<nd) (fun h1=> ?_) fun h1=> ?_
  ·refine ny (sz<0) (fun h2=> ?_) fun h2=> ?_
   ·refine yn (4096<sz) (fun h3=> ?_) fun h3=> ?_
    ·omega
    ·refine⟨r64 (nd-1),r64 (sz*(nd-1)),r64 ((nd-1)+1),r64 ((sz*(nd-1))*((nd-1)+1)),.inl ⟨⟨om ((0:Int)≤((sz*(nd-1))*((nd-1)+1))),om ((0:Int)<2)⟩,?_⟩⟩
     refine yn ((nz.length:Int)≠(((sz*(nd-1))*((nd-1)+1))/2)) (fun h4=> ?_) fun h4=> ?_
     ·refine⟨w4',?_⟩
      exact kr4 (v:= .tup [.agg [.int .i64 0,.sl true (.sl .str) []],.int .i64 1]) (by kernel_rfl)
     ·exact absurd (nw h4) hl
   ·omega
  ·omega
 ·omega
theorem bMk2 (sz:Int) (nz:List UInt8) (hz:0≤sz) (h1:sz≤4096) (hl:(nz.length:Int)=sz*((1:Nat):Int)):bodyP (En CUpd tys G6 [] [1000000,1000001]) Tryd.f33 [.m 1 .str,.k] [.int .i64 2,.int .i64 sz,.str nz] (.tup [.agg [.int .i64 2,.sl true (.sl .str) (mkD 1 sz.toNat nz)],.int .i64 0]) []:=by
 have c:= @cutOk sz nz 1 hz hl
 refine⟨fun h0=> ?_,cn ((2:Int)<2)⟩
 refine⟨fun h1=> ?_,cn ((12:Int)<2)⟩
 refine ny (sz<0) (fun h2=> ?_) fun h2=> ?_
 ·refine yn (4096<sz) (fun h3=> ?_) fun h3=> ?_
  ·omega
  ·refine⟨q,r64 (sz*1),q,r64 ((sz*1)*2),.inl ⟨⟨om ((0:Int)≤((sz*1)*2)),om ((0:Int)<2)⟩,?_⟩⟩
   refine yn ((nz.length:Int)≠(((sz*1)*2)/2)) (fun h4=> ?_) fun h4=> ?_
   ·omega
   ·refine⟨⟨rfl,by decide,by decide⟩,w4',.inr ?_⟩
    refine yy q ?_
    refine⟨by kernel_rfl,⟨rfl,om ((0:Int)≤1),om (1≤(1000000000:Int))⟩,q,ww3,q,nn q ?_⟩
    refine .inr (yy q ?_)
    refine .inr (yy q ?_)
    refine⟨by kernel_rfl,q,q,(c 0 q),(c 0 q),q,ww,q,ww,(c 0 q),q,nn q ?_⟩
    refine⟨q,nn q ?_⟩
    refine⟨w4',?_⟩
    exact kr4 (v:= .tup [.agg [.int .i64 2,.sl true (.sl .str) (mkD 1 sz.toNat nz)],.int .i64 0]) (by kernel_rfl)
 ·omega
theorem bMk3 (sz:Int) (nz:List UInt8) (hz:0≤sz) (h1:sz≤4096) (hl:(nz.length:Int)=sz*((3:Nat):Int)):bodyP (En CUpd tys G6 [] [1000000,1000001]) Tryd.f33 [.m 1 .str,.k] [.int .i64 3,.int .i64 sz,.str nz] (.tup [.agg [.int .i64 3,.sl true (.sl .str) (mkD 2 sz.toNat nz)],.int .i64 0]) []:=by
 have c:= @cutOk sz nz 3 hz hl
 refine⟨fun h0=> ?_,cn ((3:Int)<2)⟩
 refine⟨fun h1=> ?_,cn ((12:Int)<3)⟩
 refine ny (sz<0) (fun h2=> ?_) fun h2=> ?_
 ·refine yn (4096<sz) (fun h3=> ?_) fun h3=> ?_
  ·omega
  ·refine⟨q,r64 (sz*2),q,r64 ((sz*2)*3),.inl ⟨⟨om ((0:Int)≤((sz*2)*3)),om ((0:Int)<2)⟩,?_⟩⟩
   refine yn ((nz.length:Int)≠(((sz*2)*3)/2)) (fun h4=> ?_) fun h4=> ?_
   ·omega
   ·refine⟨⟨rfl,by decide,by decide⟩,w4',.inr ?_⟩
    refine yy q ?_
    refine⟨by kernel_rfl,⟨rfl,om ((0:Int)≤2),om (2≤(1000000000:Int))⟩,q,ww3,q,yy q ?_⟩
    refine⟨by kernel_rfl,⟨rfl,om ((0:Int)≤2),om (2≤(1000000000:Int))⟩,q,ww3,q,nn q ?_⟩
    refine .inr (yy q ?_)
    refine .inr (yy q ?_)
    refine⟨by kernel_rfl,q,q,(c 0 q),(c 0 q),q,ww,q,ww,(c 0 q),q,yy q ?_⟩
    refine⟨by kernel_rfl,q,q,(c 1 q),(c 1 q),q,ww,q,ww,(c 1 q),q,nn q ?_⟩
    refine⟨q,yy q ?_⟩
    refine .inr (yy q ?_)
    refine⟨by kernel_rfl,q,q,(c 2 q),(c 2 q),q,ww,q,ww,(c 2 q),q,nn q ?_⟩
    refine⟨q,nn q ?_⟩
    refine⟨w4',?_⟩
    exact kr4 (v:= .tup [.agg [.int .i64 3,.sl true (.sl .str) (mkD 2 sz.toNat nz)],.int .i64 0]) (by kernel_rfl)
 ·omega
theorem bMk4 (sz:Int) (nz:List UInt8) (hz:0≤sz) (h1:sz≤4096) (hl:(nz.length:Int)=sz*((6:Nat):Int)):bodyP (En CUpd tys G6 [] [1000000,1000001]) Tryd.f33 [.m 1 .str,.k] [.int .i64 4,.int .i64 sz,.str nz] (.tup [.agg [.int .i64 4,.sl true (.sl .str) (mkD 3 sz.toNat nz)],.int .i64 0]) []:=by
 have c:= @cutOk sz nz 6 hz hl
 refine⟨fun h0=> ?_,cn ((4:Int)<2)⟩
 refine⟨fun h1=> ?_,cn ((12:Int)<4)⟩
 refine ny (sz<0) (fun h2=> ?_) fun h2=> ?_
 ·refine yn (4096<sz) (fun h3=> ?_) fun h3=> ?_
  ·omega
  ·refine⟨q,r64 (sz*3),q,r64 ((sz*3)*4),.inl ⟨⟨om ((0:Int)≤((sz*3)*4)),om ((0:Int)<2)⟩,?_⟩⟩
   refine yn ((nz.length:Int)≠(((sz*3)*4)/2)) (fun h4=> ?_) fun h4=> ?_
   ·omega
   ·refine⟨⟨rfl,by decide,by decide⟩,w4',.inr ?_⟩
    refine yy q ?_
    refine⟨by kernel_rfl,⟨rfl,q,q⟩,q,ww3,q,yy q ?_⟩
    refine⟨by kernel_rfl,⟨rfl,q,q⟩,q,ww3,q,yy q ?_⟩
    refine⟨by kernel_rfl,⟨rfl,q,q⟩,q,ww3,q,nn q ?_⟩
    refine .inr (yy q ?_)
    refine .inr (yy q ?_)
    refine⟨by kernel_rfl,q,q,(c 0 q),(c 0 q),q,ww,q,ww,(c 0 q),q,yy q ?_⟩
    refine⟨by kernel_rfl,q,q,(c 1 q),(c 1 q),q,ww,q,ww,(c 1 q),q,yy q ?_⟩
    refine⟨by kernel_rfl,q,q,(c 2 q),(c 2 q),q,ww,q,ww,(c 2 q),q,nn q ?_⟩
    refine⟨q,yy q ?_⟩
    refine .inr (yy q ?_)
    refine⟨by kernel_rfl,q,q,(c 3 q),(c 3 q),q,ww,q,ww,(c 3 q),q,yy q ?_⟩
    refine⟨by kernel_rfl,q,q,(c 4 q),(c 4 q),q,ww,q,ww,(c 4 q),q,nn q ?_⟩
    refine⟨q,yy q ?_⟩
    refine .inr (yy q ?_)
    refine⟨by kernel_rfl,q,q,(c 5 q),(c 5 q),q,ww,q,ww,(c 5 q),q,nn q ?_⟩
    refine⟨q,nn q ?_⟩
    refine⟨w4',?_⟩
    exact kr4 (v:= .tup [.agg [.int .i64 4,.sl true (.sl .str) (mkD 3 sz.toNat nz)],.int .i64 0]) (by kernel_rfl)
 ·omega
theorem bMk5 (sz:Int) (nz:List UInt8) (hz:0≤sz) (h1:sz≤4096) (hl:(nz.length:Int)=sz*((10:Nat):Int)):bodyP (En CUpd tys G6 [] [1000000,1000001]) Tryd.f33 [.m 1 .str,.k] [.int .i64 5,.int .i64 sz,.str nz] (.tup [.agg [.int .i64 5,.sl true (.sl .str) (mkD 4 sz.toNat nz)],.int .i64 0]) []:=by
 have c:= @cutOk sz nz 10 hz hl
 refine⟨fun h0=> ?_,cn ((5:Int)<2)⟩
 refine⟨fun h1=> ?_,cn ((12:Int)<5)⟩
 refine ny (sz<0) (fun h2=> ?_) fun h2=> ?_
 ·refine yn (4096<sz) (fun h3=> ?_) fun h3=> ?_
  ·omega
  ·refine⟨q,r64 (sz*4),q,r64 ((sz*4)*5),.inl ⟨⟨om ((0:Int)≤((sz*4)*5)),om ((0:Int)<2)⟩,?_⟩⟩
   refine yn ((nz.length:Int)≠(((sz*4)*5)/2)) (fun h4=> ?_) fun h4=> ?_
   ·omega
   ·refine⟨⟨rfl,by decide,by decide⟩,w4',.inr ?_⟩
    refine yy q ?_
    refine⟨by kernel_rfl,⟨rfl,om ((0:Int)≤4),om (4≤(1000000000:Int))⟩,q,ww3,q,yy q ?_⟩
    refine⟨by kernel_rfl,⟨rfl,om ((0:Int)≤4),om (4≤(1000000000:Int))⟩,q,ww3,q,yy q ?_⟩
    refine⟨by kernel_rfl,⟨rfl,om ((0:Int)≤4),om (4≤(1000000000:Int))⟩,q,ww3,q,yy q ?_⟩
    refine⟨by kernel_rfl,⟨rfl,om ((0:Int)≤4),om (4≤(1000000000:Int))⟩,q,ww3,q,nn q ?_⟩
    refine .inr (yy q ?_)
    refine .inr (yy q ?_)
    refine⟨by kernel_rfl,q,q,(c 0 q),(c 0 q),q,ww,q,ww,(c 0 q),q,yy q ?_⟩
    refine⟨by kernel_rfl,q,q,(c 1 q),(c 1 q),q,ww,q,ww,(c 1 q),q,yy q ?_⟩
    refine⟨by kernel_rfl,q,q,(c 2 q),(c 2 q),q,ww,q,ww,(c 2 q),q,yy q ?_⟩
    refine⟨by kernel_rfl,q,q,(c 3 q),(c 3 q),q,ww,q,ww,(c 3 q),q,nn q ?_⟩
    refine⟨q,yy q ?_⟩
    refine .inr (yy q ?_)
    refine⟨by kernel_rfl,q,q,(c 4 q),(c 4 q),q,ww,q,ww,(c 4 q),q,yy q ?_⟩
    refine⟨by kernel_rfl,q,q,(c 5 q),(c 5 q),q,ww,q,ww,(c 5 q),q,yy q ?_⟩
    refine⟨by kernel_rfl,q,q,(c 6 q),(c 6 q),q,ww,q,ww,(c 6 q),q,nn q ?_⟩
    refine⟨q,yy q ?_⟩
    refine .inr (yy q ?_)
    refine⟨by kernel_rfl,q,q,(c 7 q),(c 7 q),q,ww,q,ww,(c 7 q),q,yy q ?_⟩
    refine⟨by kernel_rfl,q,q,(c 8 q),(c 8 q),q,ww,q,ww,(c 8 q),q,nn q ?_⟩
    refine⟨q,yy q ?_⟩
    refine .inr (yy q ?_)
    refine⟨by kernel_rfl,q,q,(c 9 q),(c 9 q),q,ww,q,ww,(c 9 q),q,nn q ?_⟩
    refine⟨q,nn q ?_⟩
    refine⟨w4',?_⟩
    exact kr4 (v:= .tup [.agg [.int .i64 5,.sl true (.sl .str) (mkD 4 sz.toNat nz)],.int .i64 0]) (by kernel_rfl)
 ·omega
theorem bMk6 (sz:Int) (nz:List UInt8) (hz:0≤sz) (h1:sz≤4096) (hl:(nz.length:Int)=sz*((15:Nat):Int)):bodyP (En CUpd tys G6 [] [1000000,1000001]) Tryd.f33 [.m 1 .str,.k] [.int .i64 6,.int .i64 sz,.str nz] (.tup [.agg [.int .i64 6,.sl true (.sl .str) (mkD 5 sz.toNat nz)],.int .i64 0]) []:=by
 have c:= @cutOk sz nz 15 hz hl
 refine⟨fun h0=> ?_,cn ((6:Int)<2)⟩
 refine⟨fun h1=> ?_,cn ((12:Int)<6)⟩
 refine ny (sz<0) (fun h2=> ?_) fun h2=> ?_
 ·refine yn (4096<sz) (fun h3=> ?_) fun h3=> ?_
  ·omega
  ·refine⟨q,r64 (sz*5),q,r64 ((sz*5)*6),.inl ⟨⟨om ((0:Int)≤((sz*5)*6)),om ((0:Int)<2)⟩,?_⟩⟩
   refine yn ((nz.length:Int)≠(((sz*5)*6)/2)) (fun h4=> ?_) fun h4=> ?_
   ·omega
   ·refine⟨⟨rfl,by decide,by decide⟩,w4',.inr ?_⟩
    refine yy q ?_
    refine⟨by kernel_rfl,⟨rfl,om ((0:Int)≤5),om (5≤(1000000000:Int))⟩,q,ww3,q,yy q ?_⟩
    refine⟨by kernel_rfl,⟨rfl,om ((0:Int)≤5),om (5≤(1000000000:Int))⟩,q,ww3,q,yy q ?_⟩
    refine⟨by kernel_rfl,⟨rfl,om ((0:Int)≤5),om (5≤(1000000000:Int))⟩,q,ww3,q,yy q ?_⟩
    refine⟨by kernel_rfl,⟨rfl,om ((0:Int)≤5),om (5≤(1000000000:Int))⟩,q,ww3,q,yy q ?_⟩
    refine⟨by kernel_rfl,⟨rfl,om ((0:Int)≤5),om (5≤(1000000000:Int))⟩,q,ww3,q,nn q ?_⟩
    refine .inr (yy q ?_)
    refine .inr (yy q ?_)
    refine⟨by kernel_rfl,q,q,(c 0 q),(c 0 q),q,ww,q,ww,(c 0 q),q,yy q ?_⟩
    refine⟨by kernel_rfl,q,q,(c 1 q),(c 1 q),q,ww,q,ww,(c 1 q),q,yy q ?_⟩
    refine⟨by kernel_rfl,q,q,(c 2 q),(c 2 q),q,ww,q,ww,(c 2 q),q,yy q ?_⟩
    refine⟨by kernel_rfl,q,q,(c 3 q),(c 3 q),q,ww,q,ww,(c 3 q),q,yy q ?_⟩
    refine⟨by kernel_rfl,q,q,(c 4 q),(c 4 q),q,ww,q,ww,(c 4 q),q,nn q ?_⟩
    refine⟨q,yy q ?_⟩
    refine .inr (yy q ?_)
    refine⟨by kernel_rfl,q,q,(c 5 q),(c 5 q),q,ww,q,ww,(c 5 q),q,yy q ?_⟩
    refine⟨by kernel_rfl,q,q,(c 6 q),(c 6 q),q,ww,q,ww,(c 6 q),q,yy q ?_⟩
    refine⟨by kernel_rfl,q,q,(c 7 q),(c 7 q),q,ww,q,ww,(c 7 q),q,yy q ?_⟩
    refine⟨by kernel_rfl,q,q,(c 8 q),(c 8 q),q,ww,q,ww,(c 8 q),q,nn q ?_⟩
    refine⟨q,yy q ?_⟩
    refine .inr (yy q ?_)
    refine⟨by kernel_rfl,q,q,(c 9 q),(c 9 q),q,ww,q,ww,(c 9 q),q,yy q ?_⟩
    refine⟨by kernel_rfl,q,q,(c 10 q),(c 10 q),q,ww,q,ww,(c 10 q),q,yy q ?_⟩
    refine⟨by kernel_rfl,q,q,(c 11 q),(c 11 q),q,ww,q,ww,(c 11 q),q,nn q ?_⟩
    refine⟨q,yy q ?_⟩
    refine .inr (yy q ?_)
    refine⟨by kernel_rfl,q,q,(c 12 q),(c 12 q),q,ww,q,ww,(c 12 q),q,yy q ?_⟩
    refine⟨by kernel_rfl,q,q,(c 13 q),(c 13 q),q,ww,q,ww,(c 13 q),q,nn q ?_⟩
    refine⟨q,yy q ?_⟩
    refine .inr (yy q ?_)
    refine⟨by kernel_rfl,q,q,(c 14 q),(c 14 q),q,ww,q,ww,(c 14 q),q,nn q ?_⟩
    refine⟨q,nn q ?_⟩
    refine⟨w4',?_⟩
    exact kr4 (v:= .tup [.agg [.int .i64 6,.sl true (.sl .str) (mkD 5 sz.toNat nz)],.int .i64 0]) (by kernel_rfl)
 ·omega
theorem bMk7 (sz:Int) (nz:List UInt8) (hz:0≤sz) (h1:sz≤4096) (hl:(nz.length:Int)=sz*((21:Nat):Int)):bodyP (En CUpd tys G6 [] [1000000,1000001]) Tryd.f33 [.m 1 .str,.k] [.int .i64 7,.int .i64 sz,.str nz] (.tup [.agg [.int .i64 7,.sl true (.sl .str) (mkD 6 sz.toNat nz)],.int .i64 0]) []:=by
 have c:= @cutOk sz nz 21 hz hl
 refine⟨fun h0=> ?_,cn ((7:Int)<2)⟩
 refine⟨fun h1=> ?_,cn ((12:Int)<7)⟩
 refine ny (sz<0) (fun h2=> ?_) fun h2=> ?_
 ·refine yn (4096<sz) (fun h3=> ?_) fun h3=> ?_
  ·omega
  ·refine⟨q,r64 (sz*6),q,r64 ((sz*6)*7),.inl ⟨⟨om ((0:Int)≤((sz*6)*7)),om ((0:Int)<2)⟩,?_⟩⟩
   refine yn ((nz.length:Int)≠(((sz*6)*7)/2)) (fun h4=> ?_) fun h4=> ?_
   ·omega
   ·refine⟨⟨rfl,by decide,by decide⟩,w4',.inr ?_⟩
    refine yy q ?_
    refine⟨by kernel_rfl,⟨rfl,om ((0:Int)≤6),om (6≤(1000000000:Int))⟩,q,ww3,q,yy q ?_⟩
    refine⟨by kernel_rfl,⟨rfl,om ((0:Int)≤6),om (6≤(1000000000:Int))⟩,q,ww3,q,yy q ?_⟩
    refine⟨by kernel_rfl,⟨rfl,om ((0:Int)≤6),om (6≤(1000000000:Int))⟩,q,ww3,q,yy q ?_⟩
    refine⟨by kernel_rfl,⟨rfl,om ((0:Int)≤6),om (6≤(1000000000:Int))⟩,q,ww3,q,yy q ?_⟩
    refine⟨by kernel_rfl,⟨rfl,om ((0:Int)≤6),om (6≤(1000000000:Int))⟩,q,ww3,q,yy q ?_⟩
    refine⟨by kernel_rfl,⟨rfl,om ((0:Int)≤6),om (6≤(1000000000:Int))⟩,q,ww3,q,nn q ?_⟩
    refine .inr (yy q ?_)
    refine .inr (yy q ?_)
    refine⟨by kernel_rfl,q,q,(c 0 q),(c 0 q),q,ww,q,ww,(c 0 q),q,yy q ?_⟩
    refine⟨by kernel_rfl,q,q,(c 1 q),(c 1 q),q,ww,q,ww,(c 1 q),q,yy q ?_⟩
    refine⟨by kernel_rfl,q,q,(c 2 q),(c 2 q),q,ww,q,ww,(c 2 q),q,yy q ?_⟩
    refine⟨by kernel_rfl,q,q,(c 3 q),(c 3 q),q,ww,q,ww,(c 3 q),q,yy q ?_⟩
    refine⟨by kernel_rfl,q,q,(c 4 q),(c 4 q),q,ww,q,ww,(c 4 q),q,yy q ?_⟩
    refine⟨by kernel_rfl,q,q,(c 5 q),(c 5 q),q,ww,q,ww,(c 5 q),q,nn q ?_⟩
    refine⟨q,yy q ?_⟩
    refine .inr (yy q ?_)
    refine⟨by kernel_rfl,q,q,(c 6 q),(c 6 q),q,ww,q,ww,(c 6 q),q,yy q ?_⟩
    refine⟨by kernel_rfl,q,q,(c 7 q),(c 7 q),q,ww,q,ww,(c 7 q),q,yy q ?_⟩
    refine⟨by kernel_rfl,q,q,(c 8 q),(c 8 q),q,ww,q,ww,(c 8 q),q,yy q ?_⟩
    refine⟨by kernel_rfl,q,q,(c 9 q),(c 9 q),q,ww,q,ww,(c 9 q),q,yy q ?_⟩
    refine⟨by kernel_rfl,q,q,(c 10 q),(c 10 q),q,ww,q,ww,(c 10 q),q,nn q ?_⟩
    refine⟨q,yy q ?_⟩
    refine .inr (yy q ?_)
    refine⟨by kernel_rfl,q,q,(c 11 q),(c 11 q),q,ww,q,ww,(c 11 q),q,yy q ?_⟩
    refine⟨by kernel_rfl,q,q,(c 12 q),(c 12 q),q,ww,q,ww,(c 12 q),q,yy q ?_⟩
    refine⟨by kernel_rfl,q,q,(c 13 q),(c 13 q),q,ww,q,ww,(c 13 q),q,yy q ?_⟩
    refine⟨by kernel_rfl,q,q,(c 14 q),(c 14 q),q,ww,q,ww,(c 14 q),q,nn q ?_⟩
    refine⟨q,yy q ?_⟩
    refine .inr (yy q ?_)
    refine⟨by kernel_rfl,q,q,(c 15 q),(c 15 q),q,ww,q,ww,(c 15 q),q,yy q ?_⟩
    refine⟨by kernel_rfl,q,q,(c 16 q),(c 16 q),q,ww,q,ww,(c 16 q),q,yy q ?_⟩
    refine⟨by kernel_rfl,q,q,(c 17 q),(c 17 q),q,ww,q,ww,(c 17 q),q,nn q ?_⟩
    refine⟨q,yy q ?_⟩
    refine .inr (yy q ?_)
    refine⟨by kernel_rfl,q,q,(c 18 q),(c 18 q),q,ww,q,ww,(c 18 q),q,yy q ?_⟩
    refine⟨by kernel_rfl,q,q,(c 19 q),(c 19 q),q,ww,q,ww,(c 19 q),q,nn q ?_⟩
    refine⟨q,yy q ?_⟩
    refine .inr (yy q ?_)
    refine⟨by kernel_rfl,q,q,(c 20 q),(c 20 q),q,ww,q,ww,(c 20 q),q,nn q ?_⟩
    refine⟨q,nn q ?_⟩
    refine⟨w4',?_⟩
    exact kr4 (v:= .tup [.agg [.int .i64 7,.sl true (.sl .str) (mkD 6 sz.toNat nz)],.int .i64 0]) (by kernel_rfl)
 ·omega
def sMk:List V→Option (Prop×V×List Blk)
 |[.int .i64 nd,.int .i64 sz,.str nz]=>some (nd≤7,.tup [.agg [.int .i64 (mkN nd sz nz),.sl true (.sl .str) (mkC nd sz nz)],.int .i64 (mkE nd sz nz)], [])
 |_=>none
theorem bMk (nd sz:Int) (nz:List UInt8) (hp0:nd≤7):bodyP (En CUpd tys G6 [] [1000000,1000001]) Tryd.f33 [.m 1 .str,.k] [.int .i64 nd,.int .i64 sz,.str nz] (.tup [.agg [.int .i64 (mkN nd sz nz),.sl true (.sl .str) (mkC nd sz nz)],.int .i64 (mkE nd sz nz)]) []:=by
 by_cases hn:nd<2∨12<nd∨sz<0∨4096<sz
 ·obtain⟨e1,e2,e3⟩:=mkE3 (s:=nz) hn
  rw [e1,e2,e3];exact bMk0 nd sz nz hn
 ·by_cases hl:(nz.length:Int)=sz*(((nd-1)*nd)/2)
  ·obtain⟨e1,e2,e3⟩:=mkE0 hn hl
   rw [e1,e2,e3]
   obtain rfl|rfl|rfl|rfl|rfl|rfl:nd=2∨nd=3∨nd=4∨nd=5∨nd=6∨nd=7:=by omega
   ·exact bMk2 sz nz (by omega) (by omega) (by omega)
   ·exact bMk3 sz nz (by omega) (by omega) (by omega)
   ·exact bMk4 sz nz (by omega) (by omega) (by omega)
   ·exact bMk5 sz nz (by omega) (by omega) (by omega)
   ·exact bMk6 sz nz (by omega) (by omega) (by omega)
   ·exact bMk7 sz nz (by omega) (by omega) (by omega)
  ·obtain⟨e1,e2,e3⟩:=mkE1 hn hl
   rw [e1,e2,e3]
   obtain⟨p1,p2,p3⟩:=prod_bd (nd:=nd) (sz:=sz) (by omega) (by omega) (by omega) (by omega)
   exact bMkN nd sz nz (by omega) (by omega) (by omega) (by omega) p1 p2 (by rw [p3];exact hl)
def CMk:List (Nat×Con):=(33,pureC [.v (.int .i64),.v (.int .i64),.v .str] sMk)::CUpd
theorem kMk:Known Tryd.prog (En CMk tys G6 []):=Known.frz0<|(kUpd.frz [1000000,1000001]).add Tryd.func33 Tryd.call33 [.m 1 .str,.k] fun ds p v bs h hp=>by
 unfold sMk at h
 split at h<;>simp only [Option.some.injEq,Prod.mk.injEq,reduceCtorEq] at h
 obtain⟨rfl,rfl,rfl⟩:=h
 exact bMk _ _ _ hp
section
def fr (sz:Int):Nat→Int
 |0=>0
 |k+1=>fr sz k+sz
def cutR (sz:Int) (s:List UInt8) (k:Nat):List UInt8:=(s.drop (fr sz k).toNat).take ((fr sz (k+1)).toNat-(fr sz k).toNat)
def mkR (m:Nat) (sz:Int) (s:List UInt8):List Rw:=(List.range m).map fun a=>(List.range m).map fun b=>cutR sz s (posT m a b)
theorem fr_eq (z:Nat):∀k,fr (z:Int) k=((k*z:Nat):Int)
 |0=>by rw [fr,Nat.zero_mul];rfl
 |k+1=>by rw [fr,fr_eq z k,Nat.succ_mul];omega
theorem frR {sz:Int} (hz:0≤sz) (h1:sz≤4096) (k:Nat) (hk:k≤66:=by decide):(-9223372036854775808:Int)≤fr sz k∧fr sz k≤(9223372036854775807:Int):=by
 obtain⟨z,rfl⟩:=Int.eq_ofNat_of_zero_le hz
 have h2:k*z≤66*4096:=Nat.mul_le_mul hk (by omega)
 rw [fr_eq];omega
theorem frC {sz:Int} {s:List UInt8} (K:Nat) (hz:0≤sz) (hl:(s.length:Int)=sz*(K:Int)) (k:Nat) (hk:k<K:=by decide):0≤fr sz k∧fr sz k≤fr sz (k+1)∧fr sz (k+1)≤(s.length:Int):=by
 obtain⟨z,rfl⟩:=Int.eq_ofNat_of_zero_le hz
 have h1:s.length=z*K:=by exact_mod_cast hl
 have h2:(k+1)*z≤K*z:=Nat.mul_le_mul_right z hk
 rw [fr_eq,fr_eq,h1,Nat.mul_comm z K]
 rw [Nat.succ_mul] at h2 ⊢
 omega
theorem mkR_eq {m:Nat} {sz:Int} {s:List UInt8} (hz:0≤sz):mkR m sz s=mkD m sz.toNat s:=by
 obtain⟨z,rfl⟩:=Int.eq_ofNat_of_zero_le hz
 unfold mkR mkD
 refine List.map_congr_left fun a _=>List.map_congr_left fun b _=> ?_
 unfold cutR
 rw [fr_eq,fr_eq,dn_eq,Nat.succ_mul]
 rw [show(((posT m a b*z:Nat):Int)).toNat=posT m a b*z from rfl,show(((posT m a b*z+z:Nat):Int)).toNat=posT m a b*z+z from rfl,show((z:Int)).toNat=z from rfl,Nat.add_sub_cancel_left]
section
variable {nd:Int} {cf:List Rw}
theorem ck_pre (h1:¬(nd<2∨12<nd)) (h2:¬(cf.length:Int)≠nd-1):chkD nd cf=if cf.all (lenB cf)=false then 1 else if 4096<n00 cf then 2 else if symB cf cf.length=false then 1 else 0:=by
 unfold chkD;rw [if_neg h1,if_neg h2]
theorem ck_bad (h1:¬(nd<2∨12<nd)) (h2:¬(cf.length:Int)≠nd-1) {a:Nat} (ha:a<cf.length) (h:lenB cf (cf.getD a [])=false):chkD nd cf=1:=by
 rw [ck_pre h1 h2,if_pos]
 cases e:cf.all (lenB cf) with
 |false=>rfl
 |true=>rw [List.all_eq_true.1 e _ (getD_mem [] cf a ha)] at h;cases h
theorem ck_len (h1:¬(nd<2∨12<nd)) (h2:¬(cf.length:Int)≠nd-1) {a:Nat} (ha:a<cf.length) (h:¬(cf.getD a []).length=cf.length):chkD nd cf=1:=ck_bad h1 h2 ha (lenB_bad1 h)
theorem ck_ent (h1:¬(nd<2∨12<nd)) (h2:¬(cf.length:Int)≠nd-1) (hl:∀i,i<cf.length→(cf.getD i []).length=cf.length) {a b:Nat} (ha:a<cf.length) (hb:b<cf.length) (h:¬((cf.getD a []).getD b []).length=n00 cf):chkD nd cf=1:=by
 refine ck_bad h1 h2 ha (lenB_bad3 ?_)
 cases e:(cf.getD a []).all (fun s=>decide (s.length=n00 cf)) with
 |false=>rfl
 |true=>exact absurd (of_decide_eq_true (List.all_eq_true.1 e _ (getD_mem [] _ b (by rw [hl a ha];exact hb)))) h
theorem ck_all (h0:0<cf.length) (hl:∀i,i<cf.length→(cf.getD i []).length=cf.length) (he:∀i j,i<cf.length→j<cf.length→((cf.getD i []).getD j []).length=n00 cf):cf.all (lenB cf)=true:=by
 refine List.all_eq_true.2 fun l hm=> ?_
 obtain⟨i,hi,e⟩:=List.mem_iff_getElem.1 hm
 have e:cf.getD i []=l:=by rw [List.getD_eq_getElem?_getD,List.getElem?_eq_getElem hi];exact e
 refine lenB_yes (e▸hl i hi) (hl 0 h0) (List.all_eq_true.2 fun s hs=>decide_eq_true ?_)
 obtain⟨j,hj,e2⟩:=List.mem_iff_getElem.1 hs
 have e2:l.getD j []=s:=by rw [List.getD_eq_getElem?_getD,List.getElem?_eq_getElem hj];exact e2
 have hj2:j<cf.length:=by rw [←hl i hi,e];exact hj
 have:=he i j hi hj2
 rw [e,e2] at this
 exact this
theorem ck_lim (h1:¬(nd<2∨12<nd)) (h2:¬(cf.length:Int)≠nd-1) (hl:∀i,i<cf.length→(cf.getD i []).length=cf.length) (he:∀i j,i<cf.length→j<cf.length→((cf.getD i []).getD j []).length=n00 cf) (h:4096<n00 cf):chkD nd cf=2:=by
 rw [ck_pre h1 h2,if_neg (by rw [ck_all (by omega) hl he];decide),if_pos h]
theorem sym_get (h:symB cf cf.length=true) {a b:Nat} (ha:a<cf.length) (hb:b<a):(cf.getD a []).getD b []=(cf.getD b []).getD a []:=
 of_decide_eq_true (List.all_eq_true.1 (List.all_eq_true.1 h a (List.mem_range.2 ha)) b (List.mem_range.2 hb))
theorem ck_sym (h1:¬(nd<2∨12<nd)) (h2:¬(cf.length:Int)≠nd-1) (hl:∀i,i<cf.length→(cf.getD i []).length=cf.length) (he:∀i j,i<cf.length→j<cf.length→((cf.getD i []).getD j []).length=n00 cf) (h3:¬4096<n00 cf) {a b:Nat} (ha:a<cf.length) (hb:b<cf.length) (h:¬(cf.getD a []).getD b []=(cf.getD b []).getD a []):chkD nd cf=1:=by
 rw [ck_pre h1 h2,if_neg (by rw [ck_all (by omega) hl he];decide),if_neg h3,if_pos]
 cases e:symB cf cf.length with
 |false=>rfl
 |true=>
  exfalso
  rcases Nat.lt_trichotomy a b with g|g|g
  ·exact h (sym_get e hb g).symm
  ·subst g;exact h rfl
  ·exact h (sym_get e ha g)
theorem ck_okR (h1:¬(nd<2∨12<nd)) (h2:¬(cf.length:Int)≠nd-1) (hl:∀i,i<cf.length→(cf.getD i []).length=cf.length) (he:∀i j,i<cf.length→j<cf.length→((cf.getD i []).getD j []).length=n00 cf) (h3:¬4096<n00 cf) (hs:∀i j,i<cf.length→j<cf.length→(cf.getD i []).getD j []=(cf.getD j []).getD i []):chkD nd cf=0:=by
 rw [ck_pre h1 h2,if_neg (by rw [ck_all (by omega) hl he];decide),if_neg h3,if_neg]
 intro g
 have:symB cf cf.length=true:=List.all_eq_true.2 fun a ha=>List.all_eq_true.2 fun b hb=>decide_eq_true (hs a b (List.mem_range.1 ha) (by have:=List.mem_range.1 ha;have:=List.mem_range.1 hb;omega))
 rw [this] at g;cases g
theorem lt_ext {p:Nat→Prop} {k:Nat} (h:∀i,i<k→p i) (hk:p k):∀i,i<k+1→p i:=fun i hi=>by
 rcases Nat.lt_or_ge i k with g|g
 ·exact h i g
 ·rw [show i=k by omega];exact hk
end
end
theorem bRk0 (nd sz:Int) (nz:List UInt8) (hn:nd<2∨12<nd∨sz<0∨4096<sz):bodyP (En CMk tys G6 [] [1000000,1000001]) Tryd.f37 [.k,.n .str,.k] [.int .i64 nd,.int .i64 sz,.str nz] (.agg [.int .i64 0,.sl true (.sl .str) [],.int .i64 3]) []:=by
 refine ny (nd<2) (fun h0=> ?_) fun h0=> ?_
 ·refine ny (12<nd) (fun h1=> ?_) fun h1=> ?_
  ·refine ny (sz<0) (fun h2=> ?_) fun h2=> ?_
   ·refine yn (4096<sz) (fun h3=> ?_) fun h3=> ?_
    ·refine⟨w4',?_⟩
     exact kr4 (v:= .agg [.int .i64 0,.sl true (.sl .str) [],.int .i64 3]) (by kernel_rfl)
    ·omega
   ·refine⟨w4',?_⟩
    exact kr4 (v:= .agg [.int .i64 0,.sl true (.sl .str) [],.int .i64 3]) (by kernel_rfl)
  ·refine⟨w4',?_⟩
   exact kr4 (v:= .agg [.int .i64 0,.sl true (.sl .str) [],.int .i64 3]) (by kernel_rfl)
 ·refine⟨w4',?_⟩
  exact kr4 (v:= .agg [.int .i64 0,.sl true (.sl .str) [],.int .i64 3]) (by kernel_rfl)
theorem bRkN (nd sz:Int) (nz:List UInt8) (g2:2≤nd) (g12:nd≤12) (hz:0≤sz) (hs4:sz≤4096) (hb1:0≤sz*(nd-1)∧sz*(nd-1)≤45056) (hb2:0≤(sz*(nd-1))*((nd-1)+1)∧(sz*(nd-1))*((nd-1)+1)≤540672) (hl:¬(nz.length:Int)=((sz*(nd-1))*((nd-1)+1))/2):bodyP (En CMk tys G6 [] [1000000,1000001]) Tryd.f37 [.k,.n .str,.k] [.int .i64 nd,.int .i64 sz,.str nz] (.agg [.int .i64 0,.sl true (.sl .str) [],.int .i64 1]) []:=by
 refine ny (nd<2) (fun h0=> ?_) fun h0=> ?_
 ·refine ny (12<nd) (fun h1=> ?_) fun h1=> ?_
  ·refine ny (sz<0) (fun h2=> ?_) fun h2=> ?_
   ·refine yn (4096<sz) (fun h3=> ?_) fun h3=> ?_
    ·omega
    ·refine⟨r64 (nd-1),r64 (sz*(nd-1)),r64 ((nd-1)+1),r64 ((sz*(nd-1))*((nd-1)+1)),.inl ⟨⟨om ((0:Int)≤((sz*(nd-1))*((nd-1)+1))),om ((0:Int)<2)⟩,?_⟩⟩
     refine yn ((nz.length:Int)≠(((sz*(nd-1))*((nd-1)+1))/2)) (fun h4=> ?_) fun h4=> ?_
     ·refine⟨w4',?_⟩
      exact kr4 (v:= .agg [.int .i64 0,.sl true (.sl .str) [],.int .i64 1]) (by kernel_rfl)
     ·exact absurd (nw h4) hl
   ·omega
  ·omega
 ·omega
theorem bRk2 (sz:Int) (nz:List UInt8) (hz:0≤sz) (hs4:sz≤4096) (hl:(nz.length:Int)=sz*((1:Nat):Int)):bodyP (En CMk tys G6 [] [1000000,1000001]) Tryd.f37 [.k,.n .str,.k] [.int .i64 2,.int .i64 sz,.str nz] (.agg [.int .i64 2,.sl true (.sl .str) (mkR 1 sz nz),.int .i64 0]) []:=by
 have c:= @frC sz nz 1 hz hl
 have f:= @frR sz hz hs4
 refine⟨fun h0=> ?_,cn ((2:Int)<2)⟩
 refine⟨fun h1=> ?_,cn ((12:Int)<2)⟩
 refine ny (sz<0) (fun h2=> ?_) fun h2=> ?_
 ·refine yn (4096<sz) (fun h3=> ?_) fun h3=> ?_
  ·omega
  ·refine⟨q,r64 (sz*1),q,r64 ((sz*1)*2),.inl ⟨⟨om ((0:Int)≤((sz*1)*2)),om ((0:Int)<2)⟩,?_⟩⟩
   refine yn ((nz.length:Int)≠(((sz*1)*2)/2)) (fun h4=> ?_) fun h4=> ?_
   ·omega
   ·refine⟨w4',.inr ?_⟩
    refine yy q ?_
    refine⟨by kernel_rfl,⟨rfl,om ((0:Int)≤1),om (1≤(1000000000:Int))⟩,ww3,ww3,q,nn q ?_⟩
    refine .inr (yy q ?_)
    refine .inr (yy q ?_)
    refine⟨(f 1 q),(c 0 q),q,q,ww,q,q,ww,(f 1 q),q,nn q ?_⟩
    refine⟨q,nn q ?_⟩
    refine⟨w4',?_⟩
    exact kr4 (v:= .agg [.int .i64 2,.sl true (.sl .str) (mkR 1 sz nz),.int .i64 0]) (by kernel_rfl)
 ·omega
theorem bRk3 (sz:Int) (nz:List UInt8) (hz:0≤sz) (hs4:sz≤4096) (hl:(nz.length:Int)=sz*((3:Nat):Int)):bodyP (En CMk tys G6 [] [1000000,1000001]) Tryd.f37 [.k,.n .str,.k] [.int .i64 3,.int .i64 sz,.str nz] (.agg [.int .i64 3,.sl true (.sl .str) (mkR 2 sz nz),.int .i64 0]) []:=by
 have c:= @frC sz nz 3 hz hl
 have f:= @frR sz hz hs4
 refine⟨fun h0=> ?_,cn ((3:Int)<2)⟩
 refine⟨fun h1=> ?_,cn ((12:Int)<3)⟩
 refine ny (sz<0) (fun h2=> ?_) fun h2=> ?_
 ·refine yn (4096<sz) (fun h3=> ?_) fun h3=> ?_
  ·omega
  ·refine⟨q,r64 (sz*2),q,r64 ((sz*2)*3),.inl ⟨⟨om ((0:Int)≤((sz*2)*3)),om ((0:Int)<2)⟩,?_⟩⟩
   refine yn ((nz.length:Int)≠(((sz*2)*3)/2)) (fun h4=> ?_) fun h4=> ?_
   ·omega
   ·refine⟨w4',.inr ?_⟩
    refine yy q ?_
    refine⟨by kernel_rfl,⟨rfl,om ((0:Int)≤2),om (2≤(1000000000:Int))⟩,ww3,ww3,q,yy q ?_⟩
    refine⟨by kernel_rfl,⟨rfl,om ((0:Int)≤2),om (2≤(1000000000:Int))⟩,⟨rfl,rfl,rfl,rfl,rfl,rfl⟩,ww3,q,nn q ?_⟩
    refine .inr (yy q ?_)
    refine .inr (yy q ?_)
    refine⟨(f 1 q),(c 0 q),q,q,ww,q,q,ww,(f 1 q),q,yy q ?_⟩
    refine⟨(f 2 q),(c 1 q),q,q,ww,q,q,ww,(f 2 q),q,nn q ?_⟩
    refine⟨q,yy q ?_⟩
    refine .inr (yy q ?_)
    refine⟨(f 3 q),(c 2 q),q,q,ww,q,q,ww,(f 3 q),q,nn q ?_⟩
    refine⟨q,nn q ?_⟩
    refine⟨w4',?_⟩
    exact kr4 (v:= .agg [.int .i64 3,.sl true (.sl .str) (mkR 2 sz nz),.int .i64 0]) (by kernel_rfl)
 ·omega
theorem bRk4 (sz:Int) (nz:List UInt8) (hz:0≤sz) (hs4:sz≤4096) (hl:(nz.length:Int)=sz*((6:Nat):Int)):bodyP (En CMk tys G6 [] [1000000,1000001]) Tryd.f37 [.k,.n .str,.k] [.int .i64 4,.int .i64 sz,.str nz] (.agg [.int .i64 4,.sl true (.sl .str) (mkR 3 sz nz),.int .i64 0]) []:=by
 have c:= @frC sz nz 6 hz hl
 have f:= @frR sz hz hs4
 refine⟨fun h0=> ?_,cn ((4:Int)<2)⟩
 refine⟨fun h1=> ?_,cn ((12:Int)<4)⟩
 refine ny (sz<0) (fun h2=> ?_) fun h2=> ?_
 ·refine yn (4096<sz) (fun h3=> ?_) fun h3=> ?_
  ·omega
  ·refine⟨q,r64 (sz*3),q,r64 ((sz*3)*4),.inl ⟨⟨om ((0:Int)≤((sz*3)*4)),om ((0:Int)<2)⟩,?_⟩⟩
   refine yn ((nz.length:Int)≠(((sz*3)*4)/2)) (fun h4=> ?_) fun h4=> ?_
   ·omega
   ·refine⟨w4',.inr ?_⟩
    refine yy q ?_
    refine⟨by kernel_rfl,⟨rfl,q,q⟩,ww3,ww3,q,yy q ?_⟩
    refine⟨by kernel_rfl,⟨rfl,q,q⟩,⟨rfl,rfl,rfl,rfl,rfl,rfl⟩,ww3,q,yy q ?_⟩
    refine⟨by kernel_rfl,⟨rfl,q,q⟩,⟨rfl,rfl,rfl,rfl,rfl,rfl⟩,ww3,q,nn q ?_⟩
    refine .inr (yy q ?_)
    refine .inr (yy q ?_)
    refine⟨(f 1 q),(c 0 q),q,q,ww,q,q,ww,(f 1 q),q,yy q ?_⟩
    refine⟨(f 2 q),(c 1 q),q,q,ww,q,q,ww,(f 2 q),q,yy q ?_⟩
    refine⟨(f 3 q),(c 2 q),q,q,ww,q,q,ww,(f 3 q),q,nn q ?_⟩
    refine⟨q,yy q ?_⟩
    refine .inr (yy q ?_)
    refine⟨(f 4 q),(c 3 q),q,q,ww,q,q,ww,(f 4 q),q,yy q ?_⟩
    refine⟨(f 5 q),(c 4 q),q,q,ww,q,q,ww,(f 5 q),q,nn q ?_⟩
    refine⟨q,yy q ?_⟩
    refine .inr (yy q ?_)
    refine⟨(f 6 q),(c 5 q),q,q,ww,q,q,ww,(f 6 q),q,nn q ?_⟩
    refine⟨q,nn q ?_⟩
    refine⟨w4',?_⟩
    exact kr4 (v:= .agg [.int .i64 4,.sl true (.sl .str) (mkR 3 sz nz),.int .i64 0]) (by kernel_rfl)
 ·omega
theorem bRk5 (sz:Int) (nz:List UInt8) (hz:0≤sz) (hs4:sz≤4096) (hl:(nz.length:Int)=sz*((10:Nat):Int)):bodyP (En CMk tys G6 [] [1000000,1000001]) Tryd.f37 [.k,.n .str,.k] [.int .i64 5,.int .i64 sz,.str nz] (.agg [.int .i64 5,.sl true (.sl .str) (mkR 4 sz nz),.int .i64 0]) []:=by
 have c:= @frC sz nz 10 hz hl
 have f:= @frR sz hz hs4
 refine⟨fun h0=> ?_,cn ((5:Int)<2)⟩
 refine⟨fun h1=> ?_,cn ((12:Int)<5)⟩
 refine ny (sz<0) (fun h2=> ?_) fun h2=> ?_
 ·refine yn (4096<sz) (fun h3=> ?_) fun h3=> ?_
  ·omega
  ·refine⟨q,r64 (sz*4),q,r64 ((sz*4)*5),.inl ⟨⟨om ((0:Int)≤((sz*4)*5)),om ((0:Int)<2)⟩,?_⟩⟩
   refine yn ((nz.length:Int)≠(((sz*4)*5)/2)) (fun h4=> ?_) fun h4=> ?_
   ·omega
   ·refine⟨w4',.inr ?_⟩
    refine yy q ?_
    refine⟨by kernel_rfl,⟨rfl,om ((0:Int)≤4),om (4≤(1000000000:Int))⟩,ww3,ww3,q,yy q ?_⟩
    refine⟨by kernel_rfl,⟨rfl,om ((0:Int)≤4),om (4≤(1000000000:Int))⟩,⟨rfl,rfl,rfl,rfl,rfl,rfl⟩,ww3,q,yy q ?_⟩
    refine⟨by kernel_rfl,⟨rfl,om ((0:Int)≤4),om (4≤(1000000000:Int))⟩,⟨rfl,rfl,rfl,rfl,rfl,rfl⟩,ww3,q,yy q ?_⟩
    refine⟨by kernel_rfl,⟨rfl,om ((0:Int)≤4),om (4≤(1000000000:Int))⟩,⟨rfl,rfl,rfl,rfl,rfl,rfl⟩,ww3,q,nn q ?_⟩
    refine .inr (yy q ?_)
    refine .inr (yy q ?_)
    refine⟨(f 1 q),(c 0 q),q,q,ww,q,q,ww,(f 1 q),q,yy q ?_⟩
    refine⟨(f 2 q),(c 1 q),q,q,ww,q,q,ww,(f 2 q),q,yy q ?_⟩
    refine⟨(f 3 q),(c 2 q),q,q,ww,q,q,ww,(f 3 q),q,yy q ?_⟩
    refine⟨(f 4 q),(c 3 q),q,q,ww,q,q,ww,(f 4 q),q,nn q ?_⟩
    refine⟨q,yy q ?_⟩
    refine .inr (yy q ?_)
    refine⟨(f 5 q),(c 4 q),q,q,ww,q,q,ww,(f 5 q),q,yy q ?_⟩
    refine⟨(f 6 q),(c 5 q),q,q,ww,q,q,ww,(f 6 q),q,yy q ?_⟩
    refine⟨(f 7 q),(c 6 q),q,q,ww,q,q,ww,(f 7 q),q,nn q ?_⟩
    refine⟨q,yy q ?_⟩
    refine .inr (yy q ?_)
    refine⟨(f 8 q),(c 7 q),q,q,ww,q,q,ww,(f 8 q),q,yy q ?_⟩
    refine⟨(f 9 q),(c 8 q),q,q,ww,q,q,ww,(f 9 q),q,nn q ?_⟩
    refine⟨q,yy q ?_⟩
    refine .inr (yy q ?_)
    refine⟨(f 10 q),(c 9 q),q,q,ww,q,q,ww,(f 10 q),q,nn q ?_⟩
    refine⟨q,nn q ?_⟩
    refine⟨w4',?_⟩
    exact kr4 (v:= .agg [.int .i64 5,.sl true (.sl .str) (mkR 4 sz nz),.int .i64 0]) (by kernel_rfl)
 ·omega
theorem bRk6 (sz:Int) (nz:List UInt8) (hz:0≤sz) (hs4:sz≤4096) (hl:(nz.length:Int)=sz*((15:Nat):Int)):bodyP (En CMk tys G6 [] [1000000,1000001]) Tryd.f37 [.k,.n .str,.k] [.int .i64 6,.int .i64 sz,.str nz] (.agg [.int .i64 6,.sl true (.sl .str) (mkR 5 sz nz),.int .i64 0]) []:=by
 have c:= @frC sz nz 15 hz hl
 have f:= @frR sz hz hs4
 refine⟨fun h0=> ?_,cn ((6:Int)<2)⟩
 refine⟨fun h1=> ?_,cn ((12:Int)<6)⟩
 refine ny (sz<0) (fun h2=> ?_) fun h2=> ?_
 ·refine yn (4096<sz) (fun h3=> ?_) fun h3=> ?_
  ·omega
  ·refine⟨q,r64 (sz*5),q,r64 ((sz*5)*6),.inl ⟨⟨om ((0:Int)≤((sz*5)*6)),om ((0:Int)<2)⟩,?_⟩⟩
   refine yn ((nz.length:Int)≠(((sz*5)*6)/2)) (fun h4=> ?_) fun h4=> ?_
   ·omega
   ·refine⟨w4',.inr ?_⟩
    refine yy q ?_
    refine⟨by kernel_rfl,⟨rfl,om ((0:Int)≤5),om (5≤(1000000000:Int))⟩,ww3,ww3,q,yy q ?_⟩
    refine⟨by kernel_rfl,⟨rfl,om ((0:Int)≤5),om (5≤(1000000000:Int))⟩,⟨rfl,rfl,rfl,rfl,rfl,rfl⟩,ww3,q,yy q ?_⟩
    refine⟨by kernel_rfl,⟨rfl,om ((0:Int)≤5),om (5≤(1000000000:Int))⟩,⟨rfl,rfl,rfl,rfl,rfl,rfl⟩,ww3,q,yy q ?_⟩
    refine⟨by kernel_rfl,⟨rfl,om ((0:Int)≤5),om (5≤(1000000000:Int))⟩,⟨rfl,rfl,rfl,rfl,rfl,rfl⟩,ww3,q,yy q ?_⟩
    refine⟨by kernel_rfl,⟨rfl,om ((0:Int)≤5),om (5≤(1000000000:Int))⟩,⟨rfl,rfl,rfl,rfl,rfl,rfl⟩,ww3,q,nn q ?_⟩
    refine .inr (yy q ?_)
    refine .inr (yy q ?_)
    refine⟨(f 1 q),(c 0 q),q,q,ww,q,q,ww,(f 1 q),q,yy q ?_⟩
    refine⟨(f 2 q),(c 1 q),q,q,ww,q,q,ww,(f 2 q),q,yy q ?_⟩
    refine⟨(f 3 q),(c 2 q),q,q,ww,q,q,ww,(f 3 q),q,yy q ?_⟩
    refine⟨(f 4 q),(c 3 q),q,q,ww,q,q,ww,(f 4 q),q,yy q ?_⟩
    refine⟨(f 5 q),(c 4 q),q,q,ww,q,q,ww,(f 5 q),q,nn q ?_⟩
    refine⟨q,yy q ?_⟩
    refine .inr (yy q ?_)
    refine⟨(f 6 q),(c 5 q),q,q,ww,q,q,ww,(f 6 q),q,yy q ?_⟩
    refine⟨(f 7 q),(c 6 q),q,q,ww,q,q,ww,(f 7 q),q,yy q ?_⟩
    refine⟨(f 8 q),(c 7 q),q,q,ww,q,q,ww,(f 8 q),q,yy q ?_⟩
    refine⟨(f 9 q),(c 8 q),q,q,ww,q,q,ww,(f 9 q),q,nn q ?_⟩
    refine⟨q,yy q ?_⟩
    refine .inr (yy q ?_)
    refine⟨(f 10 q),(c 9 q),q,q,ww,q,q,ww,(f 10 q),q,yy q ?_⟩
    refine⟨(f 11 q),(c 10 q),q,q,ww,q,q,ww,(f 11 q),q,yy q ?_⟩
    refine⟨(f 12 q),(c 11 q),q,q,ww,q,q,ww,(f 12 q),q,nn q ?_⟩
    refine⟨q,yy q ?_⟩
    refine .inr (yy q ?_)
    refine⟨(f 13 q),(c 12 q),q,q,ww,q,q,ww,(f 13 q),q,yy q ?_⟩
    refine⟨(f 14 q),(c 13 q),q,q,ww,q,q,ww,(f 14 q),q,nn q ?_⟩
    refine⟨q,yy q ?_⟩
    refine .inr (yy q ?_)
    refine⟨(f 15 q),(c 14 q),q,q,ww,q,q,ww,(f 15 q),q,nn q ?_⟩
    refine⟨q,nn q ?_⟩
    refine⟨w4',?_⟩
    exact kr4 (v:= .agg [.int .i64 6,.sl true (.sl .str) (mkR 5 sz nz),.int .i64 0]) (by kernel_rfl)
 ·omega
theorem bRk7 (sz:Int) (nz:List UInt8) (hz:0≤sz) (hs4:sz≤4096) (hl:(nz.length:Int)=sz*((21:Nat):Int)):bodyP (En CMk tys G6 [] [1000000,1000001]) Tryd.f37 [.k,.n .str,.k] [.int .i64 7,.int .i64 sz,.str nz] (.agg [.int .i64 7,.sl true (.sl .str) (mkR 6 sz nz),.int .i64 0]) []:=by
 have c:= @frC sz nz 21 hz hl
 have f:= @frR sz hz hs4
 refine⟨fun h0=> ?_,cn ((7:Int)<2)⟩
 refine⟨fun h1=> ?_,cn ((12:Int)<7)⟩
 refine ny (sz<0) (fun h2=> ?_) fun h2=> ?_
 ·refine yn (4096<sz) (fun h3=> ?_) fun h3=> ?_
  ·omega
  ·refine⟨q,r64 (sz*6),q,r64 ((sz*6)*7),.inl ⟨⟨om ((0:Int)≤((sz*6)*7)),om ((0:Int)<2)⟩,?_⟩⟩
   refine yn ((nz.length:Int)≠(((sz*6)*7)/2)) (fun h4=> ?_) fun h4=> ?_
   ·omega
   ·refine⟨w4',.inr ?_⟩
    refine yy q ?_
    refine⟨by kernel_rfl,⟨rfl,om ((0:Int)≤6),om (6≤(1000000000:Int))⟩,ww3,ww3,q,yy q ?_⟩
    refine⟨by kernel_rfl,⟨rfl,om ((0:Int)≤6),om (6≤(1000000000:Int))⟩,⟨rfl,rfl,rfl,rfl,rfl,rfl⟩,ww3,q,yy q ?_⟩
    refine⟨by kernel_rfl,⟨rfl,om ((0:Int)≤6),om (6≤(1000000000:Int))⟩,⟨rfl,rfl,rfl,rfl,rfl,rfl⟩,ww3,q,yy q ?_⟩
    refine⟨by kernel_rfl,⟨rfl,om ((0:Int)≤6),om (6≤(1000000000:Int))⟩,⟨rfl,rfl,rfl,rfl,rfl,rfl⟩,ww3,q,yy q ?_⟩
    refine⟨by kernel_rfl,⟨rfl,om ((0:Int)≤6),om (6≤(1000000000:Int))⟩,⟨rfl,rfl,rfl,rfl,rfl,rfl⟩,ww3,q,yy q ?_⟩
    refine⟨by kernel_rfl,⟨rfl,om ((0:Int)≤6),om (6≤(1000000000:Int))⟩,⟨rfl,rfl,rfl,rfl,rfl,rfl⟩,ww3,q,nn q ?_⟩
    refine .inr (yy q ?_)
    refine .inr (yy q ?_)
    refine⟨(f 1 q),(c 0 q),q,q,ww,q,q,ww,(f 1 q),q,yy q ?_⟩
    refine⟨(f 2 q),(c 1 q),q,q,ww,q,q,ww,(f 2 q),q,yy q ?_⟩
    refine⟨(f 3 q),(c 2 q),q,q,ww,q,q,ww,(f 3 q),q,yy q ?_⟩
    refine⟨(f 4 q),(c 3 q),q,q,ww,q,q,ww,(f 4 q),q,yy q ?_⟩
    refine⟨(f 5 q),(c 4 q),q,q,ww,q,q,ww,(f 5 q),q,yy q ?_⟩
    refine⟨(f 6 q),(c 5 q),q,q,ww,q,q,ww,(f 6 q),q,nn q ?_⟩
    refine⟨q,yy q ?_⟩
    refine .inr (yy q ?_)
    refine⟨(f 7 q),(c 6 q),q,q,ww,q,q,ww,(f 7 q),q,yy q ?_⟩
    refine⟨(f 8 q),(c 7 q),q,q,ww,q,q,ww,(f 8 q),q,yy q ?_⟩
    refine⟨(f 9 q),(c 8 q),q,q,ww,q,q,ww,(f 9 q),q,yy q ?_⟩
    refine⟨(f 10 q),(c 9 q),q,q,ww,q,q,ww,(f 10 q),q,yy q ?_⟩
    refine⟨(f 11 q),(c 10 q),q,q,ww,q,q,ww,(f 11 q),q,nn q ?_⟩
    refine⟨q,yy q ?_⟩
    refine .inr (yy q ?_)
    refine⟨(f 12 q),(c 11 q),q,q,ww,q,q,ww,(f 12 q),q,yy q ?_⟩
    refine⟨(f 13 q),(c 12 q),q,q,ww,q,q,ww,(f 13 q),q,yy q ?_⟩
    refine⟨(f 14 q),(c 13 q),q,q,ww,q,q,ww,(f 14 q),q,yy q ?_⟩
    refine⟨(f 15 q),(c 14 q),q,q,ww,q,q,ww,(f 15 q),q,nn q ?_⟩
    refine⟨q,yy q ?_⟩
    refine .inr (yy q ?_)
    refine⟨(f 16 q),(c 15 q),q,q,ww,q,q,ww,(f 16 q),q,yy q ?_⟩
    refine⟨(f 17 q),(c 16 q),q,q,ww,q,q,ww,(f 17 q),q,yy q ?_⟩
    refine⟨(f 18 q),(c 17 q),q,q,ww,q,q,ww,(f 18 q),q,nn q ?_⟩
    refine⟨q,yy q ?_⟩
    refine .inr (yy q ?_)
    refine⟨(f 19 q),(c 18 q),q,q,ww,q,q,ww,(f 19 q),q,yy q ?_⟩
    refine⟨(f 20 q),(c 19 q),q,q,ww,q,q,ww,(f 20 q),q,nn q ?_⟩
    refine⟨q,yy q ?_⟩
    refine .inr (yy q ?_)
    refine⟨(f 21 q),(c 20 q),q,q,ww,q,q,ww,(f 21 q),q,nn q ?_⟩
    refine⟨q,nn q ?_⟩
    refine⟨w4',?_⟩
    exact kr4 (v:= .agg [.int .i64 7,.sl true (.sl .str) (mkR 6 sz nz),.int .i64 0]) (by kernel_rfl)
 ·omega
def sRk:List V→Option (Prop×V×List Blk)
 |[.int .i64 nd,.int .i64 sz,.str nz]=>some (nd≤7,.agg [.int .i64 (mkN nd sz nz),.sl true (.sl .str) (mkC nd sz nz),.int .i64 (mkE nd sz nz)], [])
 |_=>none
theorem bRk (nd sz:Int) (nz:List UInt8) (hp0:nd≤7):bodyP (En CMk tys G6 [] [1000000,1000001]) Tryd.f37 [.k,.n .str,.k] [.int .i64 nd,.int .i64 sz,.str nz] (.agg [.int .i64 (mkN nd sz nz),.sl true (.sl .str) (mkC nd sz nz),.int .i64 (mkE nd sz nz)]) []:=by
 by_cases hn:nd<2∨12<nd∨sz<0∨4096<sz
 ·obtain⟨e1,e2,e3⟩:=mkE3 (s:=nz) hn
  rw [e1,e2,e3];exact bRk0 nd sz nz hn
 ·by_cases hl:(nz.length:Int)=sz*(((nd-1)*nd)/2)
  ·obtain⟨e1,e2,e3⟩:=mkE0 hn hl
   rw [e1,e2,e3,←mkR_eq (by omega)]
   obtain rfl|rfl|rfl|rfl|rfl|rfl:nd=2∨nd=3∨nd=4∨nd=5∨nd=6∨nd=7:=by omega
   ·exact bRk2 sz nz (by omega) (by omega) (by omega)
   ·exact bRk3 sz nz (by omega) (by omega) (by omega)
   ·exact bRk4 sz nz (by omega) (by omega) (by omega)
   ·exact bRk5 sz nz (by omega) (by omega) (by omega)
   ·exact bRk6 sz nz (by omega) (by omega) (by omega)
   ·exact bRk7 sz nz (by omega) (by omega) (by omega)
  ·obtain⟨e1,e2,e3⟩:=mkE1 hn hl
   rw [e1,e2,e3]
   obtain⟨p1,p2,p3⟩:=prod_bd (nd:=nd) (sz:=sz) (by omega) (by omega) (by omega) (by omega)
   exact bRkN nd sz nz (by omega) (by omega) (by omega) (by omega) p1 p2 (by rw [p3];exact hl)
def CRk:List (Nat×Con):=(37,pureC [.v (.int .i64),.v (.int .i64),.v .str] sRk)::CMk
theorem kRk:Known Tryd.prog (En CRk tys G6 []):=Known.frz0<|(kMk.frz [1000000,1000001]).add Tryd.func37 Tryd.call37 [.k,.n .str,.k] fun ds p v bs h hp=>by
 unfold sRk at h
 split at h<;>simp only [Option.some.injEq,Prod.mk.injEq,reduceCtorEq] at h
 obtain⟨rfl,rfl,rfl⟩:=h
 exact bRk _ _ _ hp
def shP (r:Rw) (n:Int):Prop:=r.length≤20∧r.all (fun s=>decide ((s.length:Int)≤n))=true
instance (r:Rw) (n:Int):Decidable (shP r n):=by unfold shP;infer_instance
def fewP (rows:List Rw) (n:Int):Prop:=rows.length≤14∧rows.all (fun r=>decide (shP r n))=true
instance (r:List Rw) (n:Int):Decidable (fewP r n):=by unfold fewP;infer_instance
def lightP (nd:Int) (cf:List Rw):Prop:=fewP cf 30∧chkD nd cf=0
instance (nd:Int) (r:List Rw):Decidable (lightP nd r):=by unfold lightP;infer_instance
def bitP (s:Int) (h:Nat):Prop:=s/2^h%2=1
instance (s:Int) (h:Nat):Decidable (bitP s h):=by unfold bitP;infer_instance
abbrev Shr:=Int×List UInt8×Unit
abbrev Dl:=Int×List Rw×Unit
def shB (l:List (List UInt8)) (h:Nat):List UInt8:=l.map fun p=>horner (pt (h:Int)) p
theorem mapT_len {α β:Type} (f:α→β) (l:List α) (k:Nat) (h:k≤l.length):((l.take k).map f).length=k:=by rw [List.length_map,List.length_take];omega

structure RnOk (N:Nat) (l:List Shr) (ds:List Dl):Prop where
 n:N≤4096
 len:l.length≤12
 dlen:ds.length≤1000
 sh:∀h,h<l.length→(l.getD h (0, [],())).1=(h:Int)∧(l.getD h (0, [],())).2.1.length=N
 dl:∀d∈ds,chkD d.1 d.2.1=0∧n00 d.2.1=N
def xsL (l:List Shr):List UInt8:=l.map fun s=>pt s.1
def ysL (l:List Shr) (k:Nat):List UInt8:=l.map fun s=>s.2.1.getD k 0
def sN (l:List Shr):Nat:=(l.getD 0 (0, [],())).2.1.length
structure SecOk (l:List Shr) (nd:Int):Prop where
 nd1:1≤nd
 nd2:nd≤(l.length:Int)
 len:l.length≤1000
 max:sN l≤1048576
 hs:∀s∈l,knw s.1
 same:∀s∈l,s.2.1.length=sN l
 thr:∀k,k<sN l→(tpL (xsL l) (ysL l k) (nd-1)).2=0
def xs' (f:Nat→UInt8):Nat→UInt8
 |0=>0
 |n+1=>xs' f n^^^f n
def colL (l:Rw) (k:Nat):List UInt8:=l.map fun s=>s.getD k 0
theorem scale_get {c:UInt8} {s:List UInt8} {k:Nat} (h:k<s.length):(scaleB c s).getD k 0=mulL c (s.getD k 0):=by
 simp [scaleB,scaleF,List.getD_eq_getElem?_getD,h]
theorem sum_get {a b:List UInt8} {k:Nat} (hl:a.length=b.length) (h:k<a.length):(sumB a b).getD k 0=a.getD k 0^^^b.getD k 0:=by
 unfold sumB
 rw [if_neg (by omega)]
 simp [sumF,sumG,List.getD_eq_getElem?_getD,h,hl▸h]
theorem ext_get {a b:List UInt8} {N:Nat} (ha:a.length=N) (hb:b.length=N) (h:∀k,k<N→a.getD k 0=b.getD k 0):a=b:=by
 apply List.ext_getElem (by omega)
 intro i h1 h2
 have:=h i (by omega)
 simpa [List.getD_eq_getElem?_getD,h1,h2] using this
theorem at_len {x:UInt8} {N:Nat}:∀(l:Rw),1≤l.length→(∀s∈l,s.length=N)→(atL l x).length=N
 |[],h,_=>by simp at h
 |[s],_,h=>h s (by simp)
 |s::t::r,_,h=>by
  rw [atL,sum_len,scale_len,at_len (t::r) (by simp) fun y hy=>h y (by simp [hy]),h s (by simp)]
  omega
theorem at_get {x:UInt8} {N k:Nat} (hk:k<N):∀(l:Rw),1≤l.length→(∀s∈l,s.length=N)→(atL l x).getD k 0=horner x (colL l k)
 |[],h,_=>by simp at h
 |[s],_,h=>by
  show s.getD k 0=mulL 0 x^^^s.getD k 0
  rw [zero_mul'];simp
 |s::t::r,_,h=>by
  have hl:=at_len (x:=x) (t::r) (by simp) fun y hy=>h y (by simp [hy])
  have hs:=h s (by simp)
  rw [atL,sum_get (by rw [scale_len];omega) (by rw [scale_len];omega),scale_get (by omega),at_get hk (t::r) (by simp) fun y hy=>h y (by simp [hy]),mul_comm']
  rfl

def atK (l:Rw) (x:UInt8) (k:Nat):List UInt8:=(List.range k).map fun j=>horner x (colL l j)
theorem atK_len (l:Rw) (x:UInt8) (k:Nat):(atK l x k).length=k:=by simp [atK]
theorem atK_snoc {l:Rw} {x:UInt8} {k:Nat} {y:UInt8} (h:y=horner x (colL l k)):atK l x (k+1)=atK l x k++ [y]:=by unfold atK;rw [List.range_succ,List.map_append,h];rfl
theorem atK_all {l:Rw} {x:UInt8} (h1:1≤l.length) (h:∀s∈l,s.length=n0 l):atK l x (n0 l)=atL l x:=by
 refine ext_get (atK_len _ _ _) (at_len l h1 h) fun k hk=> ?_
 rw [at_get hk l h1 h]
 simp [atK,List.getD_eq_getElem?_getD,hk]
theorem col_snoc (l:Rw) (k i:Nat) (hi:i<l.length):colL (l.take (i+1)) k=colL (l.take i) k++ [(l.getD i []).getD k 0]:=map_take_snoc [] _ l i hi
def sumK (a b:List UInt8) (k:Nat):List UInt8:=(List.range k).map fun i=>co a i^^^co b i
theorem sumK_len (a b:List UInt8) (k:Nat):(sumK a b k).length=k:=by simp [sumK]
theorem sumK_snoc (a b:List UInt8) (k:Nat):sumK a b (k+1)=sumK a b k++ [co a k^^^co b k]:=by unfold sumK;rw [List.range_succ,List.map_append];rfl
theorem sumK_all (a b:List UInt8):sumK a b (max a.length b.length)=sumB a b:=by
 refine ext_get (sumK_len _ _ _) (sum_len a b) fun k hk=> ?_
 have e:(sumK a b (max a.length b.length)).getD k 0=co a k^^^co b k:=by simp [sumK,List.getD_eq_getElem?_getD,hk]
 have key:∀(a b:List UInt8),k<a.length→(sumF a b).getD k 0=co a k^^^co b k:=fun a b h=>by
  have e:(sumF a b).getD k 0=sumG a b k:=by simp [sumF,List.getD_eq_getElem?_getD,h]
  rw [e]
  unfold sumG
  split
  ·rfl
  ·rw [co_ge b k (by omega)];show a.getD k 0=a.getD k 0^^^0;simp
 rw [e]
 unfold sumB
 split
 ·rw [key b a (by omega),UInt8.xor_comm]
 ·rw [key a b (by omega)]
def sclK (c:UInt8) (s:List UInt8) (k:Nat):List UInt8:=(List.range k).map (scaleF c s)
theorem sclK_len (c:UInt8) (s:List UInt8) (k:Nat):(sclK c s k).length=k:=by simp [sclK]
theorem sclK_snoc (c:UInt8) (s:List UInt8) (k:Nat):sclK c s (k+1)=sclK c s k++ [mulL c (s.getD k 0)]:=by unfold sclK;rw [List.range_succ,List.map_append];rfl
def sR4a:List V→Option (Prop×V×List Blk)
 |[.str s,.int .i64 k]=>some (0≤k,.u8 (co s k.toNat), [])
 |_=>none
theorem bR4a (s:List UInt8) (k:Int):bodyQ (En CRk tys G6 []) Tryd.f107 [.k] sR4a [.str s,.int .i64 k]:=by
 intro hp0
 refine yn (k<(s.length:Int)) (fun h0=> ?_) fun h0=> ?_
 ·refine⟨ix k s.length,?_⟩
  exact d4'
 ·rw [co_ge s k.toNat (by omega)]
  exact d4'
def CR4a:List (Nat×Con):=(107,pureC [.v .str,.v (.int .i64)] sR4a)::CRk
theorem kR4a:Known Tryd.prog (En CR4a tys G6 []):=kRk.addQ Tryd.func107 Tryd.call107 [.k] fun ds _ _ _ h=>by unfold sR4a at h;split at h;exact bR4a _ _;cases h
def sR4s:List V→Option (Prop×V×List Blk)
 |[.str a,.str b]=>some (a.length≤1000000000∧b.length≤1000000000,.str (sumB a b), [])
 |_=>none
theorem bR4s (a b:List UInt8):bodyQ (En CR4a tys G6 []) Tryd.f82 [.k] sR4s [.str a,.str b]:=by
 rintro⟨hp0,hp1⟩
 refine⟨0, [(0,.k),(1,.k),(5,.o .u8),(6,.k)],fun nM vs H=>∃(k:Nat),k≤max a.length b.length∧nM=max a.length b.length-k∧vs= [.str a,.str b,.own .u8 0,.i k]∧H= [.r .u8 (sumK a b k)],⟨rfl,max a.length b.length,0,by omega,by omega,rfl,rfl⟩,?_⟩
 rintro nM vs H ⟨k,hc1_0,rfl,rfl,rfl⟩
 have hsl:=sumK_len a b k
 refine yn ((k:Int)<(max (a.length:Int) (b.length:Int))) (fun h0=> ?_) fun h0=> ?_
 ·refine⟨rfl,om (0≤(k:Int)),rfl,om (0≤(k:Int)),w2',l9 (sumK a b k).length,r64 (k+1),?_⟩
  exact⟨rfl,max a.length b.length-(k+1),by omega,k+1,by omega,rfl,rfl,by rw [sumK_snoc];rfl⟩
 ·rw [show sumB a b=sumK a b k by rw [←sumK_all];congr 1;omega]
  exact d4'
def CR4s:List (Nat×Con):=(82,pureC [.v .str,.v .str] sR4s)::CR4a
theorem kR4s:Known Tryd.prog (En CR4s tys G6 []):=kR4a.addQ Tryd.func82 Tryd.call82 [.k] fun ds _ _ _ h=>by unfold sR4s at h;split at h;exact bR4s _ _;cases h
def sR4c:List V→Option (Prop×V×List Blk)
 |[.u8 c,.str s]=>some (s.length≤1000000000,.str (scaleB c s), [])
 |_=>none
theorem bR4c (c:UInt8) (s:List UInt8):bodyQ (En CR4s tys G6 []) Tryd.f83 [.k] sR4c [.u8 c,.str s]:=by
 intro hp0
 refine⟨0, [(0,.k),(1,.k),(5,.o .u8),(6,.k)],fun nM vs H=>∃(k:Nat),k≤s.length∧nM=s.length-k∧vs= [.u8 c,.str s,.own .u8 0,.i k]∧H= [.r .u8 (sclK c s k)],⟨rfl,s.length,0,by omega,by omega,rfl,rfl⟩,?_⟩
 rintro nM vs H ⟨k,hc1_0,rfl,rfl,rfl⟩
 have hsl:=sclK_len c s k
 refine yn ((k:Int)<(s.length:Int)) (fun h0=> ?_) fun h0=> ?_
 ·refine⟨ix k s.length,trivial,w2',l9 (sclK c s k).length,r64 (k+1),?_⟩
  exact⟨rfl,s.length-(k+1),by omega,k+1,by omega,rfl,rfl,by rw [sclK_snoc];rfl⟩
 ·rw [show scaleB c s=sclK c s k by rw [show k=s.length by omega];rfl]
  exact d4'
def CR4c:List (Nat×Con):=(83,pureC [.v .u8,.v .str] sR4c)::CR4s
theorem kR4c:Known Tryd.prog (En CR4c tys G6 []):=kR4s.addQ Tryd.func83 Tryd.call83 [.k] fun ds _ _ _ h=>by unfold sR4c at h;split at h;exact bR4c _ _;cases h
def sRIn:List V→Option (Prop×V×List Blk)
 |[.int .i64 h]=>some (True,.b (knw h), [])
 |_=>none
theorem bRIn (h:Int):bodyQ (En CR4c tys G6 []) Tryd.f70 [.k] sRIn [.int .i64 h]:=by
 intro _
 refine yn (0≤h) (fun h0=> ?_) fun h0=> ?_
 ·exact⟨rfl,rfl,congrArg V.b (propext (by unfold knw;constructor<;>intro g<;>first|omega|exact Bool.noConfusion g|(exfalso;omega))),rfl⟩
 ·exact⟨rfl,rfl,congrArg V.b (propext (by unfold knw;constructor<;>intro g<;>first|omega|exact Bool.noConfusion g|(exfalso;omega))),rfl⟩
def CRIn:List (Nat×Con):=(70,pureC [.v (.int .i64)] sRIn)::CR4c
theorem kRIn:Known Tryd.prog (En CRIn tys G6 []):=kR4c.addQ Tryd.func70 Tryd.call70 [.k] fun ds _ _ _ h=>by unfold sRIn at h;split at h;exact bRIn _;cases h
def sRAt:List V→Option (Prop×V×List Blk)
 |[.sl false .str l,.u8 x]=>some (1≤l.length∧l.length≤1000000∧(∀x∈l,x.length=n0 l)∧n0 l≤1048576,.str (atL l x), [])
 |_=>none
theorem bRAt (l:List (List UInt8)) (x:UInt8):bodyQ (En CRIn tys G6 []) Tryd.f71 [.k] sRAt [.sl false .str l,.u8 x]:=by
 rintro⟨hp0,hp1,(hp2:(∀x∈l,x.length=n0 l)),hp3⟩
 refine⟨0, [(0,.k),(1,.k),(5,.o .u8),(6,.k)],fun nM vs H=>∃(k:Nat),k≤n0 l∧nM=n0 l-k∧vs= [.sl false .str l,.u8 x,.own .u8 0,.i k]∧H= [.r .u8 (atK l x k)],⟨rfl,n0 l,0,by omega,by omega,rfl,rfl⟩,?_⟩
 rintro nM vs H ⟨k,hc1_0,rfl,rfl,rfl⟩
 have hsl:=atK_len l x k
 have hn0:(l.getD 0 []).length=n0 l:=rfl
 refine⟨ix 0 l.length,yn ((k:Int)<(((l.getD 0 []).length:Nat):Int)) (fun h0=> ?_) fun h0=> ?_⟩
 ·refine⟨0, [(0,.k),(1,.k),(5,.o .u8),(6,.k),(7,.o .u8),(8,.k)],fun nM vs H=>∃(i:Nat),i≤l.length∧nM=l.length-i∧vs= [.sl false .str l,.u8 x,.own .u8 0,.i k,.own .u8 1,.i i]∧H= [.r .u8 (atK l x k),.r .u8 (colL (l.take i) k)],⟨rfl,l.length,0,by omega,by omega,rfl,rfl⟩,?_⟩
  rintro nM vs H ⟨i,hc2_0,rfl,rfl,rfl⟩
  have hcl:(colL (l.take i) k).length=i:=mapT_len _ l i (by omega)
  refine yn ((i:Int)<(l.length:Int)) (fun h1=> ?_) fun h1=> ?_
  ·have hi:i<l.length:=by omega
   have hli:=hp2 _ (getD_mem [] l i hi)
   refine⟨ix i l.length,ix k (l.getD i []).length,w2',l9 (colL (l.take i) k).length,r64 (i+1),?_⟩
   exact⟨rfl,l.length-(i+1),by omega,i+1,by omega,rfl,rfl,by rw [col_snoc l k i hi];rfl⟩
  ·have hir:l.take i=l:=List.take_of_length_le (by omega)
   refine⟨os ((colL (l.take i) k).length≤1000000),w2',l9 (atK l x k).length,r64 (k+1),?_⟩
   exact⟨rfl,n0 l-(k+1),by omega,k+1,by omega,rfl,rfl,by rw [atK_snoc (show horner x (colL (l.take i) k)=_ by rw [hir])];rfl⟩
 ·rw [←atK_all hp0 hp2,show n0 l=k by omega]
  exact d4'
def CRAt:List (Nat×Con):=(71,pureC [.v (.sl .str),.v .u8] sRAt)::CRIn
theorem kRAt:Known Tryd.prog (En CRAt tys G6 []):=kRIn.addQ Tryd.func71 Tryd.call71 [.k] fun ds _ _ _ h=>by unfold sRAt at h;split at h;exact bRAt _ _;cases h
def sRRgt:List V→Option (Prop×V×List Blk)
 |[.sl false .str r]=>some (r.length≤1048576,.b (rightB r=true), [])
 |_=>none
theorem bRRgt (r:List (List UInt8)):bodyQ (En CRAt tys G6 []) Tryd.f75 [.k] sRRgt [.sl false .str r]:=by
 intro hp0
 refine ny ((r.length:Int)<1) (fun h0=> ?_) fun h0=> ?_
 ·refine yn (11<(r.length:Int)) (fun h1=> ?_) fun h1=> ?_
  ·rw [right_no1 (r:=r) (.inr (by omega))]
   exact d4'
  ·have hall:=right_all (r:=r) (by omega) (by omega)
   refine⟨0, [(0,.k),(3,.k)],fun nM vs H=>∃(k:Nat),k≤r.length∧(r.drop k).all (fun s=>decide (s.length=n0 r)&&decide (s.length≤4096))=r.all (fun s=>decide (s.length=n0 r)&&decide (s.length≤4096))∧nM=r.length-k∧vs= [.sl false .str r,.i k]∧H= [],⟨rfl,r.length,0,by omega,rfl,by omega,rfl,rfl⟩,?_⟩
   rintro nM vs H ⟨k,hc1_0,hc1_1,rfl,rfl,rfl⟩
   refine yn ((k:Int)<(r.length:Int)) (fun h2=> ?_) fun h2=> ?_
   ·have hk:k<r.length:=by omega
    refine⟨by kernel_rfl,ix k r.length,ix 0 r.length,ny ((((r.getD k []).length:Nat):Int)≠(((r.getD 0 []).length:Nat):Int)) (fun h3=> ?_) fun h3=> ?_⟩
    ·refine⟨fun h4=> ?_,cn ((((r.getD k []).length:Nat):Int)≠(((r.getD 0 []).length:Nat):Int))⟩
     refine⟨fun h5=> ?_,cn ((((r.getD k []).length:Nat):Int)≠(((r.getD 0 []).length:Nat):Int))⟩
     refine⟨ix k r.length,fun h6=> ?_,cn ((((r.getD k []).length:Nat):Int)≠(((r.getD 0 []).length:Nat):Int))⟩
     refine⟨fun h7=> ?_,cn ((((r.getD k []).length:Nat):Int)≠(((r.getD 0 []).length:Nat):Int))⟩
     refine⟨fun h8=> ?_,cn ((((r.getD k []).length:Nat):Int)≠(((r.getD 0 []).length:Nat):Int))⟩
     refine⟨cn ((((r.getD k []).length:Nat):Int)≠(((r.getD 0 []).length:Nat):Int)),fun h9=> ?_⟩
     refine yn (4096<(((r.getD k []).length:Nat):Int)) (fun h10=> ?_) fun h10=> ?_
     ·have e:rightB r=false:=by rw [hall];exact all_bad (d:= []) hk hc1_1 (by show(decide ((r.getD k []).length=n0 r)&&decide ((r.getD k []).length≤4096))=false;rw [decide_eq_false (by omega:¬(r.getD k []).length≤4096),Bool.and_false])
      rw [e]
      exact d4'
     ·refine⟨r64 (k+1),?_⟩
      have hok:(decide ((r.getD k []).length=n0 r)&&decide ((r.getD k []).length≤4096))=true:=by rw [decide_eq_true (by unfold n0;omega:(r.getD k []).length=n0 r),decide_eq_true (by omega:(r.getD k []).length≤4096)];rfl
      exact⟨rfl,r.length-(k+1),by omega,k+1,by omega,all_next (d:= []) hk hc1_1 hok,rfl,rfl,rfl⟩
    ·refine⟨cp ((((r.getD k []).length:Nat):Int)≠(((r.getD 0 []).length:Nat):Int)),fun h11=> ?_⟩
     refine⟨cp ((((r.getD k []).length:Nat):Int)≠(((r.getD 0 []).length:Nat):Int)),fun h12=> ?_⟩
     refine⟨cp ((((r.getD k []).length:Nat):Int)≠(((r.getD 0 []).length:Nat):Int)),fun h13=> ?_⟩
     refine⟨cp ((((r.getD k []).length:Nat):Int)≠(((r.getD 0 []).length:Nat):Int)),fun h14=> ?_⟩
     refine⟨cp ((((r.getD k []).length:Nat):Int)≠(((r.getD 0 []).length:Nat):Int)),fun h15=> ?_⟩
     refine⟨fun h16=> ?_,cp ((((r.getD k []).length:Nat):Int)≠(((r.getD 0 []).length:Nat):Int))⟩
     have e:rightB r=false:=by rw [hall];exact all_bad (d:= []) hk hc1_1 (by show(decide ((r.getD k []).length=n0 r)&&decide ((r.getD k []).length≤4096))=false;rw [decide_eq_false (by unfold n0;omega:¬(r.getD k []).length=n0 r),Bool.false_and])
     rw [e]
     exact d4'
   ·have e:rightB r=true:=by rw [hall];exact all_stop (by omega) hc1_1
    rw [e]
    exact d4'
 ·rw [right_no1 (r:=r) (.inl (by omega))]
  exact d4'
def CRRgt:List (Nat×Con):=(75,pureC [.v (.sl .str)] sRRgt)::CRAt
theorem kRRgt:Known Tryd.prog (En CRRgt tys G6 []):=kRAt.addQ Tryd.func75 Tryd.call75 [.k] fun ds _ _ _ h=>by unfold sRRgt at h;split at h;exact bRRgt _;cases h
def sRVal:List V→Option (Prop×V×List Blk)
 |[.sl false .str r,.int .i64 h]=>some (r.length≤1048576,.agg [.str (valS r h),.int .i64 (valE r h)], [])
 |_=>none
theorem bRVal (r:List (List UInt8)) (h:Int):bodyQ (En CRRgt tys G6 []) Tryd.f45 [.k,.k] sRVal [.sl false .str r,.int .i64 h]:=by
 intro hp0
 refine⟨om (r.length≤1048576),yn (¬(rightB r=true)) (fun h0=> ?_) fun h0=> ?_⟩
 ·refine⟨w4',?_⟩
  have e:valE r h=1:=if_neg h0
  rw [valS,if_neg (by rw [e];decide),e]
  exact d4'
 ·have hr:=nw h0
  obtain⟨r1,r2,r3,r4⟩:=right_ok hr
  refine⟨rfl,trivial,yn (¬(knw h)) (fun h1=> ?_) fun h1=> ?_⟩
  ·refine⟨w4',?_⟩
   have e:valE r h=8:=by unfold valE;rw [if_pos hr,if_neg h1]
   rw [valS,if_neg (by rw [e];decide),e]
   exact d4'
  ·have hk:=nw h1
   obtain⟨k1,k2⟩:=id hk
   refine⟨r64 (h+1),⟨om (1≤r.length),om (r.length≤1000000),r3,Nat.le_trans r4 (by omega)⟩,w4',?_⟩
   have e:valE r h=0:=by unfold valE;rw [if_pos hr,if_pos hk]
   rw [valS,if_pos e,e]
   exact d4'
def CRVal:List (Nat×Con):=(45,pureC [.v (.sl .str),.v (.int .i64)] sRVal)::CRRgt
theorem kRVal:Known Tryd.prog (En CRVal tys G6 []):=kRRgt.addQ Tryd.func45 Tryd.call45 [.k,.k] fun ds _ _ _ h=>by unfold sRVal at h;split at h;exact bRVal _ _;cases h
def sRUpd:List V→Option (Prop×V×List Blk)
 |[.agg [.int .i64 h,.str bs],.sl false (.sl .str) rs]=>some (rs.length≤1048576∧(∀l∈rs,l.length≤1048576),.agg [.int .i64 (updH h bs rs),.str (updS h bs rs),.int .i64 (updE h bs rs)], [])
 |_=>none
theorem bRUpd (h:Int) (bs:List UInt8) (rs:List (List (List UInt8))):bodyQ (En CRVal tys G6 []) Tryd.f51 [.k,.k,.k] sRUpd [.agg [.int .i64 h,.str bs],.sl false (.sl .str) rs]:=by
 rintro⟨hp0,(hp1:(∀l∈rs,l.length≤1048576))⟩
 refine⟨rfl,trivial,yn (¬(knw h)) (fun h0=> ?_) fun h0=> ?_⟩
 ·refine⟨w4',?_⟩
  have e:updE h bs rs=8:=by unfold updE;rw [if_neg h0]
  rw [updH,updS,if_neg (by rw [e];decide),if_neg (by rw [e];decide),e]
  exact d4'
 ·have hk:=nw h0
  obtain⟨k1,k2⟩:=id hk
  refine yn (4096<(bs.length:Int)) (fun h1=> ?_) fun h1=> ?_
  ·refine⟨w4',?_⟩
   have e:updE h bs rs=2:=by unfold updE;rw [if_pos hk,if_neg (by omega)]
   rw [updH,updS,if_neg (by rw [e];decide),if_neg (by rw [e];decide),e]
   exact d4'
  ·refine⟨2, [(1,.k),(2,.k),(4,.k),(6,.k)],fun nM vs H=>∃(k:Nat),k≤rs.length∧(rs.drop k).all (updOk bs)=rs.all (updOk bs)∧nM=rs.length-k∧vs= [.sl false (.sl .str) rs,.p 0,.p 1,.i k]∧H= [.cells [.i h,.str bs],.cells [.i 0,.str ([]),.i 0]],⟨rfl,rs.length,0,by omega,rfl,by omega,rfl,rfl⟩,?_⟩
   rintro nM vs H ⟨k,hc1_0,hc1_1,rfl,rfl,rfl⟩
   refine yn ((k:Int)<(rs.length:Int)) (fun h2=> ?_) fun h2=> ?_
   ·have hkl:k<rs.length:=by omega
    have hrl:=hp1 _ (getD_mem [] rs k hkl)
    refine⟨ix k rs.length,hrl,by kernel_rfl,ny (¬(rightB (rs.getD k [])=true)) (fun h3=> ?_) fun h3=> ?_⟩
    ·have hr:=nw h3
     obtain⟨r1,r2,r3,r4⟩:=right_ok hr
     refine⟨fun h4=> ?_,cn (¬(rightB (rs.getD k [])=true))⟩
     refine⟨fun h5=> ?_,cn (¬(rightB (rs.getD k [])=true))⟩
     refine⟨ix k rs.length,fun h6=> ?_,cn (¬(rightB (rs.getD k [])=true))⟩
     refine⟨fun h7=> ?_,cn (¬(rightB (rs.getD k [])=true))⟩
     refine⟨ix 0 (rs.getD k []).length,fun h8=> ?_,cn (¬(rightB (rs.getD k [])=true))⟩
     refine⟨fun h9=> ?_,cn (¬(rightB (rs.getD k [])=true))⟩
     refine⟨fun h10=> ?_,cn (¬(rightB (rs.getD k [])=true))⟩
     refine⟨fun h11=> ?_,cn (¬(rightB (rs.getD k [])=true))⟩
     refine⟨fun h12=> ?_,cn (¬(rightB (rs.getD k [])=true))⟩
     refine⟨fun h13=> ?_,cn (¬(rightB (rs.getD k [])=true))⟩
     refine⟨cn (¬(rightB (rs.getD k [])=true)),fun h14=> ?_⟩
     refine yn (((((rs.getD k []).getD 0 []).length:Nat):Int)≠(bs.length:Int)) (fun h15=> ?_) fun h15=> ?_
     ·refine⟨w4',?_⟩
      have hf:rs.all (updOk bs)=false:=all_bad (d:= []) hkl hc1_1 (updOk_bad2 (by unfold n0;omega))
      have e:updE h bs rs=1:=by unfold updE;rw [if_pos hk,if_pos (by omega),if_neg (by rw [hf];decide)]
      rw [updH,updS,if_neg (by rw [e];decide),if_neg (by rw [e];decide),e]
      exact d4'
     ·refine⟨r64 (k+1),?_⟩
      have hok:=updOk_yes (b:=bs) hr (by unfold n0;omega)
      exact⟨rfl,rs.length-(k+1),by omega,k+1,by omega,all_next (d:= []) hkl hc1_1 hok,rfl,rfl,rfl⟩
    ·refine⟨cp (¬(rightB (rs.getD k [])=true)),fun h16=> ?_⟩
     refine⟨cp (¬(rightB (rs.getD k [])=true)),fun h17=> ?_⟩
     refine⟨cp (¬(rightB (rs.getD k [])=true)),fun h18=> ?_⟩
     refine⟨cp (¬(rightB (rs.getD k [])=true)),fun h19=> ?_⟩
     refine⟨cp (¬(rightB (rs.getD k [])=true)),fun h20=> ?_⟩
     refine⟨cp (¬(rightB (rs.getD k [])=true)),fun h21=> ?_⟩
     refine⟨cp (¬(rightB (rs.getD k [])=true)),fun h22=> ?_⟩
     refine⟨cp (¬(rightB (rs.getD k [])=true)),fun h23=> ?_⟩
     refine⟨cp (¬(rightB (rs.getD k [])=true)),fun h24=> ?_⟩
     refine⟨cp (¬(rightB (rs.getD k [])=true)),fun h25=> ?_⟩
     refine⟨fun h26=> ?_,cp (¬(rightB (rs.getD k [])=true))⟩
     refine⟨w4',?_⟩
     have hf:rs.all (updOk bs)=false:=all_bad (d:= []) hkl hc1_1 (updOk_bad1 h3)
     have e:updE h bs rs=1:=by unfold updE;rw [if_pos hk,if_pos (by omega),if_neg (by rw [hf];decide)]
     rw [updH,updS,if_neg (by rw [e];decide),if_neg (by rw [e];decide),e]
     exact d4'
   ·have hall:rs.all (updOk bs)=true:=all_stop (by omega) hc1_1
    have hev:=List.all_eq_true.1 hall
    refine⟨2, [(1,.k),(2,.k),(4,.k),(8,.k)],fun nM vs H=>∃(k:Nat),k≤rs.length∧nM=rs.length-k∧vs= [.sl false (.sl .str) rs,.p 0,.p 1,.i k]∧H= [.cells [.i h,.str (updB h bs (rs.take k))],.cells [.i 0,.str ([]),.i 0]],⟨rfl,rs.length,0,by omega,by omega,rfl,rfl⟩,?_⟩
    rintro nM vs H ⟨k,hc2_0,rfl,rfl,rfl⟩
    refine yn ((k:Int)<(rs.length:Int)) (fun h27=> ?_) fun h27=> ?_
    ·have hkm:k<rs.length:=by omega
     obtain⟨hr,hn⟩:=updOk_no (hev _ (getD_mem [] rs k hkm))
     obtain⟨r1,r2,r3,r4⟩:=right_ok hr
     have hl1:=upd_len (h:=h) (b:=bs) (rs.take k) bs rfl (fun x hx=>hev x (List.mem_of_mem_take hx))
     replace hn:((rs.getD k []).getD 0 []).length=bs.length:=hn
     refine⟨by kernel_rfl,r64 (h+1),ix k rs.length,ix 0 (rs.getD k []).length,os (((rs.getD k []).getD 0 []).length≤1000000000),⟨os ((updB h bs (rs.take k)).length≤1000000000),by show(scaleB (UInt8.ofNat ((h+1)%256).toNat) ((rs.getD k []).getD 0 [])).length≤1000000000;rw [scale_len];omega⟩,w3',r64 (k+1),?_⟩
     exact⟨rfl,rs.length-(k+1),by omega,k+1,by omega,rfl,rfl,by rw [upd_snoc hkm];rfl⟩
    ·refine⟨w4',?_⟩
     have e:updE h bs rs=0:=by unfold updE;rw [if_pos hk,if_pos (by omega),if_pos hall]
     rw [updH,updS,if_pos e,if_pos e,e,show updB h bs rs=updB h bs (rs.take k) by rw [List.take_of_length_le (by omega)]]
     exact d4'
def CRUpd:List (Nat×Con):=(51,pureC [.v (.cons (.int .i64) (.cons .str .nil)),.v (.sl (.sl .str))] sRUpd)::CRVal
theorem kRUpd:Known Tryd.prog (En CRUpd tys G6 []):=kRVal.addQ Tryd.func51 Tryd.call51 [.k,.k,.k] fun ds _ _ _ h=>by unfold sRUpd at h;split at h;exact bRUpd _ _ _;cases h
end Go.Proofs.YtlmegkgkipjgbaaDoor.S33
