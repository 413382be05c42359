/- Texts of this claim. -/
import Derived.Test.YtogipicegdbhdaaDoorS7
set_option linter.unusedVariables false
set_option linter.unusedSimpArgs false
set_option linter.unusedSectionVars false
namespace Go.Proofs.YtogipicegdbhdaaDoor.S72d
set_option maxHeartbeats 20000000
open Go Go.Proofs.YtogipicegdbhdaaDoor.Vc Go.Proofs Go.Proofs.YtogipicegdbhdaaDoor.S72
section
section
variable {hs hon:List Int} {nd sz st ph:Int} {rt:Nat→Int→eX} {R0:Int→List eX} {h:Int} {sh:List UInt8} {s:ew} {x:Ml×Int}
def Lg (hs hon:List Int) (rt:Nat→Int→eX) (x:Ml×Int):Prop:=x.1.1=1∧x.1.2.1=x.1.2.2.2.1∧∃k:Nat,k<hs.length∧hs.getD k 0=x.1.2.2.2.1∧x.1.2.2.2.2.1=rt k x.1.2.2.1
def Lf (hs hon:List Int) (R0:Int→List eX) (x:Ml×Int):Prop:=x.1.1=2∧x.1.2.1∈hon∧∃k:Nat,k<hs.length∧hs.getD k 0=x.1.2.2.2.1∧((R0 x.1.2.1).getD k []).length≠0∧x.1.2.2.2.2.1= [cr ((R0 x.1.2.1).getD k []) x.1.2.2.1]
theorem G1.lie (g:G1 hs hon nd sz rt h sh s) (hf:x.1.2.1∉hon):G1 hs hon nd sz rt h sh (mE hs nd sz st ph s x):=by
 refine⟨g.me,g.shr,g.ok.rcv,fun k hk hh=> ?_,fun k j hk hj hh=> ?_⟩
 ·rcases Al (hs:=hs) (nd:=nd) (sz:=sz) (st:=st) (ph:=ph) (me:=s.1) (R:=s.2.2.1) (mk:=x.1.1) (f:=x.1.2.1) (t:=x.1.2.2.1) (d:=x.1.2.2.2.1) (ss:=x.1.2.2.2.2.1) (tick:=x.2) k with e|⟨e,e2,_⟩
  ·show(dH _ _ _ _ _ _ _ _ _ _ _ _ _).getD k []= []∨(dH _ _ _ _ _ _ _ _ _ _ _ _ _).getD k []=_
   rw [e];exact g.rows k hk hh
  ·obtain⟨a1,a2,a3,_⟩:=e
   obtain⟨_,_,n3,n4,_⟩:=pK a1
   refine absurd hh ?_
   rw [←e2,n4,←a3]
   exact hf
 ·rcases pJ (hs:=hs) (sz:=sz) (st:=st) (ph:=ph) (me:=s.1) (W:=s.2.2.2.1) (mk:=x.1.1) (f:=x.1.2.1) (t:=x.1.2.2.1) (d:=x.1.2.2.2.1) (ss:=x.1.2.2.2.2.1) (tick:=x.2) k j with e|⟨e,_,e2,_⟩
  ·show((dR _ _ _ _ _ _ _ _ _ _ _ _).getD k []).getD j []= []
   rw [e];exact g.vals k j hk hj hh
  ·obtain⟨_,_,n3,_⟩:=pK e.1
   refine absurd hh ?_
   rw [←e2,n3]
   exact hf
theorem G1.row (ho:dk (-1) hs=true) (g:G1 hs hon nd sz rt h sh s) (hx:Lg hs hon rt x) (ht:x.1.2.2.1=h):G1 hs hon nd sz rt h sh (mE hs nd sz st ph s x):=by
 obtain⟨x1,x2,k0,k1,k2,k3⟩:=hx
 refine⟨g.me,g.shr,g.ok.rcv,fun k hk hh=> ?_,fun k j hk hj hh=> ?_⟩
 ·rcases Al (hs:=hs) (nd:=nd) (sz:=sz) (st:=st) (ph:=ph) (me:=s.1) (R:=s.2.2.1) (mk:=x.1.1) (f:=x.1.2.1) (t:=x.1.2.2.1) (d:=x.1.2.2.2.1) (ss:=x.1.2.2.2.2.1) (tick:=x.2) k with e|⟨_,e2,e3⟩
  ·show(dH _ _ _ _ _ _ _ _ _ _ _ _ _).getD k []= []∨(dH _ _ _ _ _ _ _ _ _ _ _ _ _).getD k []=_
   rw [e];exact g.rows k hk hh
  ·right
   show(dH _ _ _ _ _ _ _ _ _ _ _ _ _).getD k []=_
   rw [e3,k3,ht]
   rw [←k2,uQ ho k1] at e2
   rw [e2]
 ·rcases pJ (hs:=hs) (sz:=sz) (st:=st) (ph:=ph) (me:=s.1) (W:=s.2.2.2.1) (mk:=x.1.1) (f:=x.1.2.1) (t:=x.1.2.2.1) (d:=x.1.2.2.2.1) (ss:=x.1.2.2.2.2.1) (tick:=x.2) k j with e|⟨e,_⟩
  ·show((dR _ _ _ _ _ _ _ _ _ _ _ _).getD k []).getD j []= []
   rw [e];exact g.vals k j hk hj hh
  ·have:=e.2.1;omega
theorem wq {hs:List Int} {nd sz st ph me:Int} {R:List eX} {mk f t d:Int} {ss:eX} {tick:Int} (ht:st+ph≤tick):dH hs nd sz st ph me R mk f t d ss tick=R:=if_neg fun g=>by have:=g.2.2.2.2.2;omega
theorem G2.lie (g:G2 hs hon nd sz R0 h sh s) (hf:x.1.2.1∉hon) (ht:st+ph≤x.2):G2 hs hon nd sz R0 h sh (mE hs nd sz st ph s x):=by
 refine⟨g.me,g.shr,g.ok.rcv,?_,fun k j hk hj hh hne=> ?_⟩
 ·show dH _ _ _ _ _ _ _ _ _ _ _ _ _=_
  rw [wq ht];exact g.rows
 ·rcases pJ (hs:=hs) (sz:=sz) (st:=st) (ph:=ph) (me:=s.1) (W:=s.2.2.2.1) (mk:=x.1.1) (f:=x.1.2.1) (t:=x.1.2.2.1) (d:=x.1.2.2.2.1) (ss:=x.1.2.2.2.2.1) (tick:=x.2) k j with e|⟨e,_,e2,_⟩
  ·show((dR _ _ _ _ _ _ _ _ _ _ _ _).getD k []).getD j []= []∨_∧((dR _ _ _ _ _ _ _ _ _ _ _ _).getD k []).getD j []=_
   rw [e];exact g.vals k j hk hj hh hne
  ·obtain⟨_,_,n3,_⟩:=pK e.1
   refine absurd hh ?_
   rw [←e2,n3]
   exact hf
theorem G2.val (ho:dk (-1) hs=true) (g:G2 hs hon nd sz R0 h sh s) (hx:Lf hs hon R0 x) (ht:x.1.2.2.1=h) (htk:st+ph≤x.2):G2 hs hon nd sz R0 h sh (mE hs nd sz st ph s x):=by
 obtain⟨x1,x2,k0,k1,k2,k3,k4⟩:=hx
 refine⟨g.me,g.shr,g.ok.rcv,?_,fun k j hk hj hh hne=> ?_⟩
 ·show dH _ _ _ _ _ _ _ _ _ _ _ _ _=_
  rw [wq htk];exact g.rows
 ·show((dR _ _ _ _ _ _ _ _ _ _ _ _).getD k []).getD j []= []∨_∧((dR _ _ _ _ _ _ _ _ _ _ _ _).getD k []).getD j []=_
  rcases pJ (hs:=hs) (sz:=sz) (st:=st) (ph:=ph) (me:=s.1) (W:=s.2.2.2.1) (mk:=x.1.1) (f:=x.1.2.1) (t:=x.1.2.2.1) (d:=x.1.2.2.2.1) (ss:=x.1.2.2.2.2.1) (tick:=x.2) k j with e|⟨e,e1,e2,e3⟩
  ·rw [e];exact g.vals k j hk hj hh hne
  ·right
   obtain⟨_,_,n3,_⟩:=pK e.1
   rw [←k2,uQ ho k1] at e1
   rw [e2] at n3
   rw [e3,k4,n3,←e1,ht]
   exact⟨k3,rfl⟩
theorem kb {S D:Type} (f:S→D→S) (G:S→Prop):∀(L:List D) (s:S),G s→(∀x∈L,∀s,G s→G (f s x))→G (L.foldl f s)
 |[],_,g,_=>g
 |x::L,s,g,h=>kb f G L (f s x) (h x List.mem_cons_self s g) fun y hy=>h y (List.mem_cons_of_mem _ hy)
end
end
section
def qE (hs:List Int) (nd sz:Int) (nz:Int→List UInt8) (k:Nat) (h:Int):eX:=rowL (jL nd sz (nz (hs.getD k 0))) (fH nd sz (nz (hs.getD k 0))) h
section
variable {hs hon:List Int} {nd wr sz st ph:Int} {nz:Int→List UInt8} {h:Int} {sh:List UInt8}
theorem G1.beg (hb:c6 hs nd wr sz st ph h sh (nz h)=0):G1 hs hon nd sz (qE hs nd sz nz) h sh (xf hs nd wr sz st ph h sh (nz h),sB hs nd wr sz st ph h sh (nz h),ov hs nd wr sz st ph h sh (nz h),ou hs nd wr sz st ph h sh (nz h),()):=by
 obtain⟨b1,b2,b3,b4⟩:=u7 hb
 obtain⟨e1,e2,e3,e4,_⟩:=lh hb
 have hT:=P5 b1
 refine⟨e1,e2,SOk.beg hb,fun k hk hh=> ?_,fun k j hk hj hh=> ?_⟩
 ·show(ov hs nd wr sz st ph h sh (nz h)).getD k []= []∨(ov hs nd wr sz st ph h sh (nz h)).getD k []=_
  rw [e3,pE]
  split
  ·rename_i g
   right
   unfold qE
   rw [←g.1,(iq b2).2.2]
  ·left
   rw [gD (by rw [List.length_replicate];exact hk),List.getElem_replicate]
 ·show((ou hs nd wr sz st ph h sh (nz h)).getD k []).getD j []= []
  have r0:∀{α:Type} (d a:α) (n i:Nat),i<n→(List.replicate n a).getD i d=a:=fun d a n i h=>by rw [gD (by rw [List.length_replicate];exact h),List.getElem_replicate]
  rw [e4,r0 _ _ _ _ hk,r0 _ _ _ _ hj]
end
end
section
def bS (es:List (Int×ew)) (h:Int):List eX:=match aW es h with|some s=>s.2.2.1|none=> []
def cd (es:List (Int×ew)) (h:Int):List (List eX):=match aW es h with|some s=>s.2.2.2.1|none=> []
structure Run (hs:List Int) (nd wr sz st ph:Int) (hon:List Int) (nz sh:Int→List UInt8) (es0:List (Int×ew)) (D1 D2:List (Ml×Int)):Prop where
 tk:Tk hs nd wr sz st ph
 sub:hon.Sublist hs
 many:(hs.length:Int)≤hon.length+wr
 beg:∀h∈hon,c6 hs nd wr sz st ph h (sh h) (nz h)=0
 start:∀h∈hon,aW es0 h=some (xf hs nd wr sz st ph h (sh h) (nz h),sB hs nd wr sz st ph h (sh h) (nz h),ov hs nd wr sz st ph h (sh h) (nz h),ou hs nd wr sz st ph h (sh h) (nz h),())
 one:∀x∈D1,x.1.2.1∉hon∨Lg hs hon (qE hs nd sz nz) x
 two:∀x∈D2,st+ph≤x.2∧(x.1.2.1∉hon∨Lf hs hon (bS (aQ hs nd sz st ph es0 D1)) x)
section
variable {hs:List Int} {nd wr sz st ph:Int} {hon:List Int} {nz sh:Int→List UInt8} {es0:List (Int×ew)} {D1 D2:List (Ml×Int)} (P:Run hs nd wr sz st ph hon nz sh es0 D1 D2)
include P
theorem A9 {h:Int} {D:List (Ml×Int)} {x:Ml×Int} (hx:x∈kz h D):x∈D∧x.1.2.2.1=h:=by
 obtain⟨h1,h2⟩:=List.mem_filter.1 hx
 exact⟨h1,of_decide_eq_true h2⟩
theorem Run.keep1 {h:Int}:∀x∈kz h D1,∀s,G1 hs hon nd sz (qE hs nd sz nz) h (sh h) s→G1 hs hon nd sz (qE hs nd sz nz) h (sh h) (mE hs nd sz st ph s x):=fun x hx s g=>by
 obtain⟨h1,h2⟩:=A9 P hx
 rcases P.one x h1 with e|e
 ·exact g.lie e
 ·exact g.row P.tk.ho e h2
theorem Run.mid {h:Int} (hh:h∈hon):∃s,aW (aQ hs nd sz st ph es0 D1) h=some s∧s=(kz h D1).foldl (mE hs nd sz st ph) (xf hs nd wr sz st ph h (sh h) (nz h),sB hs nd wr sz st ph h (sh h) (nz h),ov hs nd wr sz st ph h (sh h) (nz h),ou hs nd wr sz st ph h (sh h) (nz h),())∧
  G1 hs hon nd sz (qE hs nd sz nz) h (sh h) s:=by
 rw [eo,P.start h hh]
 exact⟨_,rfl,rfl,kb _ _ _ _ (G1.beg (P.beg h hh)) P.keep1⟩
theorem Run.keep2 {h:Int}:∀x∈kz h D2,∀s,G2 hs hon nd sz (bS (aQ hs nd sz st ph es0 D1)) h (sh h) s→G2 hs hon nd sz (bS (aQ hs nd sz st ph es0 D1)) h (sh h) (mE hs nd sz st ph s x):=fun x hx s g=>by
 obtain⟨h1,h2⟩:=A9 P hx
 obtain⟨t,e|e⟩:=P.two x h1
 ·exact g.lie e t
 ·exact g.val P.tk.ho e h2 t
theorem Run.fin {h:Int} (hh:h∈hon):∃s0 s,aW (aQ hs nd sz st ph es0 D1) h=some s0∧aW (aQ hs nd sz st ph (aQ hs nd sz st ph es0 D1) D2) h=some s∧s=(kz h D2).foldl (mE hs nd sz st ph) s0∧
  G2 hs hon nd sz (bS (aQ hs nd sz st ph es0 D1)) h (sh h) s0∧G2 hs hon nd sz (bS (aQ hs nd sz st ph es0 D1)) h (sh h) s:=by
 obtain⟨s0,e0,_,g⟩:=P.mid hh
 have g2:G2 hs hon nd sz (bS (aQ hs nd sz st ph es0 D1)) h (sh h) s0:=⟨g.me,g.shr,g.ok,by unfold bS;rw [e0],fun k j hk hj hj2 _=> .inl (g.vals k j hk hj hj2)⟩
 refine⟨s0,_,e0,?_,rfl,g2,kb _ _ _ _ g2 P.keep2⟩
 rw [eo,e0];rfl
theorem Run.played {l:List RP} (hp:∀h∈hon,aW (e7 hs l) h=some (fA hs h (bS (aQ hs nd sz st ph es0 D1) h) (cd (aQ hs nd sz st ph (aQ hs nd sz st ph es0 D1) D2) h))):
  Played hs nd wr sz st ph hon (bS (aQ hs nd sz st ph es0 D1)) (cd (aQ hs nd sz st ph (aQ hs nd sz st ph es0 D1) D2)) l:=by
 have F:∀h∈hon,∃s,s.2.2.1=bS (aQ hs nd sz st ph es0 D1) h∧cd (aQ hs nd sz st ph (aQ hs nd sz st ph es0 D1) D2) h=s.2.2.2.1∧G2 hs hon nd sz (bS (aQ hs nd sz st ph es0 D1)) h (sh h) s:=fun h hh=>by
  obtain⟨s0,s,_,e,_,_,g⟩:=P.fin hh
  exact⟨s,g.rows,by unfold cd;rw [e],g⟩
 refine⟨P.tk,P.sub,P.many,fun h hh=> ?_,fun h hh=> ?_,fun h hh k j hk hj hj2 hne=> ?_,fun h hh=> ?_,hp⟩
 ·obtain⟨s,e1,_,g⟩:=F h hh
  rw [←e1];exact g.ok.rl
 ·obtain⟨s,e1,_,g⟩:=F h hh
  rw [←e1];exact g.ok.ro
 ·obtain⟨s,_,e2,g⟩:=F h hh
  rw [e2];exact g.vals k j hk hj hj2 hne
 ·obtain⟨s,_,e2,g⟩:=F h hh
  rw [e2];exact g.ok.szd
end
end
theorem Hi {hs:List Int} (hb:∀x∈hs,0≤x∧x<12) {me:Int} (hm:me∈hs) {R:List eX} {W:List (List eX)} {x:Int} (hx:x∈fA hs me R W):¬ec (jO hs) x:=by
 obtain⟨k,hk,rfl⟩:=List.mem_map.1 hx
 have h0:0≤dI hs me R W k:=by
  unfold dI
  split
  ·exact Int.le_refl 0
  ·have:=wK (hb me hm).1 (hb me hm).2
   exact(vH _ _ _ _ (by rw [Int.one_mul];omega) (by rw [Int.one_mul];omega) fun p hp=>by
    obtain⟨j,j1,_,j3,_⟩:=fQ hs 0 hp
    rw [j3];exact hb _ (bc 0 hs j j1)).1
 have hs':(dI hs me R W k).toNat&&&(jO hs).toNat=(dI hs me R W k).toNat:=by
  rw [Nat.and_comm]
  refine vD.2 fun n hn=> ?_
  unfold jO
  rw [rH]
  right
  unfold dI at hn
  split at hn
  ·simp at hn
  ·rcases(pY _ _ _ _ _).1 hn with h|⟨p,hp,_,h3⟩
   ·rw [Int.one_mul,mG,Nat.testBit_two_pow] at h
    exact⟨me,hm,of_decide_eq_true h⟩
   ·obtain⟨j,j1,_,j3,_⟩:=fQ hs 0 hp
    exact⟨p.2,by rw [j3];exact bc 0 hs j j1,h3⟩
 unfold ec
 rw [hs',Nat.xor_self]
 intro h
 omega
theorem kS {hs:List Int} {h:Int}:∀(l:List RP) (es:Ps),(∀p∈l,p.1≠h)→aW (l.foldl (ee hs) es) h=aW es h
 |[],_,_=>rfl
 |p::l,es,hp=>by
  show aW (l.foldl (ee hs) (ee hs es p)) h=_
  rw [kS l _ fun q hq=>hp q (List.mem_cons_of_mem _ hq)]
  unfold ee
  split
  ·rw [iJ,if_neg (hp p List.mem_cons_self)]
  ·rfl
theorem qL {hs:List Int} (hb:∀x∈hs,0≤x∧x<12) {R:Int→List eX} {W:Int→List (List eX)} {h:Int}:∀(L:List Int) (es:Ps),L.Nodup→(∀a∈L,a∈hs)→aW es h=none→h∈L→
  aW ((L.map fun a=>(a,fA hs a (R a) (W a),())).foldl (ee hs) es) h=some (fA hs h (R h) (W h))
 |[],_,_,_,_,hh=>by cases hh
 | a::L,es,hn,hL,he,hh=>by
  rw [List.nodup_cons] at hn
  show aW ((L.map fun a=>(a,fA hs a (R a) (W a),())).foldl (ee hs) (ee hs es (a,fA hs a (R a) (W a),()))) h=_
  by_cases e:a=h
  ·subst e
   rw [kS _ _ fun p hp=>by
    obtain⟨b,hb2,rfl⟩:=List.mem_map.1 hp
    intro e
    have e:b=a:=e
    exact hn.1 (e▸hb2)]
   unfold ee
   rw [if_pos ⟨he,fun⟨x,h1,h2⟩=>Hi hb (hL a List.mem_cons_self) h1 h2,by show((fA hs a (R a) (W a)).length:Int)=_;unfold fA;rw [List.length_map,List.length_range],hL a List.mem_cons_self⟩,iJ,if_pos rfl]
  ·refine qL hb L _ hn.2 (fun b hb2=>hL b (List.mem_cons_of_mem _ hb2)) ?_ ((List.mem_cons.1 hh).resolve_left fun g=>e g.symm)
   unfold ee
   split
   ·rw [iJ,if_neg e];exact he
   ·exact he
theorem Dd {hs hon:List Int} {R:Int→List eX} {W:Int→List (List eX)} (hb:∀x∈hs,0≤x∧x<12) (hn:hon.Nodup) (hsub:∀a∈hon,a∈hs) {lp:List RP} (hl:∀p∈lp,p.1∉hon) {h:Int} (hh:h∈hon):
  aW (e7 hs (lp++hon.map fun a=>(a,fA hs a (R a) (W a),()))) h=some (fA hs h (R h) (W h)):=by
 unfold e7
 rw [List.foldl_append]
 exact qL hb hon _ hn hsub (by rw [kS lp [] fun p hp e=>hl p hp (e▸hh)];rfl) hh
end Go.Proofs.YtogipicegdbhdaaDoor.S72d
